/- The texts of this claim's seat, joined: part 13. -/
import Derived.Test.YtmmiipnmimjojaaJ12
import Derived.Lib.SlicesS
import Derived.WalkLawsBesides
import Derived.Deep.RegionLaw
section
namespace Go.Proofs.Ytmmiipnmimjojaa.PS
open Go.RowKit Go.Proofs.YtmmiipnmimjojaaW.PrintWords Go.Proofs.YtmmiipnmimjojaaW.PrintLast Go.Proofs.YtmmiipnmimjojaaW.PrintMore
open Go.Maps Go.Proofs.Ytmmiipnmimjojaa.PD
set_option linter.unusedVariables false
set_option linter.unusedSimpArgs false
/-- W0: the law's beginning; S: the disk's blocks, all of them newer. -/
def Dk (W0 W : World) (S : Nat → Prop) (g N : Nat) (D : Dsk) : Prop := Below W0.heap.size W0 W ∧ (∀ k, S k → W0.heap.size ≤ k ∧ k < W.heap.size) ∧ DskAt W S g D ∧ DInv N D
/-- What a deed at W leaves at w'. -/
def Nx (W0 W : World) (S : Nat → Prop) (w' : World) (g N : Nat) (D : Dsk) : Prop := ∃ S', Dk W0 w' S' g N D ∧ Kp W w' S ∧ ∀ k, k < W.heap.size → S' k → S k
section
variable {W0 W W1 w' : World} {S : Nat → Prop} {g N : Nat} {D : Dsk}
theorem Dk.step (h : Dk W0 W S g N D) (hb : Below W.heap.size W W1) : Dk W0 W1 S g N D :=
  ⟨below_step h.1 hb, fun k hk => ⟨(h.2.1 k hk).1, Nat.lt_of_lt_of_le (h.2.1 k hk).2 hb.size⟩, h.2.2.1.below hb, h.2.2.2⟩
theorem Dk.kp (h : Dk W0 W S g N D) {P : Nat → Prop} (hb : Below W0.heap.size W0 W1) (k : Kp W W1 P) (hP : ∀ k, S k → ¬ P k) : Dk W0 W1 S g N D :=
  ⟨hb, fun i hk => ⟨(h.2.1 i hk).1, Nat.lt_of_lt_of_le (h.2.1 i hk).2 k.size⟩, h.2.2.1.kp k (fun i _ hi => hP i hi), h.2.2.2⟩
theorem Dk.next {M : Nat} {D' : Dsk} (h : Dk W0 W S g N D) (k : Kp W w' (WR W S)) (hd : DskAt w' (Nw W w' S) g D') (hi : DInv M D') : Nx W0 W S w' g M D' := by
  have s0 := h.1.size
  have s1 := k.size
  refine ⟨Nw W w' S, ⟨h.1.trans (k.below (B := W0.heap.size) (fun i hi _ => (h.2.1 i hi.1).1) s0), fun i hx => ?_, hd, hi⟩, k.mono (fun _ hk => hk.1), fun i hi hx => ?_⟩
  · rcases hx with hx | hx
    · have := h.2.1 i hx; omega
    · omega
  · rcases hx with hx | hx
    · exact hx
    · omega
theorem Nx.of_below {M : Nat} (h : Dk W0 W S g N D) (hb : Below W.heap.size W w') (hM : N ≤ M) : Nx W0 W S w' g M D :=
  ⟨S, ⟨(h.step hb).1, (h.step hb).2.1, (h.step hb).2.2.1, h.2.2.2.mono hM⟩, Kp.of_below hb _, fun _ _ h => h⟩
theorem Dk.notWR (h : Dk W0 W S g N D) {A : Option Addr} {n : Nat} (hA : ∀ ad, A = some ad → 0 < n → ¬ S ad.block) : ∀ ad, A = some ad → 0 < n → ¬ WR W S ad.block := fun ad e hn hw => hA ad e hn hw.1
theorem dk_new (r : Int) (hr : r ≤ 9223372036854775807) (W : World) : Calls Try.prog 19 #[.int .i64 r] W fun e w' => ∃ g S, e = .returned (.pointer (some ⟨g, 0, none⟩)) ∧ Dk W w' S g 0 ⟨max 0 r, []⟩ := by
  refine (new_calls r W).mono ?_
  rintro e w' ⟨g, rfl, hd, hb⟩
  refine ⟨g, _, rfl, hb, fun k hk => ?_, hd, ⟨by dsimp only; omega, Nat.zero_le _, srt_nil, fun n f h => (List.not_mem_nil h).elim⟩⟩
  rcases hk with hk | hk
  · exact hk.elim
  · omega
theorem dk_write {s : ByteArray} {at_ : Int} {A : Option Addr} {c : Nat} {l : List Int} (h : Dk W0 W S g N D) (hN : N ≤ 1000000) (hs : s.size ≤ maxLen) (hr : k8.C W A l.length l) (hc : l.length ≤ c) (hl : l.length ≤ 140737488355328)
    (hA : ∀ ad, A = some ad → 0 < l.length → ¬ S ad.block) :
    Calls Try.prog 20 #[.pointer (some ⟨g, 0, none⟩), .string s, .int .i64 at_, .slice A l.length c] W fun e w' => e = .returned (.int .i64 (dWrite D s at_ l).1) ∧ Nx W0 W S w' g (N + 1) (dWrite D s at_ l).2 := by
  refine (write_calls h.2.2.1 hs (h.2.2.2.ok hN) (by have := h.2.2.2.used; omega) hr hc hl (h.notWR hA)).mono ?_
  rintro e w' ⟨rfl, hk, hd⟩
  exact ⟨rfl, h.next hk hd (dWrite_inv h.2.2.2)⟩
theorem dk_cut {s : ByteArray} {z : Int} (h : Dk W0 W S g N D) (hN : N ≤ 1000000) (hs : s.size ≤ maxLen) :
    Calls Try.prog 35 #[.pointer (some ⟨g, 0, none⟩), .string s, .int .i64 z] W fun e w' => e = .returned (.int .i64 (dCut D s z).1) ∧ Nx W0 W S w' g (N + 1) (dCut D s z).2 := by
  refine (cut_calls h.2.2.1 hs (h.2.2.2.ok hN)).mono ?_
  rintro e w' ⟨rfl, hk, hd⟩
  exact ⟨rfl, h.next hk hd (dCut_inv h.2.2.2)⟩
theorem dk_sync {s : ByteArray} (h : Dk W0 W S g N D) (hN : N ≤ 1000000) (hs : s.size ≤ maxLen) :
    Calls Try.prog 21 #[.pointer (some ⟨g, 0, none⟩), .string s] W fun e w' => e = .returned (.int .i64 (dSync D s).1) ∧ Nx W0 W S w' g N (dSync D s).2 := by
  refine (sync_calls h.2.2.1 hs (h.2.2.2.ok hN)).mono ?_
  rintro e w' ⟨rfl, hk, hd⟩
  exact ⟨rfl, h.next hk hd (dSync_inv h.2.2.2)⟩
theorem dk_remove {s : ByteArray} (h : Dk W0 W S g N D) (hs : s.size ≤ maxLen) :
    Calls Try.prog 34 #[.pointer (some ⟨g, 0, none⟩), .string s] W fun e w' => e = .returned (.int .i64 (dRemove D s).1) ∧ Nx W0 W S w' g N (dRemove D s).2 := by
  refine (remove_calls h.2.2.1 hs).mono ?_
  rintro e w' ⟨rfl, hk, hd⟩
  exact ⟨rfl, h.next hk hd (dRemove_inv h.2.2.2)⟩
theorem dk_rename {s t : ByteArray} (h : Dk W0 W S g N D) (hs : s.size ≤ maxLen) (ht : t.size ≤ maxLen) :
    Calls Try.prog 31 #[.pointer (some ⟨g, 0, none⟩), .string s, .string t] W fun e w' => e = .returned (.int .i64 (dRename D s t).1) ∧ Nx W0 W S w' g N (dRename D s t).2 := by
  refine (rename_calls h.2.2.1 hs ht (by have := h.2.2.2.few; omega)).mono ?_
  rintro e w' ⟨rfl, hk, hd⟩
  exact ⟨rfl, h.next hk hd (dRename_inv h.2.2.2)⟩
theorem dk_crash {A : Option Addr} {c : Nat} {keep : List Int} (h : Dk W0 W S g N D) (hN : N ≤ 1000000) (hk : (Kd.int .i64).C W A keep.length keep) (hA : ∀ ad, A = some ad → 0 < keep.length → ¬ S ad.block) (hkb : ∀ z ∈ keep, z ≤ 9223372036854775807) :
    Calls Try.prog 22 #[.pointer (some ⟨g, 0, none⟩), .slice A keep.length c] W fun e w' => e = .returned (.tuple #[]) ∧ Nx W0 W S w' g N (dCrash D keep) := by
  refine (crash_calls h.2.2.1 (h.2.2.2.ok hN) h.2.2.2.ck hk (h.notWR hA) hkb).mono ?_
  rintro e w' ⟨rfl, hk, hd⟩
  exact ⟨rfl, h.next hk hd (dCrash_inv h.2.2.2)⟩
theorem dk_read {s : ByteArray} (h : Dk W0 W S g N D) (hN : N ≤ 1000000) (hs : s.size ≤ maxLen) :
    Calls Try.prog 23 #[.pointer (some ⟨g, 0, none⟩), .string s] W fun e w' => ∃ A c, e = .returned (.tuple #[.slice A (dRead D s).1.length c, .int .i64 (dRead D s).2]) ∧ k8.R 5 w' W.heap.size (fun _ => True) (.slice A (dRead D s).1.length c) (dRead D s).1 ∧ Below W.heap.size W w' := by
  refine (read_calls h.2.2.1 hs (h.2.2.2.ok hN)).mono ?_
  rintro e w' ⟨v, rfl, ht, hb⟩
  obtain ⟨A, c, rfl⟩ := Kd.R_slice ht.R
  exact ⟨A, c, rfl, ht.R, hb⟩
theorem dk_sure {s : ByteArray} (h : Dk W0 W S g N D) (hN : N ≤ 1000000) (hs : s.size ≤ maxLen) :
    Calls Try.prog 40 #[.pointer (some ⟨g, 0, none⟩), .string s] W fun e w' => ∃ A c, e = .returned (.tuple #[.slice A (dSure D s).1.length c, .int .i64 (dSure D s).2]) ∧ k8.R 5 w' W.heap.size (fun _ => True) (.slice A (dSure D s).1.length c) (dSure D s).1 ∧ Below W.heap.size W w' := by
  refine (sure_calls h.2.2.1 hs (h.2.2.2.ok hN)).mono ?_
  rintro e w' ⟨v, rfl, ht, hb⟩
  obtain ⟨A, c, rfl⟩ := Kd.R_slice ht.R
  exact ⟨A, c, rfl, ht.R, hb⟩
theorem dk_used (h : Dk W0 W S g N D) : Calls Try.prog 45 #[.pointer (some ⟨g, 0, none⟩)] W fun e w' => e = .returned (.int .i64 (usedB D.files)) ∧ Below W.heap.size W w' :=
  used_calls h.2.2.1 (by have := h.2.2.2.used; omega)
theorem dk_names (h : Dk W0 W S g N D) : Calls Try.prog 25 #[.pointer (some ⟨g, 0, none⟩)] W fun e w' => ∃ A c, e = .returned (.slice A (namesB D.files).length c) ∧ Kd.R Kd.string 9 w' W.heap.size (fun _ => True) (.slice A (namesB D.files).length c) (namesB D.files) ∧ Below W.heap.size W w' := by
  refine (names_calls h.2.2.1 (by have := h.2.2.2.few; omega)).mono ?_
  rintro e w' ⟨v, rfl, hr, hb⟩
  obtain ⟨A, c, rfl⟩ := Kd.R_slice hr
  exact ⟨A, c, rfl, hr, hb⟩
end
/-- A literal row, as it is read. -/
theorem C_lit (K : IntKind) (w : World) (l : List Int) (t : TypeId) (hl : l.length ≤ 9223372036854775807) (fr : Nat × Nat) {A : Option Addr} (hA : A = some ⟨w.heap.size, 0, none⟩) : (Kd.int K).C (w.alloc (.cells (l.map (Value.int K)).toArray t fr)) A l.length l := by
  refine ⟨rfl, hl, fun _ => ⟨_, hA, fun j p hj => ⟨[.int K p], rfl, rfl, fun i u hu => ?_⟩⟩⟩
  have hi : i = 0 := by
    rcases i with _ | i
    · rfl
    · simp at hu
  subst hi
  simp at hu
  subst hu
  have e : ({ block := w.heap.size, off := 0 } : Addr).add (j * (Kd.int K).sz + 0) = ⟨w.heap.size, j, none⟩ := by
    rw [show (Kd.int K).sz = 1 from rfl, show j * 1 + 0 = j by omega]
    simp [Addr.add]
    exact fun h => h.symm
  rw [e, cell_of_row _ _ j _ _ fr (blk_new w _)]
  simp [hj]
/-- '[]byte("..")' with a constant. -/
theorem conv_lit (n c : Nat) (w : World) (C : Array Value) : (convert 22 22 (.slice (some ⟨w.heap.size, 0, none⟩) n c)).run Try.prog (w.alloc (.cells C 5)) = .ok (.slice (some ⟨w.heap.size, 0, none⟩) n c) (w.alloc (.cells C 5 (C.size, C.size + 1))) := by
  have hsh : (w.alloc (.cells C 5)).shape? w.heap.size = some (5, C.size) := by
    have : (w.alloc (.cells C 5)).heap[w.heap.size]? = some (.cells C 5) := blk_new w _
    unfold World.shape?
    rw [this]
  have hfr : (w.alloc (.cells C 5)).freeze ⟨w.heap.size, C.size, none⟩ 1 = w.alloc (.cells C 5 (C.size, C.size + 1)) := by
    have hm : ∀ (a : Array Obj) (x : Obj) (f : Obj → Obj), (a.push x).modify a.size f = a.push (f x) := by
      intro a x f
      apply Array.ext
      · simp
      · intro i h1 h2
        simp only [Array.getElem_modify, Array.getElem_push]
        by_cases h : a.size = i
        · subst h
          simp
        · have hi : i < a.size := by simp at h1; omega
          simp [h, hi]
    unfold World.freeze
    rw [if_neg (by decide)]
    show ({ w.alloc (.cells C 5) with heap := (w.heap.push (.cells C 5)).modify w.heap.size _ } : World) = _
    rw [hm]
    rfl
  simp [convert, run_underlying Try.underlying22, run_underlying Try.underlying5, markStringish, hsh]
  exact hfr
end Go.Proofs.Ytmmiipnmimjojaa.PS
end
section
namespace Go.Proofs.Ytmmiipnmimjojaa.PS
open Go.RowKit Go.Proofs.YtmmiipnmimjojaaW.PrintWords Go.Proofs.YtmmiipnmimjojaaW.PrintLast Go.Proofs.YtmmiipnmimjojaaW.PrintMore
open Go.Maps Go.Proofs.Ytmmiipnmimjojaa.PD
set_option linter.unusedVariables false
set_option linter.unusedSimpArgs false
def lA : ByteArray := { data := #[97] }
def lB : ByteArray := { data := #[98] }
def lD0 : Dsk := ⟨max 0 100, []⟩
def lD1 : Dsk := ⟨100, [([97], ⟨[120, 121, 122], [], false, [⟨false, 0, 0, [120, 121, 122]⟩]⟩)]⟩
def lD2 : Dsk := ⟨100, [([97], ⟨[120, 121, 122], [120, 121, 122], true, []⟩)]⟩
def lD3 : Dsk := ⟨100, [([97], ⟨[120, 112, 113], [120, 121, 122], true, [⟨false, 0, 1, [112, 113]⟩]⟩)]⟩
def lD4 : Dsk := ⟨100, [([97], ⟨[120, 112, 113], [120, 121, 122], true, [⟨false, 0, 1, [112, 113]⟩]⟩), ([98], ⟨[120], [], false, [⟨false, 0, 0, [120]⟩]⟩)]⟩
def lD5 : Dsk := ⟨100, [([97], ⟨[120, 112, 122], [120, 112, 122], true, []⟩)]⟩
theorem live1 : dWrite lD0 lA 0 [120, 121, 122] = (0, lD1) := by rfl
theorem live2 : dSync lD1 lA = (0, lD2) := by rfl
theorem live3 : dWrite lD2 lA 1 [112, 113] = (0, lD3) := by rfl
theorem live4 : dWrite lD3 lB 0 [120] = (0, lD4) := by rfl
theorem live5 : dCrash lD4 [1] = lD5 := by rfl
theorem live6 : dRead lD5 lA = ([120, 112, 122], 0) := by rfl
theorem live7 : dRead lD5 lB = ([], 8) := by rfl
set_option maxHeartbeats 1000000 in
set_option maxRecDepth 100000 in
theorem live_calls (W : World) : Calls Try.prog 18 #[] W fun e w' => e = .returned (.bool true) ∧ Below W.heap.size W w' := by
  have hconv := conv_lit
  have hcs : ∀ (A : Option Addr) (c : Nat) (l : List Int) (w : World), k8.C w A l.length l → (convert 22 9 (.slice A l.length c)).run Try.prog w = .ok (.string (strOfNums l)) w := fun A c l w h => Kd.C_string Try.underlying22 Try.underlying5 Try.underlying9 h
  go_enter Try.func18, Try.ntmps18
  go_wp2_with fail
  refine (dk_new 100 (by decide) W).mono ?_
  rintro e w1 ⟨g, S1, rfl, h1⟩
  replace h1 : Dk W w1 S1 g 0 lD0 := h1
  go_wp2_with fail
  refine (dk_write (at_ := 0) (s := lA) (l := [120, 121, 122]) (c := 3) (h1.step (below_alloc (Below.refl _ _) _)) (by decide) (by decide) (C_lit .u8 w1 [120, 121, 122] 5 (by decide) (3, 4) rfl) (by decide) (by decide) (fun ad e _ hS => by cases e; have := h1.2.1 _ hS; dsimp only at this; omega)).mono ?_
  rintro e w2 ⟨rfl, S2, h2, _, _⟩
  rw [live1] at h2 ⊢
  dsimp only at h2
  go_wp2_with fail
  refine (dk_sync (s := lA) h2 (by decide) (by decide)).mono ?_
  rintro e w3 ⟨rfl, S3, h3, _, _⟩
  rw [live2] at h3 ⊢
  dsimp only at h3
  go_wp2_with fail
  refine (dk_write (at_ := 1) (s := lA) (l := [112, 113]) (c := 2) (h3.step (below_alloc (Below.refl _ _) _)) (by decide) (by decide) (C_lit .u8 w3 [112, 113] 5 (by decide) (2, 3) rfl) (by decide) (by decide) (fun ad e _ hS => by cases e; have := h3.2.1 _ hS; dsimp only at this; omega)).mono ?_
  rintro e w4 ⟨rfl, S4, h4, _, _⟩
  rw [live3] at h4 ⊢
  dsimp only at h4
  go_wp2_with fail
  refine (dk_write (at_ := 0) (s := lB) (l := [120]) (c := 1) (h4.step (below_alloc (Below.refl _ _) _)) (by decide) (by decide) (C_lit .u8 w4 [120] 5 (by decide) (1, 2) rfl) (by decide) (by decide) (fun ad e _ hS => by cases e; have := h4.2.1 _ hS; dsimp only at this; omega)).mono ?_
  rintro e w5 ⟨rfl, S5, h5, _, _⟩
  rw [live4] at h5 ⊢
  dsimp only at h5
  go_wp2_with fail
  refine (dk_crash (keep := [1]) (c := 1) (h5.step (below_alloc (Below.refl _ _) _)) (by decide) (C_lit .i64 w5 [1] 3 (by decide) (0, 0) rfl) (fun ad e _ hS => by cases e; have := h5.2.1 _ hS; dsimp only at this; omega) (by decide)).mono ?_
  rintro e w6 ⟨rfl, S6, h6, _, _⟩
  rw [live5] at h6
  go_wp2_with fail
  refine (dk_read (s := lA) h6 (by decide) (by decide)).mono ?_
  rintro e w7 ⟨A7, c7, rfl, hr7, hb7⟩
  rw [live6] at hr7 ⊢
  dsimp only at hr7
  go_wp2_with fail
  refine (dk_read (s := lB) (h6.step hb7) (by decide) (by decide)).mono ?_
  rintro e w8 ⟨A8, c8, rfl, hr8, hb8⟩
  rw [live7] at hr8 ⊢
  have hst : (convert 22 9 (.slice A7 3 c7)).run Try.prog w8 = .ok (.string { data := #[120, 112, 122] }) w8 := hcs A7 c7 [120, 112, 122] w8 (Kd.C_below (Kd.R_reads' hr7).2.2 hb8)
  go_wp2
  go_ret
  exact ⟨rfl, (h6.step hb7).1.trans (hb8.mono (by have := (h6.step hb7).1.size; omega))⟩
end Go.Proofs.Ytmmiipnmimjojaa.PS
end
section
namespace Go.Proofs.Ytmmiipnmimjojaa.PS
open Go.RowKit Go.Proofs.YtmmiipnmimjojaaW.PrintWords Go.Proofs.YtmmiipnmimjojaaW.PrintLast Go.Proofs.YtmmiipnmimjojaaW.PrintMore
open Go.Maps Go.Proofs.Ytmmiipnmimjojaa.PD
set_option linter.unusedVariables false
set_option linter.unusedSimpArgs false
/-- The names that are there: just the disk's; all files are empty. -/
structure FJ (N : Nat) (D : Dsk) (th : List ByteArray) : Prop where
  inv : DInv N D
  room : D.room = 0
  none_ : ∀ p ∈ D.files, p.2.f0 = []
  same : ∀ s : ByteArray, s ∈ th ↔ (aget s.data.toList D.files).isSome = true
  len : th.length = D.files.length
theorem beq_str (x y : ByteArray) : (x.toList == y.toList) = decide (x = y) := by
  by_cases e : x = y
  · rw [decide_eq_true e]; exact (Lib.bytes_beq_iff x y).2 e
  · rw [decide_eq_false e]; exact (Lib.bytes_beq_false_iff x y).2 e
theorem cellS {w : World} {ad : Addr} {n : Nat} {l : List ByteArray} (h : Kd.string.C w (some ad) n l) {i : Int} (h0 : 0 ≤ i) (h1 : i < n) : w.cell? (ad.add i.toNat) = some (.string (l.getD i.toNat ByteArray.empty)) := by
  obtain ⟨ad', c, e, _, hcs, hx0⟩ := Kd.C_get h ByteArray.empty i h0 h1
  cases e
  rw [show c = [.string (l.getD i.toNat ByteArray.empty)] from hcs] at hx0
  have := hx0 0 _ rfl
  rwa [Nat.add_zero, show i.toNat * Kd.string.sz = i.toNat from Nat.mul_one _] at this
theorem C_some {α : Type} {d : Kd α} {w : World} {A : Option Addr} {l : List α} (h : d.C w A l.length l) (hn : l ≠ []) : ∃ ad, A = some ad := by
  cases A with
  | none => exact absurd (nil_of_C h) hn
  | some ad => exact ⟨ad, rfl⟩
theorem cellI {K : IntKind} {w : World} {ad : Addr} {n : Nat} {l : List Int} (h : (Kd.int K).C w (some ad) n l) {i : Int} (h0 : 0 ≤ i) (h1 : i < n) {x : Int} (hx : l.getD i.toNat 0 = x) : w.cell? (ad.add i.toNat) = some (.int K x) := by
  obtain ⟨ad', c, e, _, hcs, hx0⟩ := Kd.C_get h 0 i h0 h1
  cases e
  rw [show c = [.int K (l.getD i.toNat 0)] from hcs, hx] at hx0
  have := hx0 0 _ rfl
  rwa [Nat.add_zero, show i.toNat * (Kd.int K).sz = i.toNat from Nat.mul_one _] at this
end Go.Proofs.Ytmmiipnmimjojaa.PS
end
section
namespace Go.Proofs.Ytmmiipnmimjojaa.PS
open Go.RowKit Go.Proofs.YtmmiipnmimjojaaW.PrintWords Go.Proofs.YtmmiipnmimjojaaW.PrintLast Go.Proofs.YtmmiipnmimjojaaW.PrintMore
open Go.Maps Go.Proofs.Ytmmiipnmimjojaa.PD
set_option linter.unusedVariables false
set_option linter.unusedSimpArgs false
/-- The reference's disk in block r: its room and its files; R: its blocks. -/
structure RefAt (W : World) (R : Nat → Prop) (r : Nat) (room : Int) (l : List S144) : Prop where
  own : R r
  lt : ∀ k, R k → k < W.heap.size
  cells : ∃ A c, W.heap[r]? = some (.cells #[.int .i64 room, .slice A l.length c] 140 (0, 0)) ∧ Kd.V k144 144 W 0 (fun k => R k ∧ k ≠ r) (.slice A l.length c) l
section
variable {W W1 w' : World} {R R1 P : Nat → Prop} {r : Nat} {room : Int} {l : List S144}
theorem RefAt.step (h : RefAt W R r room l) (hs : W.heap.size ≤ W1.heap.size) (hm : ∀ k, R k → W1.heap[k]? = W.heap[k]?) : RefAt W1 R r room l := by
  obtain ⟨A, c, hh, hv⟩ := h.cells
  exact ⟨h.own, fun k hk => Nat.lt_of_lt_of_le (h.lt k hk) hs, A, c, (hm r h.own).trans hh, Kd.V_step hv (fun k hk _ => hm k hk.1)⟩
theorem RefAt.below (h : RefAt W R r room l) (hb : Below W.heap.size W W1) : RefAt W1 R r room l := h.step hb.size (fun k hk => hb.block k (h.lt k hk))
theorem RefAt.kp (h : RefAt W R r room l) (k : Kp W W1 P) (hP : ∀ k, R k → ¬ P k) : RefAt W1 R r room l := h.step k.size (fun i hi => k.block i (h.lt i hi) (hP i hi))
/-- A new row is laid into the disk's cell. -/
theorem RefAt.set {A : Option Addr} {c : Nat} {l' : List S144} (h : RefAt W R r room l) (hb : Below W.heap.size W W1) (hv : Kd.V k144 144 W1 0 (fun k => (R k ∧ k ≠ r) ∨ (W.heap.size ≤ k ∧ k < W1.heap.size)) (.slice A l'.length c) l') :
    RefAt (W1.setCell ⟨r, 1, none⟩ (.slice A l'.length c)) (Nw W W1 R) r room l' ∧ Kp W (W1.setCell ⟨r, 1, none⟩ (.slice A l'.length c)) (fun k => k = r) := by
  obtain ⟨A0, c0, hh, _⟩ := h.cells
  have hlt := h.lt r h.own
  have hr1 := (hb.block r hlt).trans hh
  have hs := hb.size
  refine ⟨⟨.inl h.own, fun k hk => ?_, A, c, ?_, ?_⟩, (Kp.of_below hb (fun k => k = r)).setCell (p := ⟨r, 1, none⟩) (.inl rfl) _⟩
  · rw [set_size]
    rcases hk with hk | hk
    · exact Nat.lt_of_lt_of_le (h.lt k hk) hs
    · exact hk.2
  · simpa using blk_set hr1 1 (.slice A l'.length c)
  · refine Kd.V_far (Kd.V_mono hv (fun k hk => ?_)) (p := ⟨r, 1, none⟩) (fun k hk => hk.2) _
    rcases hk with hk | hk
    · exact ⟨.inl hk.1, hk.2⟩
    · exact ⟨.inr hk, by omega⟩
end
/-- One file of a row, as it is read. -/
structure FilR (W : World) (ok : Nat → Prop) (A : Option Addr) (i : Int) (f : S144) (ad : Addr) (A2 : Option Addr) (c2 : Nat) (A3 : Option Addr) (c3 : Nat) : Prop where
  at_ : A = some ad
  name : W.cell? (ad.add (i.toNat * 4)) = some (.string f.f0)
  lasts : W.cell? ⟨(ad.add (i.toNat * 4)).block, (ad.add (i.toNat * 4)).off + 1, none⟩ = some (.bool f.f1)
  sure : W.cell? ⟨(ad.add (i.toNat * 4)).block, (ad.add (i.toNat * 4)).off + 2, none⟩ = some (.slice A2 f.f2.length c2)
  units : W.cell? ⟨(ad.add (i.toNat * 4)).block, (ad.add (i.toNat * 4)).off + 3, none⟩ = some (.slice A3 f.f3.length c3)
  vs : Kd.V (Kd.int .u8) 5 W 0 ok (.slice A2 f.f2.length c2) f.f2
  vu : Kd.V k166 166 W 0 ok (.slice A3 f.f3.length c3) f.f3
theorem filR_of {W : World} {ok : Nat → Prop} {A : Option Addr} {c : Nat} {l : List S144} {i : Int} {f : S144} (h : Kd.V k144 144 W 0 ok (.slice A l.length c) l) (h0 : 0 ≤ i) (h1 : i < l.length) (hf : rd_T144 l i = f) :
    ∃ ad A2 c2 A3 c3, FilR W ok A i f ad A2 c2 A3 c3 := by
  obtain ⟨ad, A2, c2, A3, c3, e, x0, x1, x2, x3, l2, i2, l3, i3⟩ := at_T144 (Kd.V_reads' h).2.2 i h0 h1
  subst e
  obtain ⟨ce, hce, hMe, hcc⟩ := Kd.V_get h z144 i h0 h1
  obtain ⟨ua2, uc2, ua3, uc3, rfl, ul2, ge2, ul3, ge3⟩ := k144_openF hMe
  have hv2 := hcc 2 _ rfl
  rw [add_field _ _ 2 (by omega)] at hv2
  replace hv2 := Option.some.inj (hv2.symm.trans x2)
  injection hv2 with hva hvn hvc
  rw [hva] at ge2
  rw [hvc] at ul2
  have hv3 := hcc 3 _ rfl
  rw [add_field _ _ 3 (by omega)] at hv3
  replace hv3 := Option.some.inj (hv3.symm.trans x3)
  injection hv3 with hva3 hvn3 hvc3
  rw [hva3] at ge3
  rw [hvc3] at ul3
  subst hf
  exact ⟨ad, A2, c2, A3, c3, rfl, x0, x1, x2, x3, Kd.V_mk ul2 ge2, Kd.V_mk ul3 ge3⟩
theorem findR_step (s : ByteArray) (l : List S144) {i : Int} (h0 : 0 ≤ i) (h1 : i < l.length) : findR s (l.drop i.toNat) i.toNat = if (rd_T144 l i).f0 = s then i else findR s (l.drop (i + 1).toNat) (i + 1).toNat := by
  rw [drop_rd4 h0 h1]
  show (if _ then ((i.toNat : Nat) : Int) else findR s _ (i.toNat + 1)) = _
  rw [show ((i.toNat : Nat) : Int) = i by omega, show (i + 1).toNat = i.toNat + 1 by omega]
theorem findR_end (s : ByteArray) (l : List S144) {i : Int} (h1 : (l.length : Int) ≤ i) : findR s (l.drop i.toNat) i.toNat = -1 := by
  rw [List.drop_eq_nil_of_le (by omega)]
  rfl
set_option maxHeartbeats 1000000 in
set_option maxRecDepth 100000 in
theorem rfind_calls {W : World} {R : Nat → Prop} {r : Nat} {room : Int} {l : List S144} (s : ByteArray) (h : RefAt W R r room l) (hl : l.length ≤ 1000000000) :
    Calls Try.prog 86 #[.pointer (some ⟨r, 0, none⟩), .string s] W fun e w' => e = .returned (.int .i64 (findR s l 0)) ∧ W = w' := by
  obtain ⟨A, c, hh, hv⟩ := h.cells
  have hc1 : W.cell? ⟨r, 1, none⟩ = some (.slice A l.length c) := blk_cell hh 1
  have HV := Aside0.mk hv
  clear h hh hv
  obtain ⟨x, hx⟩ : ∃ x, findR s l 0 = x := ⟨_, rfl⟩
  rw [hx]
  have HX := Aside0.mk hx
  clear hx
  go_enter Try.func86, Try.ntmps86
  go_wp2_with fail
  go_loopg [5] l.length (fun kq v5 w' => ∃ i : Int, v5 = .int .i64 i ∧ 0 ≤ i ∧ i + kq = l.length ∧ Aside0 (findR s (l.drop i.toNat) i.toNat = x) ∧ W = w')
  case atStart => exact ⟨0, rfl, by omega, by omega, ⟨HX.out⟩, rfl⟩
  case round =>
    obtain ⟨i, rfl, i0, i1, HF, rfl⟩ := hrel
    by_cases hi : i < (l.length : Int)
    · have c6 : decide (i < (l.length : Int)) = true := decide_eq_true hi
      have hst := findR_step s l i0 hi
      rw [HF.out] at hst
      obtain ⟨f, hf⟩ : ∃ f, rd_T144 l i = f := ⟨_, rfl⟩
      obtain ⟨ad, A2, c2, A3, c3, hr⟩ := filR_of HV.out i0 hi hf
      obtain rfl := hr.at_
      have hx0 := hr.name
      rw [hf] at hst
      have p0 := eq_true i0
      have p1 := eq_true hi
      have hni : IntKind.i64.wrap (i + 1) = i + 1 := IntWalk.i64_in _ ⟨by omega, by omega⟩
      have HST := Aside0.mk hst
      clear hst hr hf
      by_cases e : f.f0 = s
      · have he : (f.f0.toList == s.toList) = true := by rw [beq_str]; exact decide_eq_true e
        have hxi : x = i := by rw [HST.out, if_pos e]
        subst hxi
        clear e HX HF HST
        go_wp2_with fail
        go_ret
        exact ⟨rfl, rfl⟩
      · have he : (f.f0.toList == s.toList) = false := by rw [beq_str]; exact decide_eq_false e
        have HE := Aside0.mk e
        clear e
        go_wp2_with fail
        go_roundg (gk - 1)
        case measure => omega
        case rel => exact ⟨i + 1, rfl, by omega, by omega, ⟨by rw [HST.out, if_neg HE.out]⟩, rfl⟩
    · have c6 : decide (i < (l.length : Int)) = false := decide_eq_false hi
      have hxi : x = -1 := by rw [← HF.out]; exact findR_end s l (by omega)
      subst hxi
      go_wp2_with fail
      go_ret
      exact ⟨rfl, rfl⟩
end Go.Proofs.Ytmmiipnmimjojaa.PS
end
section
namespace Go.Proofs.Ytmmiipnmimjojaa.PS
open Go.RowKit Go.Proofs.YtmmiipnmimjojaaW.PrintWords Go.Proofs.YtmmiipnmimjojaaW.PrintLast Go.Proofs.YtmmiipnmimjojaaW.PrintMore
open Go.Maps Go.Proofs.Ytmmiipnmimjojaa.PD
set_option linter.unusedVariables false
set_option linter.unusedSimpArgs false
/-- What a deed of the reference's leaves. -/
def Rx (W w' : World) (R : Nat → Prop) (r : Nat) (room : Int) (l' : List S144) : Prop := ∃ R', RefAt w' R' r room l' ∧ Kp W w' (fun k => k = r) ∧ ∀ k, k < W.heap.size → R' k → R k
section
variable {W W1 w' : World} {R : Nat → Prop} {r : Nat} {room : Int} {l l' : List S144}
theorem Rx.still (h : RefAt W R r room l) (hb : Below W.heap.size W w') : Rx W w' R r room l := ⟨R, h.below hb, Kp.of_below hb _, fun _ _ h => h⟩
theorem Rx.set {A : Option Addr} {c : Nat} (h : RefAt W R r room l) (hb : Below W.heap.size W W1) (hv : Kd.V k144 144 W1 0 (fun k => (R k ∧ k ≠ r) ∨ W.heap.size ≤ k) (.slice A l'.length c) l') :
    Rx W (W1.setCell ⟨r, 1, none⟩ (.slice A l'.length c)) R r room l' := by
  obtain ⟨h1, h2⟩ := h.set hb (Kd.V_mono (Kd.V_bound hv) (fun k hk => by
    rcases hk.1 with h1 | h1
    · exact .inl h1
    · exact .inr ⟨h1, hk.2⟩))
  exact ⟨_, h1, h2, fun k hk hx => by rcases hx with hx | hx; exact hx; omega⟩
theorem rd_some {n : Nm} {f : Fil} {L : List (Nm × Fil)} {j : Nat} (h : L[j]? = some (n, f)) : rd_T144 (refL L) (j : Int) = refF (n, f) := by
  unfold rd_T144
  rw [List.getD_eq_getElem?_getD, show ((j : Int)).toNat = j by omega, ref_get h]
  rfl
theorem rd_find {D : Dsk} {s : ByteArray} {f : Fil} (h : aget s.data.toList D.files = some f) : ∃ i : Int, findR s (refL D.files) 0 = i ∧ 0 ≤ i ∧ i < ((refL D.files).length : Int) ∧ rd_T144 (refL D.files) i = refF (s.data.toList, f) := by
  obtain ⟨j, h1, h2, h3⟩ := find_some (i := 0) h
  refine ⟨(j : Int), by rw [h1]; congr 1; omega, by omega, by rw [ref_len]; omega, rd_some h3⟩
end
set_option maxHeartbeats 1000000 in
set_option maxRecDepth 100000 in
theorem rremove_calls {W : World} {R : Nat → Prop} {r N : Nat} {D : Dsk} {s : ByteArray} (h : RefAt W R r D.room (refL D.files)) (hi : DInv N D) :
    Calls Try.prog 82 #[.pointer (some ⟨r, 0, none⟩), .string s] W fun e w' => e = .returned (.int .i64 (dRemove D s).1) ∧ Rx W w' R r D.room (refL (dRemove D s).2.files) := by
  have hll : (refL D.files).length ≤ 16 := by rw [ref_len]; exact hi.few
  have H := Aside0.mk h
  have HI := Aside0.mk hi
  have HL := Aside0.mk hll
  clear h hi hll
  unfold dRemove
  cases hg : aget s.data.toList D.files with
  | none =>
    have hf := find_none (i := 0) hg
    have HF := Aside0.mk hf
    clear hf hg
    go_enter Try.func82, Try.ntmps82
    go_wp2_with fail
    refine (rfind_calls s H.out (by have := HL.out; omega)).mono ?_
    rintro e w1 ⟨rfl, rfl⟩
    rw [HF.out]
    go_wp2_with fail
    go_ret
    exact ⟨rfl, Rx.still H.out (Below.refl _ _)⟩
  | some f =>
    obtain ⟨i, hf, i0, i1, _⟩ := rd_find hg
    have HF := Aside0.mk hf
    have hneg : decide (i < 0) = false := decide_eq_false (by omega)
    obtain ⟨A, c, hh, hv⟩ := H.out.cells
    have hc1 : W.cell? ⟨r, 1, none⟩ = some (.slice A (refL D.files).length c) := blk_cell hh 1
    have HV := Aside0.mk hv
    have HH := Aside0.mk hh
    clear hf hg hv hh
    go_enter Try.func82, Try.ntmps82
    go_wp2_with fail
    refine (rfind_calls s H.out (by have := HL.out; omega)).mono ?_
    rintro e w1 ⟨rfl, rfl⟩
    rw [HF.out]
    go_wp2_with fail
    refine (tollgateref05_without.calls _ _ A c (refL D.files) s _ W (Kd.V_map HV.out (fun _ h => h)) (without_f _ s (by have := HL.out; omega))).mono ?_
    rintro e w2 ⟨v, rfl, hn, hb⟩
    rw [wo_del] at hn
    have hr1 := (hb.block r (H.out.lt r H.out.own)).trans HH.out
    have hc2 : w2.cell? ⟨r, 1, none⟩ = some (.slice A (refL D.files).length c) := blk_cell hr1 1
    have hf2 := blk_frozen hr1 1
    obtain ⟨A2, c2, rfl⟩ := Kd.V_slice (Kd.N_V hn (base' := 0))
    have HN := Aside0.mk hn
    have HB := Aside0.mk hb
    clear hn hb hr1
    go_wp2_with fail
    go_ret
    exact ⟨rfl, Rx.set H.out HB.out (Kd.N_V HN.out)⟩
/-- now, of a file that is read. -/
theorem rnow {W w : World} {ok : Nat → Prop} {A2 A3 : Option Addr} {c2 c3 : Nat} {f : S144} (hs : Kd.V (Kd.int .u8) 5 W 0 ok (.slice A2 f.f2.length c2) f.f2) (hu : Kd.V k166 166 W 0 ok (.slice A3 f.f3.length c3) f.f3)
    (hB : UB 262144 f.f3 f.f2) (hl : f.f3.length ≤ 1000000000000) (hb : Below W.heap.size W w) :
    Calls Try.prog 87 #[.agg #[.string f.f0, .bool f.f1, .slice A2 f.f2.length c2, .slice A3 f.f3.length c3]] w fun e w' => ∃ A c, e = .returned (.slice A (nowR f).length c) ∧ k8.R 5 w' w.heap.size (fun _ => True) (.slice A (nowR f).length c) (nowR f) ∧ Below w.heap.size w w' := by
  obtain ⟨_, l2, h2⟩ := Kd.V_reads' hs
  obtain ⟨_, l3, h3⟩ := Kd.V_reads' hu
  refine (tollgateref05_now.calls _ f.f0 f.f1 A2 c2 f.f2 A3 c3 f.f3 _ w (Kd.C_below h2 hb) l2 (Kd.C_below h3 hb) l3 (now_f f.f0 f.f1 f.f2 f.f3 (B := 262144) (by omega) hl hB)).mono ?_
  rintro e w' ⟨v, rfl, hr, hb'⟩
  obtain ⟨A, c, rfl⟩ := Kd.R_slice hr
  exact ⟨A, c, rfl, hr, hb'⟩
/-- put, of a row that is read. -/
theorem rput {W w : World} {ok P : Nat → Prop} {A A2 A3 : Option Addr} {c c2 c3 : Nat} {l : List S144} {f : S144} (hv : Kd.V k144 144 W 0 ok (.slice A l.length c) l) (hl : l.length ≤ 1000) (hb : Below W.heap.size W w)
    (hs : Kd.V (Kd.int .u8) 5 w 0 P (.slice A2 f.f2.length c2) f.f2) (hu : Kd.V k166 166 w 0 P (.slice A3 f.f3.length c3) f.f3) :
    Calls Try.prog 106 #[.slice A l.length c, .agg #[.string f.f0, .bool f.f1, .slice A2 f.f2.length c2, .slice A3 f.f3.length c3]] w fun e w' => ∃ A' c', e = .returned (.slice A' (putR l f).length c') ∧
      Kd.V k144 144 w' 0 (fun k => (ok k ∨ P k) ∨ w.heap.size ≤ k) (.slice A' (putR l f).length c') (putR l f) ∧ Below w.heap.size w w' := by
  refine (tollgateref05_put.calls _ ok A c l f.f0 f.f1 P A2 c2 f.f2 P A3 c3 f.f3 _ w (Kd.V_map (Kd.V_below hv hb) (fun _ h => h)) (Kd.V_map hs (fun _ h => h)) (Kd.V_map hu (fun _ h => h)) (put_f l f hl)).mono ?_
  rintro e w' ⟨v, rfl, hn, hb'⟩
  obtain ⟨A', c', rfl⟩ := Kd.V_slice (Kd.N_V hn (base' := 0))
  refine ⟨A', c', rfl, Kd.V_mono (Kd.N_V hn) (fun k hk => ?_), hb'⟩
  rcases hk with (h | h | h) | h
  · exact .inl (.inl h)
  · exact .inl (.inr h)
  · exact .inl (.inr h)
  · exact .inr h
theorem flat_len {B : Nat} : ∀ {cs : List S114} {o : List Int}, ChB B cs o → (flat cs).length ≤ cs.length * (B + 1)
  | [], _, _ => by simp [flat]
  | c :: cs, o, h => by
    have ih := flat_len h.2.2.2.2
    have hc := unitsOf_len c
    have hb := h.2.2.2.1
    have : chN c ≤ B + 1 := by unfold chN; split <;> omega
    show (unitsOf c ++ flat cs).length ≤ (cs.length + 1) * (B + 1)
    rw [List.length_append, Nat.succ_mul]
    omega
theorem FInv.units {N : Nat} {n : Nm} {f : Fil} (h : FInv N n f) (hN : N ≤ 1000000) : UB 262144 (refF (n, f)).f3 (refF (n, f)).f2 ∧ (refF (n, f)).f3.length ≤ 1000000000000 := by
  refine ⟨UB_flat h.ch, ?_⟩
  have h1 := flat_len h.ch
  have h2 := h.few
  show (flat f.f3).length ≤ _
  have h3 : f.f3.length * (262144 + 1) ≤ 1000000 * (262144 + 1) := Nat.mul_le_mul_right _ (by omega)
  omega
set_option maxHeartbeats 1000000 in
set_option maxRecDepth 100000 in
theorem rsync_calls {W : World} {R : Nat → Prop} {r N : Nat} {D : Dsk} {s : ByteArray} (h : RefAt W R r D.room (refL D.files)) (hi : DInv N D) (hN : N ≤ 1000000) :
    Calls Try.prog 80 #[.pointer (some ⟨r, 0, none⟩), .string s] W fun e w' => e = .returned (.int .i64 (dSync D s).1) ∧ Rx W w' R r D.room (refL (dSync D s).2.files) := by
  have hll : (refL D.files).length ≤ 16 := by rw [ref_len]; exact hi.few
  have H := Aside0.mk h
  have HI := Aside0.mk hi
  have HL := Aside0.mk hll
  clear h hi hll
  unfold dSync
  cases hg : aget s.data.toList D.files with
  | none =>
    have hf := find_none (i := 0) hg
    have HF := Aside0.mk hf
    clear hf hg
    go_enter Try.func80, Try.ntmps80
    go_wp2_with fail
    refine (rfind_calls s H.out (by have := HL.out; omega)).mono ?_
    rintro e w1 ⟨rfl, rfl⟩
    rw [HF.out]
    go_wp2_with fail
    go_ret
    exact ⟨rfl, Rx.still H.out (Below.refl _ _)⟩
  | some f =>
    obtain ⟨i, hf, i0, i1, hrd⟩ := rd_find hg
    have hinv := HI.out.get hg
    obtain ⟨hub, hul⟩ := hinv.units hN
    have hnow := now_ref hinv
    have HF := Aside0.mk hf
    have hneg : decide (i < 0) = false := decide_eq_false (by omega)
    obtain ⟨A, c, hh, hv⟩ := H.out.cells
    have hc1 : W.cell? ⟨r, 1, none⟩ = some (.slice A (refL D.files).length c) := blk_cell hh 1
    obtain ⟨ad, A2, c2, A3, c3, hr⟩ := filR_of hv i0 i1 hrd
    obtain ⟨F, hF⟩ : ∃ F, refF (s.data.toList, f) = F := ⟨_, rfl⟩
    obtain ⟨L, hL⟩ : ∃ L, refL D.files = L := ⟨_, rfl⟩
    rw [hF] at hub hul hnow hr
    rw [hL] at hc1 hh hv HL i1
    obtain rfl := hr.at_
    have e0 := hr.name
    have e1 := hr.lasts
    have e2 := hr.sure
    have e3 := hr.units
    have HR := Aside0.mk hr
    have HV := Aside0.mk hv
    have HH := Aside0.mk hh
    have HUB := Aside0.mk hub
    have HUL := Aside0.mk hul
    have HNW := Aside0.mk hnow
    have HLL := Aside0.mk hL
    have p0 := eq_true i0
    have p1 := eq_true i1
    clear hf hv hh hr hub hul hnow hrd hinv hF hL hg
    go_enter Try.func80, Try.ntmps80
    go_wp2_with fail
    refine (rfind_calls s H.out (by rw [HLL.out]; have := HL.out; omega)).mono ?_
    rintro e w1 ⟨rfl, rfl⟩
    rw [HF.out]
    go_wp2_with fail
    have hl16 : L.length ≤ 1000 := by have := HL.out; omega
    have hlt := H.out.lt r H.out.own
    have HLT := Aside0.mk hlt
    have HL16 := Aside0.mk hl16
    clear hlt hl16
    go_region_law (first
      | (go_simp; go_at_call 87; refine (rnow HR.out.vs HR.out.vu HUB.out HUL.out (below_drew1 (Below.refl _ _))).mono ?_; rintro e w4 ⟨A6, c6, rfl, hr6, hb6⟩; have hB4 := below_step (below_drew1 (Below.refl W.heap.size W)) hb6; have hq4 := (hB4.block r HLT.out).trans HH.out; have q4 : w4.cell? ⟨r, 1, none⟩ = some (.slice (some ad) L.length c) := blk_cell hq4 1; have HB4 := Aside0.mk hB4; have HR6 := Aside0.mk hr6; clear hB4 hq4 hr6 hb6)
      | (go_simp; go_at_call 106; refine (rput (f := ⟨s, true, nowR F, []⟩) (P := fun k => W.heap.size ≤ k) HV.out HL16.out HB4.out (Kd.V_mono (Kd.R_V (Kd.R_bound HR6.out)) (fun k hk => hk.2.1)) (Kd.V_nil _ _ _ _ _)).mono ?_; rintro e w5 ⟨A7, c7, rfl, hv7, hb7⟩; have hB5 := below_step HB4.out hb7; have hq5 := (hB5.block r HLT.out).trans HH.out; have q5 : w5.cell? ⟨r, 1, none⟩ = some (.slice (some ad) L.length c) := blk_cell hq5 1; have f5 := blk_frozen hq5 1; have HB5 := Aside0.mk hB5; have HV7 := Aside0.mk hv7; clear hB5 hq5 hv7 hb7)
      | fail)
    all_goals
      have hres : putR L ⟨s, true, nowR F, []⟩ = refL (aput s.data.toList ⟨f.f0, f.f0, true, []⟩ D.files) := by
        rw [HNW.out, ← HLL.out]
        exact put_aput (n := s.data.toList) (f := ⟨f.f0, f.f0, true, []⟩) HI.out.srt
      have HRES := Aside0.mk hres
      clear hres
      go_wp2_with fail
      go_ret
      exact ⟨rfl, by
        show Rx W _ R r D.room (refL (aput s.data.toList ⟨f.f0, f.f0, true, []⟩ D.files))
        rw [← HRES.out]
        exact Rx.set H.out HB5.out (Kd.V_mono HV7.out (fun k hk => by
          have := HB4.out.size
          rcases hk with (h | h) | h
          · exact .inl h
          · exact .inr h
          · exact .inr (by omega)))⟩
end Go.Proofs.Ytmmiipnmimjojaa.PS
end
section
namespace Go.Proofs.Ytmmiipnmimjojaa.PS
open Go.RowKit Go.Proofs.YtmmiipnmimjojaaW.PrintWords Go.Proofs.YtmmiipnmimjojaaW.PrintLast Go.Proofs.YtmmiipnmimjojaaW.PrintMore
open Go.Maps Go.Proofs.Ytmmiipnmimjojaa.PD
set_option linter.unusedVariables false
set_option linter.unusedSimpArgs false
theorem info166 : (Try.prog.info? 166).map (fun i => (i.zero, i.size, i.bytes)) = some (some (.agg #[(.bool false), (.int .i64 0), (.int .u8 0)]), 3, 24) := by kernel_rfl
set_option maxHeartbeats 2000000 in
set_option maxRecDepth 100000 in
theorem rcut_calls {W : World} {R : Nat → Prop} {r N : Nat} {D : Dsk} {s : ByteArray} {z : Int} (h : RefAt W R r D.room (refL D.files)) (hi : DInv N D) (hN : N ≤ 1000000) :
    Calls Try.prog 79 #[.pointer (some ⟨r, 0, none⟩), .string s, .int .i64 z] W fun e w' => e = .returned (.int .i64 (dCut D s z).1) ∧ Rx W w' R r D.room (refL (dCut D s z).2.files) := by
  have hll : (refL D.files).length ≤ 16 := by rw [ref_len]; exact hi.few
  have H := Aside0.mk h
  have HI := Aside0.mk hi
  have HL := Aside0.mk hll
  clear h hi hll
  unfold dCut
  cases hg : aget s.data.toList D.files with
  | none =>
    have hf := find_none (i := 0) hg
    have HF := Aside0.mk hf
    clear hf hg
    go_enter Try.func79, Try.ntmps79
    go_wp2_with fail
    refine (rfind_calls s H.out (by have := HL.out; omega)).mono ?_
    rintro e w1 ⟨rfl, rfl⟩
    rw [HF.out]
    go_wp2_with fail
    go_ret
    exact ⟨rfl, Rx.still H.out (Below.refl _ _)⟩
  | some f =>
    dsimp only
    obtain ⟨i, hf, i0, i1, hrd⟩ := rd_find hg
    have hinv := HI.out.get hg
    obtain ⟨hub, hul⟩ := hinv.units hN
    have hnow := now_ref hinv
    have HF := Aside0.mk hf
    have hneg : decide (i < 0) = false := decide_eq_false (by omega)
    obtain ⟨A, c, hh, hv⟩ := H.out.cells
    have hc1 : W.cell? ⟨r, 1, none⟩ = some (.slice A (refL D.files).length c) := blk_cell hh 1
    obtain ⟨ad, A2, c2, A3, c3, hr⟩ := filR_of hv i0 i1 hrd
    have hres0 : putR (refL D.files) ⟨s, f.f2, f.f1, flat f.f3 ++ [⟨true, z, 0⟩]⟩ = refL (aput s.data.toList ⟨f.f0.take z.toNat, f.f1, f.f2, f.f3 ++ [⟨true, z, 0, []⟩]⟩ D.files) := by
      rw [← flat_cut]
      exact put_aput (n := s.data.toList) (f := ⟨f.f0.take z.toNat, f.f1, f.f2, f.f3 ++ [⟨true, z, 0, []⟩]⟩) HI.out.srt
    have hF0 : (refF (s.data.toList, f)).f0 = s ∧ (refF (s.data.toList, f)).f1 = f.f2 ∧ (refF (s.data.toList, f)).f2 = f.f1 ∧ (refF (s.data.toList, f)).f3 = flat f.f3 := ⟨rfl, rfl, rfl, rfl⟩
    obtain ⟨F, hF⟩ : ∃ F, refF (s.data.toList, f) = F := ⟨_, rfl⟩
    obtain ⟨L, hL⟩ : ∃ L, refL D.files = L := ⟨_, rfl⟩
    rw [hF] at hub hul hnow hr hF0
    rw [hL] at hc1 hh hv HL i1 hres0
    obtain rfl := hr.at_
    have e0 := hr.name
    have e1 := hr.lasts
    have e2 := hr.sure
    have e3 := hr.units
    have HR := Aside0.mk hr
    have HV := Aside0.mk hv
    have HH := Aside0.mk hh
    have HUB := Aside0.mk hub
    have HUL := Aside0.mk hul
    have HNW := Aside0.mk hnow
    have HLL := Aside0.mk hL
    have HRES := Aside0.mk hres0
    have HF0 := Aside0.mk hF0
    have p0 := eq_true i0
    have p1 := eq_true i1
    have hl16 : L.length ≤ 1000 := by have := HL.out; omega
    have HLT := Aside0.mk (H.out.lt r H.out.own)
    have HL16 := Aside0.mk hl16
    clear hf hv hh hr hub hul hnow hrd hinv hF hL hres0 hF0 hl16
    have hfl : f.f0.length ≤ 262144 := (HI.out.get hg).short
    clear hg
    by_cases hz : z < 0
    · have cz : decide (z < 0) = true := decide_eq_true hz
      rw [if_pos (.inl hz)]
      go_enter Try.func79, Try.ntmps79
      go_wp2_with fail
      refine (rfind_calls s H.out (by rw [HLL.out]; have := HL.out; omega)).mono ?_
      rintro e w1 ⟨rfl, rfl⟩
      rw [HF.out]
      go_wp2_with fail
      go_ret
      exact ⟨rfl, Rx.still H.out (below_alloc (Below.refl _ _) _)⟩
    by_cases hz2 : (f.f0.length : Int) < z
    · have cz : decide (z < 0) = false := decide_eq_false hz
      have cz2 : decide (z > (f.f0.length : Int)) = true := decide_eq_true hz2
      rw [if_pos (.inr hz2)]
      go_enter Try.func79, Try.ntmps79
      go_wp2_with fail
      refine (rfind_calls s H.out (by rw [HLL.out]; have := HL.out; omega)).mono ?_
      rintro e w1 ⟨rfl, rfl⟩
      rw [HF.out]
      go_wp2_with fail
      refine (rnow HR.out.vs HR.out.vu HUB.out HUL.out (below_alloc (Below.refl _ _) _)).mono ?_
      rintro e w4 ⟨A6, c6, rfl, hr6, hb6⟩
      rw [HNW.out]
      have hb4 := below_step (below_alloc (Below.refl W.heap.size W) _) hb6
      go_wp2_with fail
      go_ret
      exact ⟨rfl, Rx.still H.out hb4⟩
    · have cz : decide (z < 0) = false := decide_eq_false hz
      have cz2 : decide (z > (f.f0.length : Int)) = false := decide_eq_false (by omega)
      rw [if_neg (by omega)]
      go_enter Try.func79, Try.ntmps79
      go_wp2_with fail
      refine (rfind_calls s H.out (by rw [HLL.out]; have := HL.out; omega)).mono ?_
      rintro e w1 ⟨rfl, rfl⟩
      rw [HF.out]
      go_wp2_with fail
      refine (rnow HR.out.vs HR.out.vu HUB.out HUL.out (below_alloc (Below.refl _ _) _)).mono ?_
      rintro e w4 ⟨A6, c6, rfl, hr6, hb6⟩
      rw [HNW.out]
      have bk4 := (hb6.block W.heap.size (by show W.heap.size < (W.heap.push _).size; simp)).trans (blk_new W (.cells #[.string F.f0, .bool F.f1, .slice A2 F.f2.length c2, .slice A3 F.f3.length c3] 144 (0, 0)))
      have HB4 := Aside0.mk (below_step (below_alloc (Below.refl W.heap.size W) _) hb6)
      have BK4 := Aside0.mk bk4
      have HUL' := HUL.out
      clear hb6 bk4
      go_wp2_with (first
        | ((with_reducible refine gate_dst (N := 33) rfl ?_); refine Kd.R_lit k166 _ 166 ?hg (N := 33) ?hd (xs := ([] : List S166)) (inner := []) (ok := fun _ => True) (okp := fun _ => True) ?hr ?hp (fun _ hk => hk) trivial (Below.refl _ _) (Nat.le_refl _) (by simp) ?_; (case hd => rfl); (case hg => rfl); (case hr => first | (go_simp; done) | (go_simp; rfl)); (case hp => exact (Reps.none _ _)); intro v5 w5 ho5 hb5 hg_ hnew_; have HO5 := Aside0.mk ho5; have HB5 := Aside0.mk hb5; have bk5 := (hb5.block W.heap.size (blk_lt BK4.out)).trans BK4.out; have q53 : w5.cell? ⟨W.heap.size, 3, none⟩ = some (.slice A3 F.f3.length c3) := blk_cell bk5 3; have BK5 := Aside0.mk bk5; clear hg_ hnew_ ho5 hb5 bk5)
        | ((with_reducible refine gate_dst (N := 36) rfl ?_); refine Kd.R_append_rows k166 (w0 := w4) w4.heap.size (by rfl) (.tmp 33) (.tmp 35) 142 166 (.agg #[.bool false, .int .i64 0, .int .u8 0]) 24 (by rfl) Try.underlying142 info166 (by rfl) (by decide) (by decide) _ [] F.f3 A3 F.f3.length c3 (fun _ => True) (fun _ => False) (by rfl) (by rfl) HO5.out (Kd.C_below (Kd.C_below (Kd.V_reads' HR.out.vu).2.2 HB4.out) HB5.out) (fun _ _ h => h) (fun _ h => h.elim) (fun _ _ => trivial) HB5.out HB5.out.size (by rw [List.length_nil]; omega) ?_; intro v6 w6 hR hb6 hg hat; have HO6 := Aside0.mk hR; have HB6 := Aside0.mk hb6; have BK6 := Aside0.mk ((hb6.block W.heap.size (blk_lt BK4.out)).trans BK4.out); clear hR hb6 hg hat q53)
        | ((with_reducible refine gate_dst (N := 41) rfl ?_); refine Kd.R_append k166 (w0 := w4) w4.heap.size rfl (.tmp 37) (.tmp 40) 142 166 (.agg #[.bool false, .int .i64 0, .int .u8 0]) 24 rfl Try.underlying142 info166 rfl (by decide) (by omega) v6 ([] ++ F.f3) ⟨true, z, 0⟩ [.bool true, .int .i64 z, .int .u8 0] (fun _ => True) (fun _ => False) rfl rfl ?aP (fun _ hk => hk.elim) (fun _ _ => trivial) HO6.out HB6.out HB6.out.size ?aL ?_; (case aP => exact k166_mkM _ _ _ ⟨true, z, 0⟩); (case aL => rw [List.nil_append]; omega); intro v7 w7 ho hb7 hg hat; rw [List.nil_append] at ho; obtain ⟨U, hU⟩ : ∃ U : List S166, F.f3 ++ [⟨true, z, 0⟩] = U := ⟨_, rfl⟩; rw [hU] at ho; have HU := Aside0.mk hU; clear hU; have bk7 := (hb7.block W.heap.size (blk_lt BK4.out)).trans BK4.out; have q73 : w7.cell? ⟨W.heap.size, 3, none⟩ = some (.slice A3 F.f3.length c3) := blk_cell bk7 3; have f73 := blk_frozen bk7 3; obtain ⟨A7, c7, rfl⟩ := Kd.R_slice ho; have HO7 := Aside0.mk ho; have HB7 := Aside0.mk hb7; have BK7 := Aside0.mk bk7; clear ho hb7 hg hat bk7)
        | fail)
      obtain ⟨w8, hw8⟩ : ∃ w8, w8 = w7.setCell ⟨W.heap.size, 3, none⟩ (.slice A7 U.length c7) := ⟨_, rfl⟩
      rw [← hw8]
      have hb8 : Below W.heap.size W w8 := by rw [hw8]; exact below_set (below_step HB4.out HB7.out) (Nat.le_refl _)
      have bk8 : w8.heap[W.heap.size]? = some (.cells #[.string F.f0, .bool F.f1, .slice A2 F.f2.length c2, .slice A7 U.length c7] 144 (0, 0)) := by rw [hw8]; simpa using blk_set BK7.out 3 (.slice A7 U.length c7)
      have hv8 : Kd.V k166 166 w8 0 (fun k => (R k ∧ k ≠ r) ∨ W.heap.size ≤ k) (.slice A7 U.length c7) U := by
        have hlt := blk_lt BK4.out
        rw [hw8]
        exact Kd.V_mono (Kd.V_far (Kd.V_mono (Kd.R_V (Kd.R_bound HO7.out) (base' := 0)) (fun k hk => hk.2.1)) (p := ⟨W.heap.size, 3, none⟩) (fun k hk => by dsimp only; omega) _) (fun k hk => .inr (by omega))
      have k0 : w8.cell? ⟨W.heap.size, 0, none⟩ = some (.string F.f0) := blk_cell bk8 0
      have k1 : w8.cell? ⟨W.heap.size, 1, none⟩ = some (.bool F.f1) := blk_cell bk8 1
      have k2 : w8.cell? ⟨W.heap.size, 2, none⟩ = some (.slice A2 F.f2.length c2) := blk_cell bk8 2
      have k3 : w8.cell? ⟨W.heap.size, 3, none⟩ = some (.slice A7 U.length c7) := blk_cell bk8 3
      have q8 : w8.cell? ⟨r, 1, none⟩ = some (.slice (some ad) L.length c) := blk_cell ((hb8.block r HLT.out).trans HH.out) 1
      have HB8 := Aside0.mk hb8
      have HV8 := Aside0.mk hv8
      clear hw8 hb8 bk8 hv8 q73 f73
      go_region_law (first
        | (go_simp; go_at_call 106; refine (rput (f := ⟨F.f0, F.f1, F.f2, U⟩) (P := fun k => (R k ∧ k ≠ r) ∨ W.heap.size ≤ k) HV.out HL16.out (below_step HB8.out (below_drew1 (Below.refl _ _))) (Kd.V_mono (Kd.V_below HR.out.vs (below_step HB8.out (below_drew1 (Below.refl _ _)))) (fun k hk => .inl hk)) (Kd.V_drew HV8.out)).mono ?_; rintro e w9 ⟨A9, c9, rfl, hv9, hb9⟩; have hB9 := below_step HB8.out (below_step (below_drew1 (Below.refl w8.heap.size w8)) hb9); have hq9 := (hB9.block r HLT.out).trans HH.out; have q9 : w9.cell? ⟨r, 1, none⟩ = some (.slice (some ad) L.length c) := blk_cell hq9 1; have f9 := blk_frozen hq9 1; have HB9 := Aside0.mk hB9; have HV9 := Aside0.mk hv9; clear hB9 hq9 hv9 hb9)
        | fail)
      all_goals
        go_wp2_with fail
        go_ret
        exact ⟨rfl, by
          rw [← HRES.out]
          obtain ⟨g0, g1, g2, g3⟩ := HF0.out
          rw [← g0, ← g1, ← g2, ← g3, HU.out]
          exact Rx.set H.out HB9.out (Kd.V_mono HV9.out (fun k hk => by
            have := HB8.out.size
            rcases hk with (h | h | h) | h
            · exact .inl h
            · exact .inl h
            · exact .inr h
            · have h' : w8.heap.size ≤ k := h
              exact .inr (by omega)))⟩
end Go.Proofs.Ytmmiipnmimjojaa.PS
end
