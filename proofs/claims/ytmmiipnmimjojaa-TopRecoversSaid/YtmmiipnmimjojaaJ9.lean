/- The texts of this claim's seat, joined: part 9. -/
import Derived.Test.YtmmiipnmimjojaaJ8
import Derived.Lib.SlicesS
import Derived.WalkLawsBesides
section
namespace Go.Proofs.Ytmmiipnmimjojaa.PS
open Go.RowKit Go.Proofs.YtmmiipnmimjojaaW.PrintWords Go.Proofs.YtmmiipnmimjojaaW.PrintLast Go.Proofs.YtmmiipnmimjojaaW.PrintMore
open Go.Maps Go.Proofs.Ytmmiipnmimjojaa.PD
set_option linter.unusedVariables false
set_option linter.unusedSimpArgs false
/-- W0: the law's beginning; S: the disk's blocks, all of them newer. -/
def Dk (W0 W : World) (S : Nat → Prop) (g N : Nat) (D : Dsk) : Prop := Below W0.heap.size W0 W ∧ (∀ k, S k → W0.heap.size ≤ k ∧ k < W.heap.size) ∧ DskAt W S g D ∧ DInv N D
/-- What a deed at W leaves at w'. -/
def Nx (W0 W : World) (S : Nat → Prop) (w' : World) (g N : Nat) (D : Dsk) : Prop := ∃ S', Dk W0 w' S' g N D ∧ Kp W w' S ∧ ∀ k, k < W.heap.size → S' k → S k
section
variable {W0 W W1 w' : World} {S : Nat → Prop} {g N : Nat} {D : Dsk}
theorem Dk.step (h : Dk W0 W S g N D) (hb : Below W.heap.size W W1) : Dk W0 W1 S g N D :=
  ⟨below_step h.1 hb, fun k hk => ⟨(h.2.1 k hk).1, Nat.lt_of_lt_of_le (h.2.1 k hk).2 hb.size⟩, h.2.2.1.below hb, h.2.2.2⟩
theorem Dk.kp (h : Dk W0 W S g N D) {P : Nat → Prop} (hb : Below W0.heap.size W0 W1) (k : Kp W W1 P) (hP : ∀ k, S k → ¬ P k) : Dk W0 W1 S g N D :=
  ⟨hb, fun i hk => ⟨(h.2.1 i hk).1, Nat.lt_of_lt_of_le (h.2.1 i hk).2 k.size⟩, h.2.2.1.kp k (fun i _ hi => hP i hi), h.2.2.2⟩
theorem Dk.next {M : Nat} {D' : Dsk} (h : Dk W0 W S g N D) (k : Kp W w' (WR W S)) (hd : DskAt w' (Nw W w' S) g D') (hi : DInv M D') : Nx W0 W S w' g M D' := by
  have s0 := h.1.size
  have s1 := k.size
  refine ⟨Nw W w' S, ⟨h.1.trans (k.below (B := W0.heap.size) (fun i hi _ => (h.2.1 i hi.1).1) s0), fun i hx => ?_, hd, hi⟩, k.mono (fun _ hk => hk.1), fun i hi hx => ?_⟩
  · rcases hx with hx | hx
    · have := h.2.1 i hx; omega
    · omega
  · rcases hx with hx | hx
    · exact hx
    · omega
theorem Nx.of_below {M : Nat} (h : Dk W0 W S g N D) (hb : Below W.heap.size W w') (hM : N ≤ M) : Nx W0 W S w' g M D :=
  ⟨S, ⟨(h.step hb).1, (h.step hb).2.1, (h.step hb).2.2.1, h.2.2.2.mono hM⟩, Kp.of_below hb _, fun _ _ h => h⟩
theorem Dk.notWR (h : Dk W0 W S g N D) {A : Option Addr} {n : Nat} (hA : ∀ ad, A = some ad → 0 < n → ¬ S ad.block) : ∀ ad, A = some ad → 0 < n → ¬ WR W S ad.block := fun ad e hn hw => hA ad e hn hw.1
theorem dk_new (r : Int) (hr : r ≤ 9223372036854775807) (W : World) : Calls Try.prog 19 #[.int .i64 r] W fun e w' => ∃ g S, e = .returned (.pointer (some ⟨g, 0, none⟩)) ∧ Dk W w' S g 0 ⟨max 0 r, []⟩ := by
  refine (new_calls r W).mono ?_
  rintro e w' ⟨g, rfl, hd, hb⟩
  refine ⟨g, _, rfl, hb, fun k hk => ?_, hd, ⟨by dsimp only; omega, Nat.zero_le _, srt_nil, fun n f h => (List.not_mem_nil h).elim⟩⟩
  rcases hk with hk | hk
  · exact hk.elim
  · omega
theorem dk_write {s : ByteArray} {at_ : Int} {A : Option Addr} {c : Nat} {l : List Int} (h : Dk W0 W S g N D) (hN : N ≤ 1000000) (hs : s.size ≤ maxLen) (hr : k8.C W A l.length l) (hc : l.length ≤ c) (hl : l.length ≤ 140737488355328)
    (hA : ∀ ad, A = some ad → 0 < l.length → ¬ S ad.block) :
    Calls Try.prog 20 #[.pointer (some ⟨g, 0, none⟩), .string s, .int .i64 at_, .slice A l.length c] W fun e w' => e = .returned (.int .i64 (dWrite D s at_ l).1) ∧ Nx W0 W S w' g (N + 1) (dWrite D s at_ l).2 := by
  refine (write_calls h.2.2.1 hs (h.2.2.2.ok hN) (by have := h.2.2.2.used; omega) hr hc hl (h.notWR hA)).mono ?_
  rintro e w' ⟨rfl, hk, hd⟩
  exact ⟨rfl, h.next hk hd (dWrite_inv h.2.2.2)⟩
theorem dk_cut {s : ByteArray} {z : Int} (h : Dk W0 W S g N D) (hN : N ≤ 1000000) (hs : s.size ≤ maxLen) :
    Calls Try.prog 35 #[.pointer (some ⟨g, 0, none⟩), .string s, .int .i64 z] W fun e w' => e = .returned (.int .i64 (dCut D s z).1) ∧ Nx W0 W S w' g (N + 1) (dCut D s z).2 := by
  refine (cut_calls h.2.2.1 hs (h.2.2.2.ok hN)).mono ?_
  rintro e w' ⟨rfl, hk, hd⟩
  exact ⟨rfl, h.next hk hd (dCut_inv h.2.2.2)⟩
theorem dk_sync {s : ByteArray} (h : Dk W0 W S g N D) (hN : N ≤ 1000000) (hs : s.size ≤ maxLen) :
    Calls Try.prog 21 #[.pointer (some ⟨g, 0, none⟩), .string s] W fun e w' => e = .returned (.int .i64 (dSync D s).1) ∧ Nx W0 W S w' g N (dSync D s).2 := by
  refine (sync_calls h.2.2.1 hs (h.2.2.2.ok hN)).mono ?_
  rintro e w' ⟨rfl, hk, hd⟩
  exact ⟨rfl, h.next hk hd (dSync_inv h.2.2.2)⟩
theorem dk_remove {s : ByteArray} (h : Dk W0 W S g N D) (hs : s.size ≤ maxLen) :
    Calls Try.prog 34 #[.pointer (some ⟨g, 0, none⟩), .string s] W fun e w' => e = .returned (.int .i64 (dRemove D s).1) ∧ Nx W0 W S w' g N (dRemove D s).2 := by
  refine (remove_calls h.2.2.1 hs).mono ?_
  rintro e w' ⟨rfl, hk, hd⟩
  exact ⟨rfl, h.next hk hd (dRemove_inv h.2.2.2)⟩
theorem dk_rename {s t : ByteArray} (h : Dk W0 W S g N D) (hs : s.size ≤ maxLen) (ht : t.size ≤ maxLen) :
    Calls Try.prog 31 #[.pointer (some ⟨g, 0, none⟩), .string s, .string t] W fun e w' => e = .returned (.int .i64 (dRename D s t).1) ∧ Nx W0 W S w' g N (dRename D s t).2 := by
  refine (rename_calls h.2.2.1 hs ht (by have := h.2.2.2.few; omega)).mono ?_
  rintro e w' ⟨rfl, hk, hd⟩
  exact ⟨rfl, h.next hk hd (dRename_inv h.2.2.2)⟩
theorem dk_crash {A : Option Addr} {c : Nat} {keep : List Int} (h : Dk W0 W S g N D) (hN : N ≤ 1000000) (hk : (Kd.int .i64).C W A keep.length keep) (hA : ∀ ad, A = some ad → 0 < keep.length → ¬ S ad.block) (hkb : ∀ z ∈ keep, z ≤ 9223372036854775807) :
    Calls Try.prog 22 #[.pointer (some ⟨g, 0, none⟩), .slice A keep.length c] W fun e w' => e = .returned (.tuple #[]) ∧ Nx W0 W S w' g N (dCrash D keep) := by
  refine (crash_calls h.2.2.1 (h.2.2.2.ok hN) h.2.2.2.ck hk (h.notWR hA) hkb).mono ?_
  rintro e w' ⟨rfl, hk, hd⟩
  exact ⟨rfl, h.next hk hd (dCrash_inv h.2.2.2)⟩
theorem dk_read {s : ByteArray} (h : Dk W0 W S g N D) (hN : N ≤ 1000000) (hs : s.size ≤ maxLen) :
    Calls Try.prog 23 #[.pointer (some ⟨g, 0, none⟩), .string s] W fun e w' => ∃ A c, e = .returned (.tuple #[.slice A (dRead D s).1.length c, .int .i64 (dRead D s).2]) ∧ k8.R 5 w' W.heap.size (fun _ => True) (.slice A (dRead D s).1.length c) (dRead D s).1 ∧ Below W.heap.size W w' := by
  refine (read_calls h.2.2.1 hs (h.2.2.2.ok hN)).mono ?_
  rintro e w' ⟨v, rfl, ht, hb⟩
  obtain ⟨A, c, rfl⟩ := Kd.R_slice ht.R
  exact ⟨A, c, rfl, ht.R, hb⟩
theorem dk_names (h : Dk W0 W S g N D) : Calls Try.prog 25 #[.pointer (some ⟨g, 0, none⟩)] W fun e w' => ∃ A c, e = .returned (.slice A (namesB D.files).length c) ∧ Kd.R Kd.string 9 w' W.heap.size (fun _ => True) (.slice A (namesB D.files).length c) (namesB D.files) ∧ Below W.heap.size W w' := by
  refine (names_calls h.2.2.1 (by have := h.2.2.2.few; omega)).mono ?_
  rintro e w' ⟨v, rfl, hr, hb⟩
  obtain ⟨A, c, rfl⟩ := Kd.R_slice hr
  exact ⟨A, c, rfl, hr, hb⟩
end
/-- A literal row, as it is read. -/
theorem C_lit (K : IntKind) (w : World) (l : List Int) (t : TypeId) (hl : l.length ≤ 9223372036854775807) (fr : Nat × Nat) {A : Option Addr} (hA : A = some ⟨w.heap.size, 0, none⟩) : (Kd.int K).C (w.alloc (.cells (l.map (Value.int K)).toArray t fr)) A l.length l := by
  refine ⟨rfl, hl, fun _ => ⟨_, hA, fun j p hj => ⟨[.int K p], rfl, rfl, fun i u hu => ?_⟩⟩⟩
  have hi : i = 0 := by
    rcases i with _ | i
    · rfl
    · simp at hu
  subst hi
  simp at hu
  subst hu
  have e : ({ block := w.heap.size, off := 0 } : Addr).add (j * (Kd.int K).sz + 0) = ⟨w.heap.size, j, none⟩ := by
    rw [show (Kd.int K).sz = 1 from rfl, show j * 1 + 0 = j by omega]
    simp [Addr.add]
    exact fun h => h.symm
  rw [e, cell_of_row _ _ j _ _ fr (blk_new w _)]
  simp [hj]
end Go.Proofs.Ytmmiipnmimjojaa.PS
end
section
namespace Go.Proofs.Ytmmiipnmimjojaa.PS
open Go.RowKit Go.Proofs.YtmmiipnmimjojaaW.PrintWords Go.Proofs.YtmmiipnmimjojaaW.PrintLast Go.Proofs.YtmmiipnmimjojaaW.PrintMore
open Go.Maps Go.Proofs.Ytmmiipnmimjojaa.PD
set_option linter.unusedVariables false
set_option linter.unusedSimpArgs false
end Go.Proofs.Ytmmiipnmimjojaa.PS
end
section
namespace Go.Proofs.Ytmmiipnmimjojaa.PS
open Go.RowKit Go.Proofs.YtmmiipnmimjojaaW.PrintWords Go.Proofs.YtmmiipnmimjojaaW.PrintLast Go.Proofs.YtmmiipnmimjojaaW.PrintMore
open Go.Maps Go.Proofs.Ytmmiipnmimjojaa.PD
set_option linter.unusedVariables false
set_option linter.unusedSimpArgs false
/-- The names that are there: just the disk's; all files are empty. -/
structure FJ (N : Nat) (D : Dsk) (th : List ByteArray) : Prop where
  inv : DInv N D
  room : D.room = 0
  none_ : ∀ p ∈ D.files, p.2.f0 = []
  same : ∀ s : ByteArray, s ∈ th ↔ (aget s.data.toList D.files).isSome = true
  len : th.length = D.files.length
theorem cellS {w : World} {ad : Addr} {n : Nat} {l : List ByteArray} (h : Kd.string.C w (some ad) n l) {i : Int} (h0 : 0 ≤ i) (h1 : i < n) : w.cell? (ad.add i.toNat) = some (.string (l.getD i.toNat ByteArray.empty)) := by
  obtain ⟨ad', c, e, _, hcs, hx0⟩ := Kd.C_get h ByteArray.empty i h0 h1
  cases e
  rw [show c = [.string (l.getD i.toNat ByteArray.empty)] from hcs] at hx0
  have := hx0 0 _ rfl
  rwa [Nat.add_zero, show i.toNat * Kd.string.sz = i.toNat from Nat.mul_one _] at this
theorem C_some {α : Type} {d : Kd α} {w : World} {A : Option Addr} {l : List α} (h : d.C w A l.length l) (hn : l ≠ []) : ∃ ad, A = some ad := by
  cases A with
  | none => exact absurd (nil_of_C h) hn
  | some ad => exact ⟨ad, rfl⟩
theorem cellI {K : IntKind} {w : World} {ad : Addr} {n : Nat} {l : List Int} (h : (Kd.int K).C w (some ad) n l) {i : Int} (h0 : 0 ≤ i) (h1 : i < n) {x : Int} (hx : l.getD i.toNat 0 = x) : w.cell? (ad.add i.toNat) = some (.int K x) := by
  obtain ⟨ad', c, e, _, hcs, hx0⟩ := Kd.C_get h 0 i h0 h1
  cases e
  rw [show c = [.int K (l.getD i.toNat 0)] from hcs, hx] at hx0
  have := hx0 0 _ rfl
  rwa [Nat.add_zero, show i.toNat * (Kd.int K).sz = i.toNat from Nat.mul_one _] at this
end Go.Proofs.Ytmmiipnmimjojaa.PS
end
section
namespace Go.Proofs.Ytmmiipnmimjojaa.PS
open Go.RowKit Go.Proofs.YtmmiipnmimjojaaW.PrintWords Go.Proofs.YtmmiipnmimjojaaW.PrintLast Go.Proofs.YtmmiipnmimjojaaW.PrintMore
set_option linter.unusedVariables false
set_option linter.unusedSimpArgs false
/-- A bit's step, a byte's, a row's: as the program makes them. -/
def stp (q : Int) : Int := if bits .and .u32 q 1 = 1 then bits .xor .u32 (q / 2) 3988292384 else q / 2
def stps : Nat → Int → Int
  | 0, q => q
  | n + 1, q => stps n (stp q)
def crB (r x : Int) : Int := stps 8 (bits .xor .u32 r (x % 4294967296))
def sumL : List Int → Int → Int
  | [], r => r
  | x :: l, r => sumL l (crB r x)
def extB (s : Int) (l : List Int) : Int := bits .xor .u32 IntKind.u32.max (sumL l (bits .xor .u32 IntKind.u32.max s))
theorem sumL_step {l : List Int} {i x r : Int} (h0 : 0 ≤ i) (h1 : i < (l.length : Int)) (hx : l.getD i.toNat 0 = x) : sumL (l.drop i.toNat) r = sumL (l.drop (i + 1).toNat) (crB r x) := by
  rw [List.drop_eq_getElem_cons (by omega), show (i + 1).toNat = i.toNat + 1 by omega]
  rw [List.getD_eq_getElem?_getD, List.getElem?_eq_getElem (by omega)] at hx
  simp at hx
  rw [hx]
  rfl
theorem ext_range (s : Int) (l : List Int) : 0 ≤ extB s l ∧ extB s l < 4294967296 := by
  obtain ⟨z, hz⟩ : ∃ z, extB s l = IntKind.u32.wrap z := ⟨_, rfl⟩
  rw [hz]
  show 0 ≤ z % 4294967296 ∧ z % 4294967296 < 4294967296
  omega
set_option maxHeartbeats 2000000 in
set_option maxRecDepth 100000 in
theorem ext_calls {W : World} {A : Option Addr} {c : Nat} {l : List Int} (s : Int) (hA : k8.C W A l.length l) (hl : l.length ≤ 1000000) :
    Calls Try.prog 116 #[.int .u32 s, .slice A l.length c] W fun e w' => e = .returned (.int .u32 (extB s l)) ∧ W = w' := by
  have HA := Aside0.mk hA
  clear hA
  obtain ⟨Y, hY⟩ : ∃ Y, sumL l (bits .xor .u32 IntKind.u32.max s) = Y := ⟨_, rfl⟩
  unfold extB
  rw [hY]
  have HY := Aside0.mk hY
  clear hY
  go_enter Try.func116, Try.ntmps116
  go_wp2_with fail
  go_loopg [5, 13] l.length (fun kq v5 v13 w' => ∃ (i : Int) (r : Int), v13 = .int .i64 i ∧ 0 ≤ i ∧ i + kq = l.length ∧ v5 = .int .u32 r ∧ Aside0 (sumL (l.drop i.toNat) r = Y) ∧ W = w')
  case atStart => exact ⟨0, _, rfl, by omega, by omega, rfl, HY, rfl⟩
  case round =>
    obtain ⟨i, r, rfl, i0, i1, rfl, HS, rfl⟩ := hrel
    by_cases hi : i < (l.length : Int)
    · have c6 : decide (i < (l.length : Int)) = true := decide_eq_true hi
      obtain ⟨x, hx⟩ : ∃ x, l.getD i.toNat 0 = x := ⟨_, rfl⟩
      have hst := HS.out
      rw [sumL_step i0 hi hx] at hst
      have HST := Aside0.mk hst
      have hne : l ≠ [] := fun e => by subst e; simp at hi; omega
      obtain ⟨ad, rfl⟩ := C_some HA.out hne
      have hxc := cellI HA.out i0 hi hx
      have p0 := eq_true i0
      have p1 := eq_true hi
      have hni : IntKind.i64.wrap (i + 1) = i + 1 := IntWalk.i64_in _ ⟨by omega, by omega⟩
      clear hne hx hst
      obtain ⟨go, rfl⟩ : ∃ x : Nat, x = gk := ⟨_, rfl⟩
      go_wp2_with fail
      go_loopg [5, 21] 8 (fun kq v5 v21 w' => ∃ (k : Int) (q : Int), v21 = .int .i64 k ∧ 0 ≤ k ∧ k + kq = 8 ∧ v5 = .int .u32 q ∧ Aside0 (stps (8 - k).toNat q = crB r x) ∧ W = w')
      case atStart => exact ⟨0, _, rfl, by omega, by omega, rfl, ⟨rfl⟩, rfl⟩
      case round =>
        obtain ⟨k, q, rfl, k0, k1, rfl, HQ, rfl⟩ := hrel
        by_cases hk : k < 8
        · have c7 : decide (k < 8) = true := decide_eq_true hk
          have hnk : IntKind.i64.wrap (k + 1) = k + 1 := IntWalk.i64_in _ ⟨by omega, by omega⟩
          have hq := HQ.out
          rw [show (8 - k).toNat = (8 - (k + 1)).toNat + 1 by omega] at hq
          have hq2 : stps (8 - (k + 1)).toNat (stp q) = crB r x := hq
          have HQ2 := Aside0.mk hq2
          clear hq hq2
          by_cases hb : bits .and .u32 q 1 = 1
          · have cb : (bits .and .u32 q 1 == 1) = true := by simpa using hb
            have HQ3 := Aside0.mk (show stps (8 - (k + 1)).toNat (bits .xor .u32 (q / 2) 3988292384) = crB r x by have := HQ2.out; unfold stp at this; rwa [if_pos hb] at this)
            clear hb
            go_wp2_with fail
            go_roundg (gk - 1)
            case measure => omega
            case rel => exact ⟨k + 1, _, rfl, by omega, by omega, rfl, HQ3, rfl⟩
          · have cb : (bits .and .u32 q 1 == 1) = false := by simpa using hb
            have HQ3 := Aside0.mk (show stps (8 - (k + 1)).toNat (q / 2) = crB r x by have := HQ2.out; unfold stp at this; rwa [if_neg hb] at this)
            clear hb
            go_wp2_with fail
            go_roundg (gk - 1)
            case measure => omega
            case rel => exact ⟨k + 1, _, rfl, by omega, by omega, rfl, HQ3, rfl⟩
        · have c7 : decide (k < 8) = false := decide_eq_false hk
          have hke : (8 - k).toNat = 0 := by omega
          have hq := HQ.out
          rw [hke] at hq
          have HQ3 := Aside0.mk (show q = crB r x from hq)
          clear hq hke
          go_wp2_with fail
          go_roundg (go - 1)
          case measure => omega
          case rel => exact ⟨i + 1, q, rfl, by omega, by omega, rfl, ⟨by rw [HQ3.out]; exact HST.out⟩, rfl⟩
    · have c6 : decide (i < (l.length : Int)) = false := decide_eq_false hi
      have hs := HS.out
      rw [List.drop_eq_nil_of_le (by omega)] at hs
      obtain rfl : r = Y := hs
      go_wp2_with fail
      go_ret
      exact ⟨rfl, rfl⟩
theorem sum_calls {W : World} {A : Option Addr} {c : Nat} {l : List Int} (hA : k8.C W A l.length l) (hl : l.length ≤ 1000000) :
    Calls Try.prog 117 #[.slice A l.length c] W fun e w' => e = .returned (.int .u32 (extB 0 l)) ∧ W = w' := by
  go_enter Try.func117, Try.ntmps117
  go_wp2_with fail
  refine (ext_calls 0 hA hl).mono ?_
  rintro e w' ⟨rfl, rfl⟩
  go_wp2_with fail
  go_ret
  exact ⟨rfl, rfl⟩
end Go.Proofs.Ytmmiipnmimjojaa.PS
end
section
namespace Go.Proofs.Ytmmiipnmimjojaa.PS
open Go.RowKit Go.Proofs.YtmmiipnmimjojaaW.PrintWords Go.Proofs.YtmmiipnmimjojaaW.PrintLast Go.Proofs.YtmmiipnmimjojaaW.PrintMore
set_option linter.unusedVariables false
set_option linter.unusedSimpArgs false
def be4 (v : Int) : List Int := [v / 16777216 % 256, v / 65536 % 256, v / 256 % 256, v % 256]
theorem be4_bytes (v : Int) : ∀ x ∈ be4 v, 0 ≤ x ∧ x < 256 := by
  intro x hx
  unfold be4 at hx
  simp only [List.mem_cons, List.not_mem_nil, or_false] at hx
  rcases hx with rfl | rfl | rfl | rfl <;> omega
theorem put_step (xs : List Int) (o : Nat) (v : Int) (i : Nat) (x : Int) (hi : i < 4) (ho : o + 4 ≤ xs.length) (hx : (be4 v)[i]? = some x) :
    (xs.take o ++ (be4 v).take i ++ xs.drop (o + i)).set (o + i) x = xs.take o ++ (be4 v).take (i + 1) ++ xs.drop (o + (i + 1)) := by
  have hl : (be4 v).length = 4 := rfl
  have h1 : (xs.take o ++ (be4 v).take i).length = o + i := by simp; omega
  rw [List.set_append_right _ _ (by rw [h1]; exact Nat.le_refl _), h1, Nat.sub_self]
  have hd : xs.drop (o + i) = xs[o + i]'(by omega) :: xs.drop (o + (i + 1)) := List.drop_eq_getElem_cons (by omega)
  rw [hd, List.set_cons_zero]
  have ht : (be4 v).take (i + 1) = (be4 v).take i ++ [x] := by
    rw [List.take_add_one, hx]
    rfl
  rw [ht]
  simp
set_option maxHeartbeats 2000000 in
set_option maxRecDepth 100000 in
theorem fput_calls {w0 W : World} {base g o n c cap : Nat} {xs : List Int} {ok : Nat → Prop} (v : Int) (hR : k8.R 5 W base ok (.slice (some ⟨g, 0, none⟩) xs.length cap) xs) (ho : o + 4 ≤ xs.length) (hn : 4 ≤ n) (hB : Below base w0 W) (hv : 0 ≤ v ∧ v < 4294967296) :
    Calls Try.prog 122 #[.slice (some ⟨g, o, none⟩) n c, .int .u32 v] W fun e w' => e = .returned (.tuple #[]) ∧ k8.R 5 w' base ok (.slice (some ⟨g, 0, none⟩) xs.length cap) (xs.take o ++ be4 v ++ xs.drop (o + 4)) ∧ Below base w0 w' ∧ Kp W w' (fun k => k = g) := by
  have HR := Aside0.mk hR
  have HB := Aside0.mk hB
  have HGB := Aside0.mk (Kd.R_base hR g (by simp [Value.ownBlock]))
  clear hR hB
  go_enter Try.func122, Try.ntmps122
  go_wp2_with fail
  go_loopg [5] 4 (fun kq v5 w' => ∃ (i : Nat), v5 = .int .i64 i ∧ i + kq = 4 ∧ Aside0 (k8.R 5 w' base ok (.slice (some ⟨g, 0, none⟩) xs.length cap) (xs.take o ++ (be4 v).take i ++ xs.drop (o + i))) ∧ Aside0 (Below base w0 w') ∧ Aside0 (Kp W w' (fun k => k = g)))
  case atStart => exact ⟨0, rfl, by omega, ⟨by simpa using HR.out⟩, HB, ⟨Kp.refl _ _⟩⟩
  case round =>
    clear HR HB
    obtain ⟨i, rfl, hi, HR, HB, HK⟩ := hrel
    rcases (show i = 4 ∨ i = 0 ∨ i = 1 ∨ i = 2 ∨ i = 3 by omega) with rfl | rfl | rfl | rfl | rfl
    · have hx : xs.take o ++ (be4 v).take 4 ++ xs.drop (o + 4) = xs.take o ++ be4 v ++ xs.drop (o + 4) := rfl
      go_wp2_with fail
      go_end0
      exact ⟨rfl, by rw [← hx]; exact HR.out, HB.out, HK.out⟩
    · obtain ⟨h1, h2⟩ := Kd.R_celln 0 HR.out ((o : Int) + (0 : Nat)) (by omega) (by omega)
      rw [show ((o : Int) + ((0 : Nat) : Int)).toNat = o by omega] at h1 h2
      have p0 : (0 < (n : Int)) = True := eq_true (by omega)
      have hp := Kd.R_putg HR.out ((o : Int) + (0 : Nat)) (v / 16777216)
      rw [show ((o : Int) + ((0 : Nat) : Int)).toNat = o + 0 by omega, put_step xs o v 0 (v / 16777216) (by omega) ho (by first | rfl | (show some _ = some _; congr 1; omega))] at hp
      have HP := Aside0.mk hp
      clear hp
      go_wp2_with fail
      go_roundg (gk - 1)
      case measure => omega
      case rel => exact ⟨1, rfl, by omega, ⟨HP.out.1⟩, ⟨HB.out.setCell (p := ⟨g, o, none⟩) HGB.out _⟩, ⟨HK.out.setCell (p := ⟨g, o, none⟩) (.inl rfl) _⟩⟩
    · obtain ⟨h1, h2⟩ := Kd.R_celln 0 HR.out ((o : Int) + (1 : Nat)) (by omega) (by omega)
      rw [show ((o : Int) + ((1 : Nat) : Int)).toNat = o + 1 by omega] at h1 h2
      have p0 : (1 < (n : Int)) = True := eq_true (by omega)
      have hp := Kd.R_putg HR.out ((o : Int) + (1 : Nat)) (v / 65536 % 256)
      rw [show ((o : Int) + ((1 : Nat) : Int)).toNat = o + 1 by omega, put_step xs o v 1 (v / 65536 % 256) (by omega) ho (by first | rfl | (show some _ = some _; congr 1; omega))] at hp
      have HP := Aside0.mk hp
      clear hp
      go_wp2_with fail
      go_roundg (gk - 1)
      case measure => omega
      case rel => exact ⟨2, rfl, by omega, ⟨HP.out.1⟩, ⟨HB.out.setCell (p := ⟨g, o + 1, none⟩) HGB.out _⟩, ⟨HK.out.setCell (p := ⟨g, o + 1, none⟩) (.inl rfl) _⟩⟩
    · obtain ⟨h1, h2⟩ := Kd.R_celln 0 HR.out ((o : Int) + (2 : Nat)) (by omega) (by omega)
      rw [show ((o : Int) + ((2 : Nat) : Int)).toNat = o + 2 by omega] at h1 h2
      have p0 : (2 < (n : Int)) = True := eq_true (by omega)
      have hp := Kd.R_putg HR.out ((o : Int) + (2 : Nat)) (v / 256 % 256)
      rw [show ((o : Int) + ((2 : Nat) : Int)).toNat = o + 2 by omega, put_step xs o v 2 (v / 256 % 256) (by omega) ho (by first | rfl | (show some _ = some _; congr 1; omega))] at hp
      have HP := Aside0.mk hp
      clear hp
      go_wp2_with fail
      go_roundg (gk - 1)
      case measure => omega
      case rel => exact ⟨3, rfl, by omega, ⟨HP.out.1⟩, ⟨HB.out.setCell (p := ⟨g, o + 2, none⟩) HGB.out _⟩, ⟨HK.out.setCell (p := ⟨g, o + 2, none⟩) (.inl rfl) _⟩⟩
    · obtain ⟨h1, h2⟩ := Kd.R_celln 0 HR.out ((o : Int) + (3 : Nat)) (by omega) (by omega)
      rw [show ((o : Int) + ((3 : Nat) : Int)).toNat = o + 3 by omega] at h1 h2
      have p0 : (3 < (n : Int)) = True := eq_true (by omega)
      have hp := Kd.R_putg HR.out ((o : Int) + (3 : Nat)) (v % 256)
      rw [show ((o : Int) + ((3 : Nat) : Int)).toNat = o + 3 by omega, put_step xs o v 3 (v % 256) (by omega) ho (by first | rfl | (show some _ = some _; congr 1; omega))] at hp
      have HP := Aside0.mk hp
      clear hp
      go_wp2_with fail
      go_roundg (gk - 1)
      case measure => omega
      case rel => exact ⟨4, rfl, by omega, ⟨HP.out.1⟩, ⟨HB.out.setCell (p := ⟨g, o + 3, none⟩) HGB.out _⟩, ⟨HK.out.setCell (p := ⟨g, o + 3, none⟩) (.inl rfl) _⟩⟩
theorem ofInt_u32 (a : Nat) (ha : a < 4294967296) : (BitVec.ofInt 32 (a : Int)).toNat = a := by
  rw [BitVec.ofInt_natCast, BitVec.toNat_ofNat]; exact Nat.mod_eq_of_lt (by omega)
theorem or_byte (a b : Int) (h0 : 0 ≤ a) (h1 : a < 16777216) (h2 : 0 ≤ b) (h3 : b < 256) : bits .or .u32 ((a * 256) % 4294967296) (b % 4294967296) = a * 256 + b := by
  obtain ⟨m, rfl⟩ := Int.eq_ofNat_of_zero_le h0
  obtain ⟨n, rfl⟩ := Int.eq_ofNat_of_zero_le h2
  rw [show ((m : Int) * 256) % 4294967296 = ((m * 256 : Nat) : Int) by omega, show (n : Int) % 4294967296 = n by omega]
  show IntKind.u32.wrap ((BitVec.ofInt 32 ((m * 256 : Nat) : Int) ||| BitVec.ofInt 32 (n : Int)).toNat : Int) = _
  rw [BitVec.toNat_or, ofInt_u32 _ (by omega), ofInt_u32 _ (by omega)]
  have hor : m * 256 ||| n = m * 256 + n := by
    have := Nat.two_pow_add_eq_or_of_lt (i := 8) (b := n) (by omega) m
    rw [Nat.mul_comm] at this
    exact this.symm
  rw [hor]
  show ((m * 256 + n : Nat) : Int) % 4294967296 = _
  omega
/-- What has been read of a number. -/
def preB (v : Int) : Nat → Int
  | 0 => 0
  | 1 => v / 16777216
  | 2 => v / 65536
  | 3 => v / 256
  | _ => v
theorem pre_step (v : Int) (hv : 0 ≤ v ∧ v < 4294967296) (i : Nat) (x : Int) (hi : i < 4) (hx : (be4 v)[i]? = some x) : bits .or .u32 ((preB v i * 256) % 4294967296) (x % 4294967296) = preB v (i + 1) := by
  have hxb := be4_bytes v x (List.mem_of_getElem? hx)
  have hpb : 0 ≤ preB v i ∧ preB v i < 16777216 := by
    rcases (show i = 0 ∨ i = 1 ∨ i = 2 ∨ i = 3 by omega) with rfl | rfl | rfl | rfl
    · show (0 : Int) ≤ 0 ∧ (0 : Int) < 16777216; omega
    · show 0 ≤ v / 16777216 ∧ v / 16777216 < 16777216; omega
    · show 0 ≤ v / 65536 ∧ v / 65536 < 16777216; omega
    · show 0 ≤ v / 256 ∧ v / 256 < 16777216; omega
  rw [or_byte _ _ hpb.1 hpb.2 hxb.1 hxb.2]
  rcases (show i = 0 ∨ i = 1 ∨ i = 2 ∨ i = 3 by omega) with rfl | rfl | rfl | rfl <;> simp [be4] at hx <;> subst hx
  · show (0 : Int) * 256 + _ = v / 16777216; omega
  · show v / 16777216 * 256 + _ = v / 65536; omega
  · show v / 65536 * 256 + _ = v / 256; omega
  · show v / 256 * 256 + _ = v; omega
set_option maxHeartbeats 2000000 in
set_option maxRecDepth 100000 in
theorem fget_calls {W : World} {A : Option Addr} {c : Nat} {l rest : List Int} (v : Int) (hA : k8.C W A l.length l) (hc : l.length ≤ c) (hl : l = be4 v ++ rest) (hv : 0 ≤ v ∧ v < 4294967296) (hb : l.length ≤ 1000000000) :
    Calls Try.prog 115 #[.slice A l.length c] W fun e w' => e = .returned (.int .u32 v) ∧ W = w' := by
  have h4 : 4 ≤ l.length := by rw [hl]; simp [be4]
  have HC := Aside0.mk hA
  have hat : ∀ i : Nat, i < 4 → ∃ x, (be4 v)[i]? = some x ∧ l.getD i 0 = x := by
    intro i hi
    have : i < (be4 v).length := hi
    refine ⟨(be4 v)[i], List.getElem?_eq_getElem this, ?_⟩
    rw [hl, List.getD_eq_getElem?_getD, List.getElem?_append_left this, List.getElem?_eq_getElem this]
    rfl
  have HAT := Aside0.mk hat
  have HV := Aside0.mk hv
  have hne : l ≠ [] := fun e => by rw [e] at h4; simp at h4
  obtain ⟨ad, rfl⟩ := C_some hA hne
  clear hA hl hat hv hne
  have c4 : (4 ≤ (l.length : Int)) = True := eq_true (by omega)
  have c4' : (4 ≤ (c : Int)) = True := eq_true (by omega)
  go_enter Try.func115, Try.ntmps115
  go_wp2_with fail
  go_loopg [3, 9] 4 (fun kq v3 v9 w' => ∃ (i : Nat) (r : Int), v3 = .int .u32 r ∧ v9 = .int .i64 i ∧ Aside0 (r = preB v i) ∧ i + kq = 4 ∧ W = w')
  case atStart => exact ⟨0, 0, rfl, rfl, ⟨rfl⟩, by omega, rfl⟩
  case round =>
    obtain ⟨i, r, rfl, rfl, HRR, hi, rfl⟩ := hrel
    rcases (show i = 4 ∨ i < 4 by omega) with rfl | hi4
    · go_wp2_with fail
      go_ret
      exact ⟨by rw [HRR.out]; rfl, rfl⟩
    · obtain ⟨x, hx1, hx2⟩ := HAT.out i hi4
      have hx := pre_step v HV.out i x hi4 hx1
      have hxb := be4_bytes v x (List.mem_of_getElem? hx1)
      have hxc := cellI HC.out (i := (i : Int)) (by omega) (by omega) (by simpa using hx2)
      rw [Int.toNat_natCast] at hxc
      have p0 : (0 ≤ (i : Int)) = True := eq_true (by omega)
      have p1 : ((i : Int) < 4) = True := eq_true (by omega)
      have c6 : decide ((i : Int) < 4) = true := decide_eq_true (by omega)
      have hni : IntKind.i64.wrap ((i : Int) + 1) = (i : Int) + 1 := IntWalk.i64_in _ ⟨by omega, by omega⟩
      clear hx1 hx2
      rw [← HRR.out] at hx
      rw [Int.emod_eq_of_lt (a := x) (b := 4294967296) hxb.1 (by omega)] at hx
      have HX := Aside0.mk hx
      clear hx
      go_wp2_with fail
      go_roundg (gk - 1)
      case measure => omega
      case rel => exact ⟨i + 1, _, rfl, rfl, HX, by omega, rfl⟩
end Go.Proofs.Ytmmiipnmimjojaa.PS
end
section
namespace Go.Proofs.Ytmmiipnmimjojaa.PS
open Go.RowKit Go.Proofs.YtmmiipnmimjojaaW.PrintWords Go.Proofs.YtmmiipnmimjojaaW.PrintLast Go.Proofs.YtmmiipnmimjojaaW.PrintMore
set_option linter.unusedVariables false
set_option linter.unusedSimpArgs false
def frameB (l : List Int) : List Int := be4 l.length ++ be4 (extB (extB 0 (be4 l.length)) l) ++ l
theorem be4_len (v : Int) : (be4 v).length = 4 := rfl
theorem R_some {W : World} {base : Nat} {ok : Nat → Prop} {v : Value} {xs : List Int} (h : k8.R 5 W base ok v xs) (hn : 0 < xs.length) : ∃ g c, v = .slice (some ⟨g, 0, none⟩) xs.length c ∧ xs.length ≤ c := by
  obtain ⟨h1, h2⟩ := Kd.own_of_R (enc := Value.int .u8) (h1 := fun _ => rfl) h
  rcases h2 with ⟨he, h0⟩ | ⟨g, cap, cur, he, hb, hh, hnc, hcm, hcs, ht⟩
  · omega
  · exact ⟨g, cap, he, hnc⟩
set_option maxHeartbeats 4000000 in
set_option maxRecDepth 100000 in
theorem frame_calls {W : World} {A : Option Addr} {c : Nat} {l : List Int} (hA : k8.C W A l.length l) (hc : l.length ≤ c) (hl : l.length ≤ 65536) :
    Calls Try.prog 105 #[.slice A l.length c] W fun e w' => ∃ v1, e = .returned (.tuple #[v1, .int .i64 0]) ∧ k8.R 5 w' W.heap.size (fun _ => True) v1 (frameB l) ∧ Below W.heap.size W w' := by
  have HC := Aside0.mk hA
  obtain ⟨i0, hi0, hz⟩ := Option.map_eq_some_iff.1 info5
  simp only [Prod.mk.injEq] at hz
  have hiz : i0.size = 1 := hz.2.1
  have HI := Aside0.mk hi0
  have HZ := Aside0.mk hiz
  clear hz hi0 hiz hA
  have c1 : decide (65536 < (l.length : Int)) = false := decide_eq_false (by omega)
  have hw1 : IntKind.i64.wrap (8 + (l.length : Int)) = 8 + (l.length : Int) := IntWalk.i64_in _ ⟨by omega, by omega⟩
  go_enter Try.func105, Try.ntmps105
  go_wp2_with (first
    | ((with_reducible refine gate_dst (N := 11) rfl ?_); refine Kd.R_make k8 (w0 := W) W.heap.size 5 (by rfl) (N := 11) (by rfl) 22 (.tmp 10) (.tmp 10) (by rfl) (8 + (l.length : Int)) (by rfl) (by rfl) Try.underlying22 (.int .u8 0) 1 info5 (by rfl) (by decide) (by decide) (0 : Int) (ok := fun _ => True) (okp := fun _ => False) ?hzero (fun _ h => h.elim) trivial (by omega) (by omega) (Below.refl _ _) (Nat.le_refl _) ?_; (case hzero => exact rfl); intro v1 w1 hR hb1 hg_ hnew_; clear hg_ hnew_; have HO1 := Aside0.mk hR; have HB1 := Aside0.mk hb1; clear hR hb1)
    | fail)
  obtain ⟨X0, hX0⟩ : ∃ X, List.replicate (8 + (l.length : Int)).toNat (0 : Int) = X := ⟨_, rfl⟩
  have hX0l : X0.length = 8 + l.length := by rw [← hX0, List.length_replicate]; omega
  rw [hX0] at HO1
  obtain ⟨g, cc, rfl, hcc⟩ := R_some HO1.out (by omega)
  have HX0 := Aside0.mk hX0
  clear hX0
  have HX0l := Aside0.mk hX0l
  have hR1 : k8.R 5 w1 W.heap.size (fun _ => True) (.slice (some ⟨g, 0, none⟩) X0.length cc) X0 := by
    exact HO1.out
  have HR1 := Aside0.mk hR1
  clear hR1 HO1
  refine (fput_calls (l.length : Int) (o := 0) (n := X0.length) (c := cc) HR1.out (by omega) (by omega) HB1.out ⟨by omega, by omega⟩).mono ?_
  rintro e w2 ⟨rfl, hR2, hB2, hK2⟩
  clear hK2 HB1 HR1
  obtain ⟨X1, hX1⟩ : ∃ X, X0.take 0 ++ be4 (l.length : Int) ++ X0.drop (0 + 4) = X := ⟨_, rfl⟩
  rw [hX1] at hR2
  have hX1l : X1.length = X0.length := by rw [← hX1]; simp [be4_len]; omega
  have hX1e : X1 = be4 (l.length : Int) ++ X0.drop 4 := by rw [← hX1]; rfl
  rw [← hX1l] at hR2
  have HR2 := Aside0.mk hR2
  have HB2 := Aside0.mk hB2
  have hcut1 := cut_from 22 5 .i64 Try.underlying22 HI.out 1 HZ.out (some ⟨g, 0, none⟩) X0.length cc (8 : Int) (by omega) (by omega)
  obtain ⟨D1, hD1⟩ : ∃ D1, (if cc = 8 then (some ⟨g, 0, none⟩ : Option Addr) else (some ⟨g, 0, none⟩ : Option Addr).map (·.add (8 * 1))) = D1 := ⟨_, rfl⟩
  rw [show (8 : Int).toNat = 8 from rfl, hD1] at hcut1
  have HD1 := Aside0.mk hD1
  have HE1 := Aside0.mk hX1e
  have HL1 := Aside0.mk hX1l
  clear hR2 hB2 hD1 hX1 hX1e hX1l hX0l
  go_wp2_with (first
    | ((with_reducible refine gate_dst (N := 20) rfl ?_); refine copy8 (by rfl) (.tmp 18) (.tmp 19) (by rfl) (A := some ⟨g, 0, none⟩) (A' := A) (c := cc) (j := 8) (sc := c) (xs := X1) (ys := l) (base := W.heap.size) (ok := fun _ => True) (by rw [HD1.out, HL1.out]; rfl) (by rfl) HR2.out (Kd.C_below HC.out (HB2.out.mono (Nat.le_refl _))) (by rw [HL1.out, HX0l.out]; omega) HB2.out ?_; intro w3 hR3 hB3; have HR3 := Aside0.mk hR3; have HB3 := Aside0.mk hB3; clear hR3 hB3)
    | fail)
  obtain ⟨X2, hX2⟩ : ∃ X, X1.take 8 ++ l.take (Nat.min l.length (X1.length - 8)) ++ X1.drop (8 + Nat.min l.length (X1.length - 8)) = X := ⟨_, rfl⟩
  have hr3 := HR3.out
  rw [hX2, HL1.out] at hr3
  have hmin : Nat.min l.length (X1.length - 8) = l.length := by rw [HL1.out, HX0l.out]; exact Nat.min_eq_left (by omega)
  have hX2e : X2 = be4 (l.length : Int) ++ (X0.drop 4).take 4 ++ l := by
    have h0 := HX0l.out
    have h1 := HL1.out
    rw [← hX2, hmin, List.take_length, List.drop_eq_nil_of_le (by omega), List.append_nil, HE1.out, List.take_append, be4_len, List.take_of_length_le (by rw [be4_len]; omega)]
  have hX2l : X2.length = X0.length := by
    rw [hX2e]; simp only [List.length_append, List.length_take, List.length_drop, be4_len]; have := HX0l.out; omega
  rw [← hX2l] at hr3
  have hc3 := (Kd.R_reads' hr3).2.2
  have hs4 := Kd.C_take (m := 4) (Kd.C_drew hc3) (by rw [hX2l]; have := HX0l.out; omega)
  have ht4 : X2.take 4 = be4 (l.length : Int) := by rw [hX2e, List.append_assoc, List.take_append_of_le_length (by rw [be4_len]; omega)]; exact List.take_of_length_le (by rw [be4_len]; omega)
  rw [ht4] at hs4
  have HS4 := Aside0.mk hs4
  have HRd := Aside0.mk (Kd.R_drew hr3)
  have HBd := Aside0.mk (below_drew1 HB3.out)
  have HX2 := Aside0.mk hX2e
  have HL2 := Aside0.mk hX2l
  have HCd : Aside0 (k8.C w3.drew A l.length l) := ⟨Kd.C_below HC.out HBd.out⟩
  have hcut4 := cut_from 22 5 .i64 Try.underlying22 HI.out 1 HZ.out (some ⟨g, 0, none⟩) X0.length cc (4 : Int) (by omega) (by have := HX0l.out; omega)
  rw [show (4 : Int).toNat = 4 from rfl, if_neg (show ¬ cc = 4 by have := HX0l.out; omega), show (some ⟨g, 0, none⟩ : Option Addr).map (·.add (4 * 1)) = some ⟨g, 4, none⟩ from rfl] at hcut4
  have hcutt := cut_to 22 5 .i64 Try.underlying22 HI.out (some ⟨g, 0, none⟩) X0.length cc (4 : Int) (by omega) (by have := HX0l.out; omega) hcc
  rw [show (4 : Int).toNat = 4 from rfl] at hcutt
  clear hX2 hr3 hmin hX2e hX2l hc3 hs4 ht4 hcut1
  go_region_law (first
    | (go_simp; go_at_call 117; refine (sum_calls (c := cc) HS4.out (by rw [be4_len]; omega)).mono ?_; rintro e w' ⟨rfl, rfl⟩)
    | (go_simp; go_at_call 116; refine (ext_calls (extB 0 (be4 (l.length : Int))) HCd.out (by omega)).mono ?_; rintro e w' ⟨rfl, rfl⟩)
    | (go_simp; go_at_call 122; refine (fput_calls (extB (extB 0 (be4 (l.length : Int))) l) (o := 4) (n := X0.length - 4) (c := cc - 4) HRd.out (by rw [HL2.out, HX0l.out]; omega) (by rw [HX0l.out]; omega) HBd.out (ext_range _ _)).mono ?_; rintro e w5 ⟨rfl, hR5, hB5, hK5⟩; have HR5 := Aside0.mk hR5; have HB5 := Aside0.mk hB5; clear hR5 hB5 hK5)
    | fail)
  all_goals
    go_wp2_with fail
    go_ret2
    refine ⟨_, rfl, ?_, HB5.out⟩
    have hr := HR5.out
    rw [show X2.take 4 ++ be4 (extB (extB 0 (be4 (l.length : Int))) l) ++ X2.drop (4 + 4) = frameB l by
      rw [HX2.out]
      have h0 := HX0l.out
      rw [List.append_assoc (be4 _), List.take_append_of_le_length (by rw [be4_len]; omega), List.take_of_length_le (by rw [be4_len]; omega), ← List.append_assoc (be4 (l.length : Int)), List.drop_append_of_le_length (by simp only [List.length_append, List.length_take, List.length_drop, be4_len]; omega), List.drop_eq_nil_of_le (by simp only [List.length_append, List.length_take, List.length_drop, be4_len]; omega)]
      rfl, HL2.out] at hr
    exact hr
end Go.Proofs.Ytmmiipnmimjojaa.PS
end
section
namespace Go.Proofs.Ytmmiipnmimjojaa.PS
open Go.RowKit Go.Proofs.YtmmiipnmimjojaaW.PrintWords Go.Proofs.YtmmiipnmimjojaaW.PrintLast Go.Proofs.YtmmiipnmimjojaaW.PrintMore
set_option linter.unusedVariables false
set_option linter.unusedSimpArgs false
theorem frameB_len (q : List Int) : (frameB q).length = 8 + q.length := by
  unfold frameB
  simp only [List.length_append, be4_len]
set_option maxHeartbeats 4000000 in
set_option maxRecDepth 100000 in
theorem next_calls {W : World} {A : Option Addr} {c : Nat} {l q rest : List Int} {at_ : Nat} (hA : k8.C W A l.length l) (hc : l.length ≤ c) (hat : at_ ≤ l.length) (hr : l.drop at_ = frameB q ++ rest) (hq : q.length ≤ 65536) (hb : l.length ≤ 1000000000) :
    Calls Try.prog 99 #[.slice A l.length c, .int .i64 at_] W fun e w' => ∃ v1, e = .returned (.tuple #[v1, .int .i64 (at_ + 8 + q.length), .int .i64 0]) ∧ k8.R 5 w' W.heap.size (fun _ => True) v1 q ∧ Below W.heap.size W w' := by
  obtain ⟨i0, hi0, hz⟩ := Option.map_eq_some_iff.1 info5
  simp only [Prod.mk.injEq] at hz
  have hiz : i0.size = 1 := hz.2.1
  have HI := Aside0.mk hi0
  have HZ := Aside0.mk hiz
  clear hz hi0 hiz
  obtain ⟨r, hrr⟩ : ∃ r, l.drop at_ = r := ⟨_, rfl⟩
  rw [hrr] at hr
  have hrl : r.length = l.length - at_ := by rw [← hrr, List.length_drop]
  have hrq : r.length = 8 + q.length + rest.length := by rw [hr, List.length_append, frameB_len]
  have hcr := Kd.C_drop hA hat hc
  rw [hrr] at hcr
  obtain ⟨c', hc'⟩ : ∃ c', c - at_ = c' := ⟨_, rfl⟩
  have hcut1 := cut_from 22 5 .i64 Try.underlying22 HI.out 1 HZ.out A l.length c (at_ : Int) (by omega) (by omega)
  rw [Int.toNat_natCast, ← hrl, hc'] at hcut1
  obtain ⟨D, hD⟩ : ∃ D, (if c = at_ then A else A.map (·.add (at_ * 1))) = D := ⟨_, rfl⟩
  rw [hD] at hcut1
  have hcr' : k8.C W D r.length r := by rw [← hD]; exact hcr
  have hrc : r.length ≤ c' := by omega
  have HC := Aside0.mk hcr'
  have hne : r ≠ [] := fun e => by rw [e] at hrq; simp at hrq; omega
  have c1 : decide ((at_ : Int) < 0) = false := decide_eq_false (by omega)
  have c2 : decide ((l.length : Int) < (at_ : Int)) = false := decide_eq_false (by omega)
  have c3 : decide ((r.length : Int) < 8) = false := decide_eq_false (by omega)
  have c4 : decide (65536 < (q.length : Int)) = false := decide_eq_false (by omega)
  have c5 : decide ((r.length : Int) - 8 < (q.length : Int)) = false := decide_eq_false (by omega)
  have hw1 : IntKind.i64.wrap ((r.length : Int) - 8) = (r.length : Int) - 8 := IntWalk.i64_in _ ⟨by omega, by omega⟩
  have hw2 : IntKind.i64.wrap (8 + (q.length : Int)) = 8 + (q.length : Int) := IntWalk.i64_in _ ⟨by omega, by omega⟩
  have hw3 : IntKind.i64.wrap ((at_ : Int) + 8) = (at_ : Int) + 8 := IntWalk.i64_in _ ⟨by omega, by omega⟩
  have hw4 : IntKind.i64.wrap ((at_ : Int) + 8 + (q.length : Int)) = (at_ : Int) + 8 + (q.length : Int) := IntWalk.i64_in _ ⟨by omega, by omega⟩
  have hw5 : IntKind.i64.wrap (q.length : Int) = (q.length : Int) := IntWalk.i64_in _ ⟨by omega, by omega⟩
  have hcutm := cut_mid 22 5 .i64 .i64 Try.underlying22 HI.out 1 HZ.out D r.length c' (8 : Int) (8 + (q.length : Int)) (by omega) (by omega) (by omega) hrc
  obtain ⟨E, hE⟩ : ∃ E, (if c' = 8 then D else D.map (·.add (8 * 1))) = E := ⟨_, rfl⟩
  rw [show (8 : Int).toNat = 8 from rfl, hE, show (8 + (q.length : Int)).toNat - 8 = q.length by omega] at hcutm
  have hcd := Kd.C_drop (m := 8) hcr' (by omega) hrc
  have hct := Kd.C_take (m := q.length) hcd (by rw [List.length_drop]; omega)
  have htq : (r.drop 8).take q.length = q := by
    rw [hr]; unfold frameB
    rw [List.append_assoc, List.drop_append_of_le_length (by simp only [List.length_append, be4_len]; omega), List.drop_eq_nil_of_le (by simp only [List.length_append, be4_len]; omega), List.nil_append, List.take_append_of_le_length (Nat.le_refl _), List.take_length]
  rw [htq] at hct
  have HQ : Aside0 (k8.C W E q.length q) := ⟨by rw [← hE]; exact hct⟩
  have hs := Kd.C_take (m := 4) hcr' (by omega)
  have ht4 : r.take 4 = be4 (q.length : Int) := by
    rw [hr]; unfold frameB
    rw [List.append_assoc, List.append_assoc, List.take_append_of_le_length (by rw [be4_len]; omega)]; exact List.take_of_length_le (by rw [be4_len]; omega)
  rw [ht4] at hs
  have HS := Aside0.mk hs
  obtain ⟨S, hS⟩ : ∃ S, extB (extB 0 (be4 (q.length : Int))) q = S := ⟨_, rfl⟩
  have hSr : 0 ≤ S ∧ S < 4294967296 := by rw [← hS]; exact ext_range _ _
  have hr1 : r = be4 (q.length : Int) ++ (be4 S ++ q ++ rest) := by
    rw [hr, ← hS]; unfold frameB
    simp only [List.append_assoc]
  have hr2 : r.drop 4 = be4 S ++ (q ++ rest) := by
    rw [hr1, List.drop_append_of_le_length (by rw [be4_len]; omega), List.drop_eq_nil_of_le (by rw [be4_len]; omega), List.nil_append, List.append_assoc]
  have hcut4 := cut_from 22 5 .i64 Try.underlying22 HI.out 1 HZ.out D r.length c' (4 : Int) (by omega) (by omega)
  obtain ⟨F, hF⟩ : ∃ F, (if c' = 4 then D else D.map (·.add (4 * 1))) = F := ⟨_, rfl⟩
  rw [show (4 : Int).toNat = 4 from rfl, hF] at hcut4
  have hc4 := Kd.C_drop (m := 4) hcr' (by omega) hrc
  have H4 : Aside0 (k8.C W F (r.drop 4).length (r.drop 4)) := ⟨by rw [← hF]; exact hc4⟩
  have hcutt := cut_to 22 5 .i64 Try.underlying22 HI.out D r.length c' (4 : Int) (by omega) (by omega) hrc
  rw [show (4 : Int).toNat = 4 from rfl] at hcutt
  have hl4 : (r.drop 4).length = r.length - 4 := List.length_drop
  have HL4 := Aside0.mk hl4
  have HR1 := Aside0.mk hr1
  have HR2 := Aside0.mk hr2
  have HSS := Aside0.mk hS
  have HRL := Aside0.mk hrl
  have HRQ := Aside0.mk hrq
  clear hA hr hrr hrl hrq hcr hc' hD hcr' hE hcd hct htq hs ht4 hS hr1 hr2 hF hc4 hl4 hne
  go_enter Try.func99, Try.ntmps99
  go_wp2_with fail
  refine (fget_calls (q.length : Int) HC.out hrc HR1.out ⟨by omega, by omega⟩ (by have := HRL.out; omega)).mono ?_
  rintro e w1 ⟨rfl, rfl⟩
  go_wp2_with fail
  have HSd := Aside0.mk (Kd.C_drew HS.out)
  have HQd := Aside0.mk (Kd.C_drew HQ.out)
  have H4d := Aside0.mk (Kd.C_drew H4.out)
  have HBd := Aside0.mk (below_drew1 (Below.refl W.heap.size W))
  have hj0 : ∀ (a : Option Addr) (n k : Nat), Value.slice (if k = 0 then a else a.map (·.add (0 * 1))) (n - 0) (k - 0) = .slice a n k := by
    intro a n k
    cases a <;> simp [Addr.add]
  have HJ0 := Aside0.mk hj0
  clear hj0
  go_region_law (first
    | (go_simp; go_at_call 117; refine (sum_calls (c := c') HSd.out (by rw [be4_len]; omega)).mono ?_; rintro e w' ⟨rfl, rfl⟩)
    | (go_simp; go_at_call 116; refine (ext_calls (extB 0 (be4 (q.length : Int))) HQd.out (by omega)).mono ?_; rw [HSS.out]; rintro e w' ⟨rfl, rfl⟩)
    | (go_simp; go_at_call 115; have h4r := HL4.out; rw [← h4r]; refine (fget_calls S (c := c' - 4) H4d.out (by rw [HL4.out]; omega) HR2.out hSr (by have := HRL.out; rw [HL4.out]; omega)).mono ?_; rintro e w' ⟨rfl, rfl⟩; clear h4r)
    | fail)
  all_goals
    go_wp2_with (first
      | ((with_reducible refine gate_dst (N := 53) rfl ?_); refine Kd.R_make k8 (w0 := W) W.heap.size 5 (by rfl) (N := 53) (by rfl) 22 (.tmp 52) (.tmp 52) (by rfl) (q.length : Int) (by rfl) (by rfl) Try.underlying22 (.int .u8 0) 1 info5 (by rfl) (by decide) (by decide) (0 : Int) (ok := fun _ => True) (okp := fun _ => False) ?hzero (fun _ h => h.elim) trivial (by omega) (by omega) HBd.out (Nat.le_refl _) ?_; (case hzero => exact rfl); intro v1 w1 hR hb1 hg_ hnew_; clear hg_ hnew_; obtain ⟨X0, hX0⟩ : ∃ X, List.replicate (q.length : Int).toNat (0 : Int) = X := ⟨_, rfl⟩; have HX0 := Aside0.mk (show X0.length = q.length by rw [← hX0, List.length_replicate, Int.toNat_natCast]); rw [hX0] at hR; clear hX0; obtain ⟨A1, k1, rfl⟩ := Kd.R_slice hR; have HO1 := Aside0.mk hR; have HB1 := Aside0.mk hb1; clear hR hb1)
      | ((with_reducible refine gate_dst (N := 56) rfl ?_); refine copy8 (by rfl) (.tmp 54) (.tmp 55) (by rfl) (A := A1) (A' := E) (c := k1) (j := 0) (sc := c' - 8) (xs := X0) (ys := q) (base := W.heap.size) (ok := fun _ => True) (by rw [HJ0.out]; rfl) (by rfl) HO1.out (Kd.C_below HQ.out HB1.out) (Nat.zero_le _) HB1.out ?_; intro w3 hR3 hB3; have HR3 := Aside0.mk hR3; have HB3 := Aside0.mk hB3; clear hR3 hB3)
      | fail)
  all_goals
    go_ret3
    refine ⟨_, rfl, ?_, HB3.out⟩
    have hr := HR3.out
    have h0 := HX0.out
    rw [show Nat.min q.length (X0.length - 0) = q.length by rw [h0]; exact Nat.min_eq_left (by omega), List.take_zero, List.nil_append, List.take_length, List.drop_eq_nil_of_le (by omega), List.append_nil] at hr
    exact hr
set_option maxHeartbeats 4000000 in
set_option maxRecDepth 100000 in
/-- At less than a whole frame. -/
theorem next_torn {W : World} {A : Option Addr} {c : Nat} {l : List Int} {at_ : Nat} (hA : k8.C W A l.length l) (hc : l.length ≤ c) (hat : at_ ≤ l.length) (hb : l.length ≤ 1000000000)
    (ht : l.length - at_ < 8 ∨ ∃ (n : Int) (rest : List Int), l.drop at_ = be4 n ++ rest ∧ 0 ≤ n ∧ n ≤ 65536 ∧ (l.length : Int) - at_ < 8 + n) :
    Calls Try.prog 99 #[.slice A l.length c, .int .i64 at_] W fun e w' => e = .returned (.tuple #[.slice none 0 0, .int .i64 0, .int .i64 3]) ∧ W = w' := by
  obtain ⟨i0, hi0, hz⟩ := Option.map_eq_some_iff.1 info5
  simp only [Prod.mk.injEq] at hz
  have hiz : i0.size = 1 := hz.2.1
  have HI := Aside0.mk hi0
  have HZ := Aside0.mk hiz
  clear hz hi0 hiz
  obtain ⟨r, hrr⟩ : ∃ r, l.drop at_ = r := ⟨_, rfl⟩
  rw [hrr] at ht
  have hrl : r.length = l.length - at_ := by rw [← hrr, List.length_drop]
  have hcr := Kd.C_drop hA hat hc
  rw [hrr] at hcr
  obtain ⟨c', hc'⟩ : ∃ c', c - at_ = c' := ⟨_, rfl⟩
  have hcut1 := cut_from 22 5 .i64 Try.underlying22 HI.out 1 HZ.out A l.length c (at_ : Int) (by omega) (by omega)
  rw [Int.toNat_natCast, ← hrl, hc'] at hcut1
  obtain ⟨D, hD⟩ : ∃ D, (if c = at_ then A else A.map (·.add (at_ * 1))) = D := ⟨_, rfl⟩
  rw [hD] at hcut1
  have hcr' : k8.C W D r.length r := by rw [← hD]; exact hcr
  have hrc : r.length ≤ c' := by omega
  have HC := Aside0.mk hcr'
  have c1 : decide ((at_ : Int) < 0) = false := decide_eq_false (by omega)
  have c2 : decide ((l.length : Int) < (at_ : Int)) = false := decide_eq_false (by omega)
  have HRL := Aside0.mk hrl
  by_cases h8 : r.length < 8
  · have c3 : decide ((r.length : Int) < 8) = true := decide_eq_true (by omega)
    clear hA hrr hrl hcr hc' hD hcr' ht
    go_enter Try.func99, Try.ntmps99
    go_wp2_with fail
    go_ret3
    exact ⟨rfl, rfl⟩
  · obtain ⟨n, rest, hr, n0, n1, hn⟩ := ht.resolve_left (by omega)
    have c3 : decide ((r.length : Int) < 8) = false := decide_eq_false (by omega)
    have c4 : decide (65536 < n) = false := decide_eq_false (by omega)
    have c5 : decide ((r.length : Int) - 8 < n) = true := decide_eq_true (by omega)
    have hw1 : IntKind.i64.wrap ((r.length : Int) - 8) = (r.length : Int) - 8 := IntWalk.i64_in _ ⟨by omega, by omega⟩
    have hw5 : IntKind.i64.wrap n = n := IntWalk.i64_in _ ⟨by omega, by omega⟩
    have HR := Aside0.mk hr
    clear hA hrr hrl hcr hc' hD hcr' ht hr
    go_enter Try.func99, Try.ntmps99
    go_wp2_with fail
    refine (fget_calls n HC.out hrc HR.out ⟨by omega, by omega⟩ (by have := HRL.out; omega)).mono ?_
    rintro e w1 ⟨rfl, rfl⟩
    go_wp2_with fail
    go_ret3
    exact ⟨rfl, rfl⟩
end Go.Proofs.Ytmmiipnmimjojaa.PS
end
section
namespace Go.Proofs.Ytmmiipnmimjojaa.PS
open Go.RowKit Go.Proofs.YtmmiipnmimjojaaW.PrintWords Go.Proofs.YtmmiipnmimjojaaW.PrintLast Go.Proofs.YtmmiipnmimjojaaW.PrintMore
set_option linter.unusedVariables false
set_option linter.unusedSimpArgs false
/-- Rows of rows: each a row of bytes of its own. -/
def RowsR (w : World) (base : Nat) : List (List Value) → List (List Int) → Prop
  | [], [] => True
  | r :: rs, q :: qs => (∃ v, r = [v] ∧ k8.R 5 w base (fun _ => True) v q) ∧ RowsR w base rs qs
  | _, _ => False
theorem RowsR.imp {w w' : World} {base : Nat} (hi : ∀ v q, k8.R 5 w base (fun _ => True) v q → k8.R 5 w' base (fun _ => True) v q) : ∀ {rs : List (List Value)} {qs : List (List Int)}, RowsR w base rs qs → RowsR w' base rs qs
  | [], [], h => trivial
  | _ :: _, _ :: _, ⟨⟨v, e, hr⟩, h⟩ => ⟨⟨v, e, hi v _ hr⟩, RowsR.imp hi h⟩
  | [], _ :: _, h => h.elim
  | _ :: _, [], h => h.elim
theorem RowsR.snoc {w : World} {base : Nat} {v : Value} {q : List Int} (hr : k8.R 5 w base (fun _ => True) v q) : ∀ {rs : List (List Value)} {qs : List (List Int)}, RowsR w base rs qs → RowsR w base (rs ++ [[v]]) (qs ++ [q])
  | [], [], h => ⟨⟨v, rfl, hr⟩, trivial⟩
  | _ :: _, _ :: _, ⟨h0, h⟩ => ⟨h0, RowsR.snoc hr h⟩
  | [], _ :: _, h => h.elim
  | _ :: _, [], h => h.elim
theorem RowsR.len {w : World} {base : Nat} : ∀ {rs : List (List Value)} {qs : List (List Int)}, RowsR w base rs qs → rs.length = qs.length
  | [], [], h => rfl
  | _ :: _, _ :: _, ⟨_, h⟩ => by simp [RowsR.len h]
  | [], _ :: _, h => h.elim
  | _ :: _, [], h => h.elim
/-- What is less than a whole frame. -/
def Torn (t : List Int) : Prop := t.length < 8 ∨ ∃ (n : Int) (rest : List Int), t = be4 n ++ rest ∧ 0 ≤ n ∧ n ≤ 65536 ∧ (t.length : Int) < 8 + n
/-- Frames one behind another. -/
def framesB (qs : List (List Int)) : List Int := (qs.map frameB).flatten
theorem framesB_cons (q : List Int) (qs : List (List Int)) : framesB (q :: qs) = frameB q ++ framesB qs := rfl
theorem framesB_len : ∀ qs : List (List Int), 8 * qs.length ≤ (framesB qs).length
  | [] => Nat.zero_le _
  | q :: qs => by
    have := framesB_len qs
    rw [framesB_cons, List.length_append, frameB_len, List.length_cons]
    omega
/-- A row of slices' block is none of bytes. -/
theorem row_apart {w w1 : World} {base b1 : Nat} {v v4 : Value} {q : List Int} {rows : List (List Value)} (h4 : (Kd.raw 1).R 22 w b1 (fun _ => True) v4 rows) (hg : w.grownBy w1 v4.ownBlock) (hr : k8.R 5 w base (fun _ => True) v q) : k8.R 5 w1 base (fun _ => True) v q := by
  have hb := Kd.R_bound hr
  refine Kd.R_mono (Kd.R_grown hb hg ?_) (fun _ _ => trivial)
  rintro k ⟨_, _, _, e, he, cs, hc⟩ hk
  obtain ⟨_, _, _, e2, he2, cs2, hc2⟩ := (Kd.R_bound h4).1 k hk.symm
  rw [hc] at hc2
  have e5 : e = 5 := by
    rcases List.mem_cons.1 he with h | h
    · exact h
    · exact absurd (show e ∈ ([] : List TypeId) from h) (List.not_mem_nil)
  have e22 : e2 = 22 := by
    rcases List.mem_cons.1 he2 with h | h
    · exact h
    · exact absurd (show e2 ∈ ([] : List TypeId) from h) (List.not_mem_nil)
  rw [e5, e22] at hc2
  simp at hc2
theorem info22 : (Try.prog.info? 22).map (fun i => (i.zero, i.size, i.bytes)) = some (some (.slice none 0 0), 1, 24) := by kernel_rfl
set_option maxHeartbeats 4000000 in
set_option maxRecDepth 100000 in
theorem all_calls {W : World} {A : Option Addr} {c : Nat} {l tail : List Int} {qs : List (List Int)} (hA : k8.C W A l.length l) (hc : l.length ≤ c) (hb : l.length ≤ 1000000000) (hl : l = framesB qs ++ tail) (hq : ∀ q ∈ qs, q.length ≤ 65536) (ht : Torn tail) :
    Calls Try.prog 68 #[.slice A l.length c] W fun e w' => ∃ v1 rows, e = .returned (.tuple #[v1, .int .i64 ((l.length : Int) - tail.length)]) ∧ (Kd.raw 1).R 22 w' W.heap.size (fun _ => True) v1 rows ∧ RowsR w' W.heap.size rows qs ∧ Below W.heap.size W w' := by
  have HC := Aside0.mk hA
  have HL := Aside0.mk hl
  have HQ := Aside0.mk hq
  have HT := Aside0.mk ht
  clear hA hl hq ht
  go_enter Try.func68, Try.ntmps68
  go_wp2_with fail
  go_loopg [4, 5] qs.length (fun kq v4 v5 w' => ∃ (pre post : List (List Int)) (n : Nat) (rows : List (List Value)), v5 = .int .i64 n ∧ Aside0 (qs = pre ++ post) ∧ post.length = kq ∧ n ≤ l.length ∧ Aside0 (l.drop n = framesB post ++ tail) ∧ Aside0 ((Kd.raw 1).R 22 w' W.heap.size (fun _ => True) v4 rows) ∧ Aside0 (RowsR w' W.heap.size rows pre) ∧ Aside0 (Below W.heap.size W w'))
  case atStart => exact ⟨[], qs, 0, [], rfl, ⟨rfl⟩, rfl, Nat.zero_le _, ⟨HL.out⟩, ⟨Kd.R_nil _ _ _ _ _⟩, ⟨trivial⟩, ⟨Below.refl _ _⟩⟩
  case round =>
    obtain ⟨pre, post, n, rows, rfl, HP, hk, hn, HD, HR, HRR, HB⟩ := hrel
    cases post with
    | nil =>
      have hd : l.drop n = tail := HD.out
      have hln : l.length - n = tail.length := by rw [← hd, List.length_drop]
      have htt : l.length - n < 8 ∨ ∃ (m : Int) (rest : List Int), l.drop n = be4 m ++ rest ∧ 0 ≤ m ∧ m ≤ 65536 ∧ (l.length : Int) - n < 8 + m := by
        rcases HT.out with h | ⟨m, rest, h1, h2, h3, h4⟩
        · exact .inl (by omega)
        · exact .inr ⟨m, rest, by rw [hd, h1], h2, h3, by omega⟩
      have HTT := Aside0.mk htt
      have HN := Aside0.mk hln
      clear hd hln htt
      go_wp2_with fail
      refine (next_torn (Kd.C_below HC.out HB.out) hc hn hb HTT.out).mono ?_
      rintro e w2 ⟨rfl, rfl⟩
      go_wp2_with fail
      go_ret2
      have hp := HP.out
      rw [List.append_nil] at hp
      refine ⟨_, rows, ?_, HR.out, by rw [hp]; exact HRR.out, HB.out⟩
      have := HN.out
      rw [show (n : Int) = (l.length : Int) - tail.length by omega]
      rfl
    | cons q post =>
      have hd : l.drop n = frameB q ++ (framesB post ++ tail) := by rw [HD.out, framesB_cons, List.append_assoc]
      have hqq : q.length ≤ 65536 := HQ.out q (by rw [HP.out]; simp)
      have hln : l.length - n = 8 + q.length + (framesB post ++ tail).length := by rw [← List.length_drop, hd, List.length_append, frameB_len]
      have hd2 : l.drop (n + 8 + q.length) = framesB post ++ tail := by
        rw [show n + 8 + q.length = n + (frameB q).length by rw [frameB_len]; omega, ← List.drop_drop, hd, List.drop_left]
      have HD1 := Aside0.mk hd
      have HD2 := Aside0.mk hd2
      have hn2 : n + 8 + q.length ≤ l.length := by omega
      clear hd hd2 hln
      go_wp2_with fail
      refine (next_calls (Kd.C_below HC.out HB.out) hc hn HD1.out hqq hb).mono ?_
      rintro e w2 ⟨v1, rfl, hR1, hB1⟩
      have HR1 := Aside0.mk (Kd.R_lower hR1 HB.out.size)
      have HB1 := Aside0.mk (below_step HB.out hB1)
      have HRw := Aside0.mk (Kd.R_below HR.out hB1)
      have HRR1 := Aside0.mk (HRR.out.imp (fun v q h => Kd.R_below h hB1))
      clear hR1 hB1
      have hrl : rows.length ≤ 1000000000 := by
        have h1 := HRR.out.len
        have h2 := framesB_len qs
        have h3 : l.length = (framesB qs).length + tail.length := by rw [HL.out, List.length_append]
        have h4 : qs.length = pre.length + (post.length + 1) := by rw [HP.out, List.length_append, List.length_cons]
        omega
      have HRLn := Aside0.mk hrl
      clear hrl
      obtain ⟨A1, k1, rfl⟩ := Kd.R_slice HR1.out
      obtain ⟨A4, k4, rfl⟩ := Kd.R_slice HRw.out
      have HONE : Aside0 (∀ u ∈ [Value.slice A1 q.length k1], u.oneCell' = true) := ⟨by
        intro u hu
        rw [List.mem_singleton.1 hu]
        rfl⟩
      go_wp2_with ((with_reducible refine gate_builtin (b := .append) (xs := #[.tmp 20, .tmp 22]) rfl ?_); at_builtin; refine Kd.R_append (Kd.raw 1) (w0 := W) W.heap.size rfl (.tmp 20) (.tmp 22) 129 22 (.slice none 0 0) 24 rfl Try.underlying129 info22 rfl (by decide) (by omega) (.slice A4 rows.length k4) rows [.slice A1 q.length k1] [.slice A1 q.length k1] (fun _ => True) (fun _ => False) rfl rfl ?aP (fun _ hk => hk.elim) (fun _ _ => trivial) HRw.out HB1.out HB1.out.size ?aL ?_; (case aP => exact ⟨rfl, rfl, HONE.out⟩); (case aL => have := HRLn.out; omega); intro v5 w5 ho hb5 hg hat; have HO5 := Aside0.mk ho; have HB5 := Aside0.mk hb5; have HG5 := Aside0.mk hg; clear ho hb5 hg hat)
      go_roundg (gk - 1)
      case measure => simp only [List.length_cons] at hk; omega
      case rel =>
        refine ⟨pre ++ [q], post, n + 8 + q.length, rows ++ [[.slice A1 q.length k1]], by push_cast; rfl, ⟨by rw [HP.out, List.append_assoc]; rfl⟩, by simp only [List.length_cons] at hk; omega, hn2, HD2, HO5, ⟨?_⟩, HB5⟩
        exact RowsR.snoc (row_apart HRw.out HG5.out HR1.out) (HRR1.out.imp (fun v q h => row_apart HRw.out HG5.out h))
end Go.Proofs.Ytmmiipnmimjojaa.PS
end
section
namespace Go.Proofs.Ytmmiipnmimjojaa.PS
open Go.RowKit Go.Proofs.YtmmiipnmimjojaaW.PrintWords Go.Proofs.YtmmiipnmimjojaaW.PrintLast Go.Proofs.YtmmiipnmimjojaaW.PrintMore
set_option linter.unusedVariables false
set_option linter.unusedSimpArgs false
set_option maxHeartbeats 2000000 in
set_option maxRecDepth 100000 in
theorem record_calls {W : World} {A : Option Addr} {c : Nat} {b : List Int} (k : Int) (hA : k8.C W A b.length b) (hc : b.length ≤ c) (hl : b.length ≤ 65535) :
    Calls Try.prog 71 #[.int .u8 k, .slice A b.length c] W fun e w' => ∃ v1, e = .returned v1 ∧ k8.R 5 w' W.heap.size (fun _ => True) v1 (frameB (k :: b)) ∧ Below W.heap.size W w' := by
  have HC := Aside0.mk hA
  clear hA
  go_enter Try.func71, Try.ntmps71
  go_wp2_with (first
    | ((with_reducible refine gate_dst (N := 9) rfl ?_); refine Kd.R_lit k8 (w0 := W) W.heap.size 5 ?hg (N := 9) ?hd (xs := [k]) (inner := [.int .u8 k]) (ok := fun _ => True) (okp := fun _ => True) ?hr ?hp (fun _ hk => hk) trivial (Below.refl _ _) (Nat.le_refl _) (by simp) ?_; (case hd => rfl); (case hg => rfl); (case hr => first | (go_simp; done) | (go_simp; rfl)); (case hp => exact Reps.snoc (Reps.none _ _) rfl rfl); intro v0 w0 ho hb hg_ hnew_; obtain ⟨A0, k0, rfl⟩ := Kd.R_slice ho; have HO := Aside0.mk ho; have HB := Aside0.mk hb; clear ho hb hg_ hnew_)
    | ((with_reducible refine gate_builtin (b := .append) (xs := #[.tmp 9, .tmp 10]) rfl ?_); at_builtin; refine Kd.R_append_rows k8 (w0 := W) W.heap.size (by rfl) (.tmp 9) (.tmp 10) 22 5 (.int .u8 0) 1 (by rfl) Try.underlying22 info5 (by rfl) (by decide) (by decide) _ [k] b A b.length c (fun _ => True) (fun _ => False) (by rfl) (by rfl) HO.out (Kd.C_below HC.out HB.out) (fun _ _ h => h) (fun _ h => h.elim) (fun _ _ => trivial) HB.out HB.out.size (by simp; omega) ?_; intro v1 w1 hR hb1 hg hat; obtain ⟨X, hX⟩ : ∃ X, [k] ++ b = X := ⟨_, rfl⟩; rw [hX] at hR; have HX := Aside0.mk hX; clear hX; obtain ⟨A1, k1, rfl⟩ := Kd.R_slice hR; have HO1 := Aside0.mk hR; have HB1 := Aside0.mk hb1; clear hR hb1 hg hat)
    | fail)
  have hXl : X.length ≤ 65536 := by have h := HX.out; rw [← h]; simp only [List.length_append, List.length_cons, List.length_nil]; omega
  have hxc := Kd.R_reads' HO1.out
  refine (frame_calls hxc.2.2 hxc.2.1 hXl).mono ?_
  rintro e w2 ⟨v2, rfl, hR2, hB2⟩
  have HR2 := Aside0.mk hR2
  have HB2 := Aside0.mk hB2
  clear hR2 hB2 hxc hXl
  go_wp2_with fail
  go_ret
  refine ⟨_, rfl, ?_, below_step HB1.out HB2.out⟩
  have := Kd.R_lower HR2.out HB1.out.size
  rw [← HX.out] at this
  exact this
end Go.Proofs.Ytmmiipnmimjojaa.PS
end
