/- The texts of this claim's seat, joined: part 17. -/
import Derived.Test.YtmmiipnmimjojaaJ16
section
namespace Go.Proofs.Ytmmiipnmimjojaa.PS
open Go.RowKit Go.Proofs.YtmmiipnmimjojaaW.PrintWords Go.Proofs.YtmmiipnmimjojaaW.PrintLast Go.Proofs.YtmmiipnmimjojaaW.PrintMore
open Go.Maps Go.Proofs.Ytmmiipnmimjojaa.PD
set_option linter.unusedVariables false
set_option linter.unusedSimpArgs false
/-- What a deed at W leaves at w'. -/
def Nk (W0 W : World) (S : Nat → Prop) (w' : World) (g N : Nat) (D : Dsk) : Prop := ∃ S', Dk W0 w' S' g N D ∧ Kp W w' (WR W S) ∧ ∀ k, k < W.heap.size → S' k → S k
/-- A block that no call of both writes. -/
structure Bk (W : World) (S : Nat → Prop) (r b : Nat) (o : Obj) : Prop where
  at_ : W.heap[b]? = some o
  ns : ¬ WR W S b
  nr : b ≠ r
section
variable {W0 W W1 w' : World} {S R S1 R1 : Nat → Prop} {g r N M : Nat} {D D' : Dsk} {room : Int} {l l' : List S144}
theorem Dk.nextk {M : Nat} {D' : Dsk} (h : Dk W0 W S g N D) (k : Kp W w' (WR W S)) (hd : DskAt w' (Nw W w' S) g D') (hi : DInv M D') : Nk W0 W S w' g M D' := by
  have s0 := h.1.size
  have s1 := k.size
  refine ⟨Nw W w' S, ⟨h.1.trans (k.below (B := W0.heap.size) (fun i hi _ => (h.2.1 i hi.1).1) s0), fun i hx => ?_, hd, hi⟩, k, fun i hi hx => ?_⟩
  · rcases hx with hx | hx
    · have := h.2.1 i hx; omega
    · omega
  · rcases hx with hx | hx
    · exact hx
    · omega
theorem WR.of {k : Nat} (he : W1.heap[k]? = W.heap[k]?) (hn : ¬ WR W S k) (hs : S1 k → S k) : ¬ WR W1 S1 k := fun h => hn ⟨hs h.1, fun hu => h.2 (hu.of_same he)⟩
theorem Bk.of_new {o : Obj} {b : Nat} (h : Pr W0 W S R g r N D room l) (hb : W.heap.size ≤ b) (hs : W1.heap[b]? = some o) : Bk W1 S r b o :=
  ⟨hs, fun h' => by have := (h.dk.2.1 b h'.1).2; omega, fun e => by have := h.rf.lt r h.rf.own; omega⟩
theorem Bk.below {b : Nat} {o : Obj} (h : Bk W S r b o) (hb : Below W.heap.size W W1) : Bk W1 S r b o := ⟨(hb.block b (blk_lt h.at_)).trans h.at_, WR.of (hb.block b (blk_lt h.at_)) h.ns id, h.nr⟩
theorem Bk.kp {P : Nat → Prop} {b : Nat} {o : Obj} (h : Bk W S r b o) (k : Kp W W1 P) (hP : ¬ P b) : Bk W1 S r b o := ⟨(k.block b (blk_lt h.at_) hP).trans h.at_, WR.of (k.block b (blk_lt h.at_) hP) h.ns id, h.nr⟩
theorem Pr.dstepk (h : Pr W0 W S R g r N D room l) (nx : Nk W0 W S w' g M D') : ∃ S', Pr W0 w' S' R g r M D' room l ∧ (∀ b o, Bk W S r b o → Bk w' S' r b o) ∧ ∀ k, k < W.heap.size → S' k → S k := by
  obtain ⟨S', hd, hk, hs⟩ := nx
  refine ⟨S', ⟨hd, h.rf.kp hk (fun k hR hw => h.dis k hR hw.1), h.new, fun k hk' hS' => h.dis k hk' (hs k (h.rf.lt k hk') hS')⟩, fun b o hb => ?_, hs⟩
  have e := hk.block b (blk_lt hb.at_) hb.ns
  exact ⟨e.trans hb.at_, WR.of e hb.ns (fun h1 => hs b (blk_lt hb.at_) h1), hb.nr⟩
theorem Pr.rstepk (h : Pr W0 W S R g r N D room l) (rx : Rx W w' R r room l') : ∃ R', Pr W0 w' S R' g r N D room l' ∧ ∀ b o, Bk W S r b o → Bk w' S r b o := by
  obtain ⟨R', hp, _⟩ := h.rstep rx
  obtain ⟨_, _, hk, _⟩ := rx
  refine ⟨R', hp, fun b o hb => ?_⟩
  have e := hk.block b (blk_lt hb.at_) hb.nr
  exact ⟨e.trans hb.at_, WR.of e hb.ns id, hb.nr⟩
end
def AfDk (W0 W : World) (S R : Nat → Prop) (g r M : Nat) (D' : Dsk) (room : Int) (l : List S144) (w' : World) : Prop := ∃ S', Pr W0 w' S' R g r M D' room l ∧ (∀ b o, Bk W S r b o → Bk w' S' r b o) ∧ ∀ k, k < W.heap.size → S' k → S k
def AfRk (W0 W : World) (S R : Nat → Prop) (g r N : Nat) (D : Dsk) (room : Int) (l' : List S144) (w' : World) : Prop := ∃ R', Pr W0 w' S R' g r N D room l' ∧ ∀ b o, Bk W S r b o → Bk w' S r b o
section
variable {W0 W W1 w' : World} {S R : Nat → Prop} {g r N N0 : Nat} {D D0 : Dsk} {room : Int} {l : List S144}
theorem dkk_write {s : ByteArray} {at_ : Int} {A : Option Addr} {c : Nat} {l : List Int} (h : Dk W0 W S g N D) (hN : N ≤ 1000000) (hs : s.size ≤ maxLen) (hr : k8.C W A l.length l) (hc : l.length ≤ c) (hl : l.length ≤ 140737488355328)
    (hA : ∀ ad, A = some ad → 0 < l.length → ¬ S ad.block) :
    Calls Try.prog 20 #[.pointer (some ⟨g, 0, none⟩), .string s, .int .i64 at_, .slice A l.length c] W fun e w' => e = .returned (.int .i64 (dWrite D s at_ l).1) ∧ Nk W0 W S w' g (N + 1) (dWrite D s at_ l).2 := by
  refine (write_calls h.2.2.1 hs (h.2.2.2.ok hN) (by have := h.2.2.2.used; omega) hr hc hl (h.notWR hA)).mono ?_
  rintro e w' ⟨rfl, hk, hd⟩
  exact ⟨rfl, h.nextk hk hd (dWrite_inv h.2.2.2)⟩
theorem dkk_cut {s : ByteArray} {z : Int} (h : Dk W0 W S g N D) (hN : N ≤ 1000000) (hs : s.size ≤ maxLen) :
    Calls Try.prog 35 #[.pointer (some ⟨g, 0, none⟩), .string s, .int .i64 z] W fun e w' => e = .returned (.int .i64 (dCut D s z).1) ∧ Nk W0 W S w' g (N + 1) (dCut D s z).2 := by
  refine (cut_calls h.2.2.1 hs (h.2.2.2.ok hN)).mono ?_
  rintro e w' ⟨rfl, hk, hd⟩
  exact ⟨rfl, h.nextk hk hd (dCut_inv h.2.2.2)⟩
theorem dkk_sync {s : ByteArray} (h : Dk W0 W S g N D) (hN : N ≤ 1000000) (hs : s.size ≤ maxLen) :
    Calls Try.prog 21 #[.pointer (some ⟨g, 0, none⟩), .string s] W fun e w' => e = .returned (.int .i64 (dSync D s).1) ∧ Nk W0 W S w' g N (dSync D s).2 := by
  refine (sync_calls h.2.2.1 hs (h.2.2.2.ok hN)).mono ?_
  rintro e w' ⟨rfl, hk, hd⟩
  exact ⟨rfl, h.nextk hk hd (dSync_inv h.2.2.2)⟩
theorem dkk_remove {s : ByteArray} (h : Dk W0 W S g N D) (hs : s.size ≤ maxLen) :
    Calls Try.prog 34 #[.pointer (some ⟨g, 0, none⟩), .string s] W fun e w' => e = .returned (.int .i64 (dRemove D s).1) ∧ Nk W0 W S w' g N (dRemove D s).2 := by
  refine (remove_calls h.2.2.1 hs).mono ?_
  rintro e w' ⟨rfl, hk, hd⟩
  exact ⟨rfl, h.nextk hk hd (dRemove_inv h.2.2.2)⟩
theorem dkk_rename {s t : ByteArray} (h : Dk W0 W S g N D) (hs : s.size ≤ maxLen) (ht : t.size ≤ maxLen) :
    Calls Try.prog 31 #[.pointer (some ⟨g, 0, none⟩), .string s, .string t] W fun e w' => e = .returned (.int .i64 (dRename D s t).1) ∧ Nk W0 W S w' g N (dRename D s t).2 := by
  refine (rename_calls h.2.2.1 hs ht (by have := h.2.2.2.few; omega)).mono ?_
  rintro e w' ⟨rfl, hk, hd⟩
  exact ⟨rfl, h.nextk hk hd (dRename_inv h.2.2.2)⟩
theorem dkk_crash {A : Option Addr} {c : Nat} {keep : List Int} (h : Dk W0 W S g N D) (hN : N ≤ 1000000) (hk : (Kd.int .i64).C W A keep.length keep) (hA : ∀ ad, A = some ad → 0 < keep.length → ¬ S ad.block) (hkb : ∀ z ∈ keep, z ≤ 9223372036854775807) :
    Calls Try.prog 22 #[.pointer (some ⟨g, 0, none⟩), .slice A keep.length c] W fun e w' => e = .returned (.tuple #[]) ∧ Nk W0 W S w' g N (dCrash D keep) := by
  refine (crash_calls h.2.2.1 (h.2.2.2.ok hN) h.2.2.2.ck hk (h.notWR hA) hkb).mono ?_
  rintro e w' ⟨rfl, hk, hd⟩
  exact ⟨rfl, h.nextk hk hd (dCrash_inv h.2.2.2)⟩
theorem pdk_cut {s : ByteArray} {z : Int} (h : Pr W0 W S R g r N D room l) (hN : N ≤ 1000000) (hs : s.size ≤ maxLen) :
    Calls Try.prog 35 #[.pointer (some ⟨g, 0, none⟩), .string s, .int .i64 z] W fun e w' => e = .returned (.int .i64 (dCut D s z).1) ∧ AfDk W0 W S R g r (N + 1) (dCut D s z).2 room l w' :=
  (dkk_cut h.dk hN hs).mono fun e w' hw => ⟨hw.1, h.dstepk hw.2⟩
theorem prk_cut {s : ByteArray} {z : Int} (h : Pr W0 W S R g r N D D0.room (refL D0.files)) (hi : DInv N0 D0) (hN : N0 ≤ 1000000) :
    Calls Try.prog 79 #[.pointer (some ⟨r, 0, none⟩), .string s, .int .i64 z] W fun e w' => e = .returned (.int .i64 (dCut D0 s z).1) ∧ AfRk W0 W S R g r N D D0.room (refL (dCut D0 s z).2.files) w' :=
  (rcut_calls h.rf hi hN).mono fun e w' hw => ⟨hw.1, h.rstepk hw.2⟩
theorem pdk_sync {s : ByteArray} (h : Pr W0 W S R g r N D room l) (hN : N ≤ 1000000) (hs : s.size ≤ maxLen) :
    Calls Try.prog 21 #[.pointer (some ⟨g, 0, none⟩), .string s] W fun e w' => e = .returned (.int .i64 (dSync D s).1) ∧ AfDk W0 W S R g r N (dSync D s).2 room l w' :=
  (dkk_sync h.dk hN hs).mono fun e w' hw => ⟨hw.1, h.dstepk hw.2⟩
theorem prk_sync {s : ByteArray} (h : Pr W0 W S R g r N D D0.room (refL D0.files)) (hi : DInv N0 D0) (hN : N0 ≤ 1000000) :
    Calls Try.prog 80 #[.pointer (some ⟨r, 0, none⟩), .string s] W fun e w' => e = .returned (.int .i64 (dSync D0 s).1) ∧ AfRk W0 W S R g r N D D0.room (refL (dSync D0 s).2.files) w' :=
  (rsync_calls h.rf hi hN).mono fun e w' hw => ⟨hw.1, h.rstepk hw.2⟩
theorem pdk_remove {s : ByteArray} (h : Pr W0 W S R g r N D room l) (hs : s.size ≤ maxLen) :
    Calls Try.prog 34 #[.pointer (some ⟨g, 0, none⟩), .string s] W fun e w' => e = .returned (.int .i64 (dRemove D s).1) ∧ AfDk W0 W S R g r N (dRemove D s).2 room l w' :=
  (dkk_remove h.dk hs).mono fun e w' hw => ⟨hw.1, h.dstepk hw.2⟩
theorem prk_remove {s : ByteArray} (h : Pr W0 W S R g r N D D0.room (refL D0.files)) (hi : DInv N0 D0) :
    Calls Try.prog 82 #[.pointer (some ⟨r, 0, none⟩), .string s] W fun e w' => e = .returned (.int .i64 (dRemove D0 s).1) ∧ AfRk W0 W S R g r N D D0.room (refL (dRemove D0 s).2.files) w' :=
  (rremove_calls h.rf hi).mono fun e w' hw => ⟨hw.1, h.rstepk hw.2⟩
theorem pdk_rename {s t : ByteArray} (h : Pr W0 W S R g r N D room l) (hs : s.size ≤ maxLen) (ht : t.size ≤ maxLen) :
    Calls Try.prog 31 #[.pointer (some ⟨g, 0, none⟩), .string s, .string t] W fun e w' => e = .returned (.int .i64 (dRename D s t).1) ∧ AfDk W0 W S R g r N (dRename D s t).2 room l w' :=
  (dkk_rename h.dk hs ht).mono fun e w' hw => ⟨hw.1, h.dstepk hw.2⟩
theorem prk_rename {s u : ByteArray} (h : Pr W0 W S R g r N D D0.room (refL D0.files)) (hi : DInv N0 D0) (hN : N0 ≤ 1000000) (hu : u.size ≤ maxLen) :
    Calls Try.prog 81 #[.pointer (some ⟨r, 0, none⟩), .string s, .string u] W fun e w' => e = .returned (.int .i64 (dRename D0 s u).1) ∧ AfRk W0 W S R g r N D D0.room (refL (dRename D0 s u).2.files) w' :=
  (rrename_calls h.rf hi hN hu).mono fun e w' hw => ⟨hw.1, h.rstepk hw.2⟩
theorem pdk_crash {A : Option Addr} {c : Nat} {keep : List Int} (h : Pr W0 W S R g r N D room l) (hN : N ≤ 1000000) (hk : (Kd.int .i64).C W A keep.length keep) (hA : ∀ ad, A = some ad → 0 < keep.length → ¬ S ad.block) (hkb : ∀ z ∈ keep, z ≤ 9223372036854775807) :
    Calls Try.prog 22 #[.pointer (some ⟨g, 0, none⟩), .slice A keep.length c] W fun e w' => e = .returned (.tuple #[]) ∧ AfDk W0 W S R g r N (dCrash D keep) room l w' :=
  (dkk_crash h.dk hN hk hA hkb).mono fun e w' hw => ⟨hw.1, h.dstepk hw.2⟩
theorem prk_crash {A : Option Addr} {c : Nat} {keep : List Int} (h : Pr W0 W S R g r N D D0.room (refL D0.files)) (hi : DInv N0 D0) (hN : N0 ≤ 1000000) (hk : (Kd.int .i64).C W A keep.length keep) (hkb : ∀ z ∈ keep, z ≤ 9223372036854775807) :
    Calls Try.prog 42 #[.pointer (some ⟨r, 0, none⟩), .slice A keep.length c] W fun e w' => e = .returned (.tuple #[]) ∧ AfRk W0 W S R g r N D D0.room (refL (dCrash D0 keep).files) w' :=
  (rcrash_calls h.rf hi hN hk hkb).mono fun e w' hw => ⟨hw.1, h.rstepk hw.2⟩
theorem pdk_write {s : ByteArray} {at_ : Int} {A : Option Addr} {c : Nat} {b : List Int} (h : Pr W0 W S R g r N D room l) (hN : N ≤ 1000000) (hs : s.size ≤ maxLen) (hr : k8.C W A b.length b) (hc : b.length ≤ c) (hl : b.length ≤ 140737488355328)
    (hA : ∀ ad, A = some ad → 0 < b.length → ¬ S ad.block) :
    Calls Try.prog 20 #[.pointer (some ⟨g, 0, none⟩), .string s, .int .i64 at_, .slice A b.length c] W fun e w' => e = .returned (.int .i64 (dWrite D s at_ b).1) ∧ AfDk W0 W S R g r (N + 1) (dWrite D s at_ b).2 room l w' :=
  (dkk_write h.dk hN hs hr hc hl hA).mono fun e w' hw => ⟨hw.1, h.dstepk hw.2⟩
theorem prk_write {s : ByteArray} {at_ : Int} {A : Option Addr} {c : Nat} {b : List Int} (h : Pr W0 W S R g r N D D0.room (refL D0.files)) (hi : DInv N0 D0) (hN : N0 ≤ 1000000) (hs : s.size ≤ maxLen) (hr : k8.C W A b.length b) (hc : b.length ≤ c)
    (ha : -9223372036854775808 ≤ at_ ∧ at_ ≤ 9223372036854775807) (hbl : b.length ≤ 4000) :
    Calls Try.prog 78 #[.pointer (some ⟨r, 0, none⟩), .string s, .int .i64 at_, .slice A b.length c] W fun e w' => e = .returned (.int .i64 (dWrite D0 s at_ b).1) ∧ AfRk W0 W S R g r N D D0.room (refL (dWrite D0 s at_ b).2.files) w' :=
  (rwrite_calls h.rf hi hN hs hr hc (by omega) ha hbl).mono fun e w' hw => ⟨hw.1, h.rstepk hw.2⟩
end
def DoPk (W0 W : World) (S R : Nat → Prop) (g r N : Nat) (D : Dsk) (x : S58) (e : Ending) (w' : World) : Prop :=
  e = .returned (.bool true) ∧ ∃ S' R', Pr W0 w' S' R' g r (N + 1) (dDo D x) D.room (refL (dDo D x).files) ∧ ∀ b o, Bk W S r b o → Bk w' S' r b o
theorem R_framek {d : Kd Int} {w w' : World} {S R S' ok : Nat → Prop} {r e base : Nat} {v : Value} {xs : List Int} (h : d.R e w base ok v xs) (hR : R r) (hok : ∀ k, ok k → ¬ S k ∧ ¬ R k) (hF : ∀ b o, Bk w S r b o → Bk w' S' r b o) : d.R e w' base ok v xs :=
  Kd.R_step h fun k hk hlt => by
    obtain ⟨o, ho⟩ : ∃ o, w.heap[k]? = some o := ⟨_, Array.getElem?_eq_getElem hlt⟩
    exact (hF k o ⟨ho, fun h => (hok k hk).1 h.1, fun e => (hok k hk).2 (by rw [e]; exact hR)⟩).at_.trans ho.symm
set_option maxHeartbeats 8000000 in
set_option maxRecDepth 100000 in
theorem do_callsk {W0 W : World} {S R : Nat → Prop} {g r N : Nat} {D : Dsk} {kd at_ : Int} {nm to_ : ByteArray} {by_ kp : List Int} {A4 A5 : Option Addr} {c4 c5 : Nat} (h : Pr W0 W S R g r N D D.room (refL D.files)) (hN : N ≤ 900000)
    (hnm : nm.size ≤ maxLen) (hto : to_.size ≤ maxLen) (hat : -9223372036854775808 ≤ at_ ∧ at_ ≤ 9223372036854775807) (hby : by_.length ≤ 4000) (hkp : ∀ z ∈ kp, z ≤ 9223372036854775807)
    (hC4 : k8.C W0 A4 by_.length by_) (hl4 : by_.length ≤ c4) (hC5 : (Kd.int .i64).C W0 A5 kp.length kp) :
    Calls Try.prog 37 #[.pointer (some ⟨g, 0, none⟩), .pointer (some ⟨r, 0, none⟩), .agg #[.int .i64 kd, .string nm, .string to_, .int .i64 at_, .slice A4 by_.length c4, .slice A5 kp.length c5]] W (DoPk W0 W S R g r N D ⟨kd, nm, to_, at_, by_, kp⟩) := by
  have HI := Aside0.mk h.dk.2.2.2
  have HC4 := Aside0.mk hC4
  have HC5 := Aside0.mk hC5
  have HKP := Aside0.mk hkp
  have H4 := Aside0.mk (show ∀ (w : World) (S : Nat → Prop) (R : Nat → Prop) (N : Nat) (D : Dsk) (room : Int) (l : List S144), Pr W0 w S R g r N D room l → ∀ ad, A4 = some ad → 0 < by_.length → ¬ S ad.block from fun w S R N D room l hp ad e hn hS => by
    subst e
    have h1 := Kd.C_lt hC4 hn (by show 0 < 1; decide)
    have h2 := (hp.dk.2.1 _ hS).1
    omega)
  have H5 := Aside0.mk (show ∀ (w : World) (S : Nat → Prop) (R : Nat → Prop) (N : Nat) (D : Dsk) (room : Int) (l : List S144), Pr W0 w S R g r N D room l → ∀ ad, A5 = some ad → 0 < kp.length → ¬ S ad.block from fun w S R N D room l hp ad e hn hS => by
    subst e
    have h1 := Kd.C_lt hC5 hn (by show 0 < 1; decide)
    have h2 := (hp.dk.2.1 _ hS).1
    omega)
  obtain ⟨w1, hw1⟩ : ∃ w1, w1 = W.alloc (.cells #[.int .i64 kd, .string nm, .string to_, .int .i64 at_, .slice A4 by_.length c4, .slice A5 kp.length c5] 58) := ⟨_, rfl⟩
  have hb1 : Below W.heap.size W w1 := by rw [hw1]; exact below_alloc (Below.refl _ _) _
  have hbk : w1.heap[W.heap.size]? = some (.cells #[.int .i64 kd, .string nm, .string to_, .int .i64 at_, .slice A4 by_.length c4, .slice A5 kp.length c5] 58 (0, 0)) := by rw [hw1]; exact blk_new W _
  have m0 : w1.cell? ⟨W.heap.size, 0, none⟩ = some (.int .i64 kd) := blk_cell hbk 0
  have m1 : w1.cell? ⟨W.heap.size, 1, none⟩ = some (.string nm) := blk_cell hbk 1
  have m2 : w1.cell? ⟨W.heap.size, 2, none⟩ = some (.string to_) := blk_cell hbk 2
  have m3 : w1.cell? ⟨W.heap.size, 3, none⟩ = some (.int .i64 at_) := blk_cell hbk 3
  have m4 : w1.cell? ⟨W.heap.size, 4, none⟩ = some (.slice A4 by_.length c4) := blk_cell hbk 4
  have m5 : w1.cell? ⟨W.heap.size, 5, none⟩ = some (.slice A5 kp.length c5) := blk_cell hbk 5
  have HP := Aside0.mk (h.below hb1)
  have HBX := Aside0.mk (Bk.of_new h (Nat.le_refl _) hbk)
  have HF := Aside0.mk (show ∀ b o, Bk W S r b o → Bk w1 S r b o from fun b o hb => hb.below hb1)
  clear h hC4 hC5 hkp hbk hb1
  by_cases hk0 : kd = 0
  · have hd : dDo D ⟨kd, nm, to_, at_, by_, kp⟩ = (dWrite D nm at_ by_).2 := by unfold dDo; dsimp only; rw [if_pos hk0]
    have HD := Aside0.mk hd
    have ct0 : (kd == 0) = true := by simp; omega
    clear hd hk0
    go_enter Try.func37, Try.ntmps37
    go_upto_region 1 with (fail)
    rw [← hw1]
    clear hw1
    go_wp2_with (first
      | ((with_reducible refine gate_dst (N := 14) rfl ?_); refine Kd.R_lit k8 _ 5 ?hg (N := 14) ?hd (xs := ([] : List Int)) (inner := []) (ok := fun k => w1.heap.size ≤ k) (okp := fun k => w1.heap.size ≤ k) ?hr ?hp (fun _ hk => hk) (Nat.le_refl _) (Below.refl _ _) (Nat.le_refl _) (by simp) ?_; (case hd => rfl); (case hg => rfl); (case hr => first | (go_simp; done) | (go_simp; rfl)); (case hp => exact (Reps.none _ _)); intro v5 w5 ho5 hb5 hg_ hnew_; have HO5 := Aside0.mk ho5; have HB5 := Aside0.mk hb5; have q54 : w5.cell? ⟨W.heap.size, 4, none⟩ = some (.slice A4 by_.length c4) := blk_cell (HBX.out.below hb5).at_ 4; clear hg_ hnew_ ho5 hb5)
      | ((with_reducible refine gate_dst (N := 17) rfl ?_); refine Kd.R_append_rows k8 (w0 := w1) w1.heap.size (by rfl) (.tmp 14) (.tmp 16) 22 5 (.int .u8 0) 1 (by rfl) Try.underlying22 info5 (by rfl) (by decide) (by decide) _ [] by_ A4 by_.length c4 (fun k => w1.heap.size ≤ k) (fun _ => False) (by rfl) (by rfl) HO5.out (Kd.C_below (Kd.C_below HC4.out HP.out.dk.1) HB5.out) (fun _ _ h => h) (fun _ h => h.elim) (fun k hk => Nat.le_trans HB5.out.size hk) HB5.out HB5.out.size (by rw [List.length_nil]; omega) ?_; intro v6 w6 hR hb6 hg hat; rw [List.nil_append] at hR; obtain ⟨A6, c6, rfl⟩ := Kd.R_slice hR; have HO6 := Aside0.mk hR; have HB6 := Aside0.mk hb6; have n1 : w6.cell? ⟨W.heap.size, 1, none⟩ = some (.string nm) := blk_cell (HBX.out.below hb6).at_ 1; have n3 : w6.cell? ⟨W.heap.size, 3, none⟩ = some (.int .i64 at_) := blk_cell (HBX.out.below hb6).at_ 3; clear hR hb6 hg hat q54)
      | fail)
    have hP6 := HP.out.below HB6.out
    have hX6 := HBX.out.below HB6.out
    have hF6 : ∀ b o, Bk W S r b o → Bk w6 S r b o := fun b o hb => (HF.out b o hb).below HB6.out
    have HSR := Aside0.mk (show ∀ k, w1.heap.size ≤ k → ¬ S k ∧ ¬ R k from fun k hk => ⟨fun h => by have := (HP.out.dk.2.1 k h).2; omega, fun h => by have := HP.out.rf.lt k h; omega⟩)
    have HWW := Aside0.mk (show W.heap.size < w1.heap.size from blk_lt HBX.out.at_)
    have HBX0 := Aside0.mk (show W0.heap.size ≤ w1.heap.size from HP.out.dk.1.size)
    clear HP HBX HF
    have HP := Aside0.mk hP6
    have HBX := Aside0.mk hX6
    have HF := Aside0.mk hF6
    clear hP6 hX6 hF6
    refine (pdk_write HP.out (by omega) hnm (Kd.R_reads' HO6.out).2.2 (Kd.R_reads' HO6.out).2.1 (by omega) (fun ad e hn hS => by
      subst e
      have h0 := (Kd.R_bound HO6.out).1 ad.block (by simp [Value.ownBlock])
      exact (HSR.out _ h0.1).1 hS)).mono ?_
    rintro e w4 ⟨rfl, T4, hp4, hb4, hs4⟩
    have HF4 := Aside0.mk hb4
    have HBX := Aside0.mk (hb4 _ _ HBX.out)
    have n1 : w4.cell? ⟨W.heap.size, 1, none⟩ = some (.string nm) := blk_cell HBX.out.at_ 1
    have n2 : w4.cell? ⟨W.heap.size, 2, none⟩ = some (.string to_) := blk_cell HBX.out.at_ 2
    have n3 : w4.cell? ⟨W.heap.size, 3, none⟩ = some (.int .i64 at_) := blk_cell HBX.out.at_ 3
    have n4 : w4.cell? ⟨W.heap.size, 4, none⟩ = some (.slice A4 by_.length c4) := blk_cell HBX.out.at_ 4
    have n5 : w4.cell? ⟨W.heap.size, 5, none⟩ = some (.slice A5 kp.length c5) := blk_cell HBX.out.at_ 5
    have HO7 := Aside0.mk (R_framek HO6.out HP.out.rf.own HSR.out hb4)
    have HF := Aside0.mk (fun b o hb => hb4 b o (HF.out b o hb))
    have HP := Aside0.mk hp4
    clear hp4 hb4
    have HOWN := Aside0.mk (show ∀ k, (Value.slice A6 by_.length c6).ownBlock = some k → w1.heap.size ≤ k ∧ k < w6.heap.size from fun k hk => by
      have := (Kd.R_bound HO6.out).1 k hk
      exact ⟨this.1, this.2.2.1⟩)
    clear HO6
    have HR6 := Aside0.mk (show ∀ k, w1.heap.size ≤ k → k < w6.heap.size → ¬ T4 k ∧ ¬ R k from fun k hk hlt => ⟨fun h => (HSR.out k hk).1 (hs4 k hlt h), (HSR.out k hk).2⟩)
    clear hs4
    clear n1 n2 n3 n4 n5
    go_wp2_with fail
    go_loopg [9] by_.length (fun kq v9 w' => ∃ (i : Int) (l' : List Int), v9 = .int .i64 i ∧ 0 ≤ i ∧ i + kq = by_.length ∧ Aside0 (l'.length = by_.length) ∧ Aside0 (k8.R 5 w' w1.heap.size (fun k => w1.heap.size ≤ k) (.slice A6 by_.length c6) l') ∧ Aside0 (Kp w4 w' (fun k => (Value.slice A6 by_.length c6).ownBlock = some k)))
    case atStart => exact ⟨0, by_, rfl, by omega, by omega, ⟨rfl⟩, HO7, ⟨Kp.refl _ _⟩⟩
    case round =>
      obtain ⟨i, l', rfl, i0, i1, HLN, HR, HK⟩ := hrel
      by_cases hi : i < (by_.length : Int)
      · have c6' : decide (i < (by_.length : Int)) = true := decide_eq_true hi
        have HR' := HR.out
        obtain ⟨gL, cap, e9, hgb, hgl, cl, hgc⟩ := Kd.R_form HR' (by have := HLN.out; omega)
        injection e9 with ea en ec
        subst ea
        subst ec
        clear en
        obtain ⟨hcell, hfr⟩ := Kd.R_celln 0 HR' i i0 hi
        have p0 := eq_true i0
        have p1 := eq_true hi
        have hni : IntKind.i64.wrap (i + 1) = i + 1 := IntWalk.i64_in _ ⟨by omega, by omega⟩
        have HLE := Aside0.mk hgb
        clear HR' hgc hgb hgl
        go_wp2_with fail
        go_roundg (gk - 1)
        case measure => omega
        case rel => exact ⟨i + 1, l'.set i.toNat _, rfl, by omega, by omega, ⟨by rw [List.length_set]; exact HLN.out⟩, ⟨(Kd.R_putg HR.out i _).1⟩, ⟨HK.out.setCell (p := ⟨gL, i.toNat, none⟩) (.inl rfl) _⟩⟩
      · have c6' : decide (i < (by_.length : Int)) = false := decide_eq_false hi
        have hbx : ¬ (Value.slice A6 by_.length c6).ownBlock = some W.heap.size := fun e => by have := (HOWN.out _ e).1; have := HWW.out; omega
        have hP8 := HP.out.kp HK.out (fun k hk => by have h1 := (HOWN.out k hk).1; have h2 := (HBX0.out); omega) (fun k hS hk => (HR6.out k (HOWN.out k hk).1 (HOWN.out k hk).2).1 hS) (fun k hR hk => (HR6.out k (HOWN.out k hk).1 (HOWN.out k hk).2).2 hR)
        have hX8 := HBX.out.kp HK.out hbx
        have hF8 : ∀ b o, Bk W S r b o → Bk wr T4 r b o := fun b o hb => (HF.out b o hb).kp HK.out (fun e => by have h1 := (HOWN.out _ e).1; have h2 := blk_lt hb.at_; have := HWW.out; omega)
        clear HP HBX HF
        have HP := Aside0.mk hP8
        have HBX := Aside0.mk hX8
        have HF := Aside0.mk hF8
        have n1 : wr.cell? ⟨W.heap.size, 1, none⟩ = some (.string nm) := blk_cell HBX.out.at_ 1
        have n3 : wr.cell? ⟨W.heap.size, 3, none⟩ = some (.int .i64 at_) := blk_cell HBX.out.at_ 3
        have n4 : wr.cell? ⟨W.heap.size, 4, none⟩ = some (.slice A4 by_.length c4) := blk_cell HBX.out.at_ 4
        clear hP8 hX8 hF8 hbx HR HK HO7
        go_wp2_with fail
        refine (prk_write HP.out HI.out (by omega) hnm (Kd.C_below HC4.out HP.out.dk.1) hl4 hat hby).mono ?_
        rintro e w4 ⟨rfl, T4, hp4, hb4⟩
        have HBX := Aside0.mk (hb4 _ _ HBX.out)
        have n1 : w4.cell? ⟨W.heap.size, 1, none⟩ = some (.string nm) := blk_cell HBX.out.at_ 1
        have n2 : w4.cell? ⟨W.heap.size, 2, none⟩ = some (.string to_) := blk_cell HBX.out.at_ 2
        have n3 : w4.cell? ⟨W.heap.size, 3, none⟩ = some (.int .i64 at_) := blk_cell HBX.out.at_ 3
        have n4 : w4.cell? ⟨W.heap.size, 4, none⟩ = some (.slice A4 by_.length c4) := blk_cell HBX.out.at_ 4
        have n5 : w4.cell? ⟨W.heap.size, 5, none⟩ = some (.slice A5 kp.length c5) := blk_cell HBX.out.at_ 5
        have HF := Aside0.mk (fun b o hb => hb4 b o (HF.out b o hb))
        have HP := Aside0.mk hp4
        clear hp4 hb4
        go_wp2_with fail
        go_ret
        exact ⟨rfl, _, _, by rw [HD.out]; exact HP.out, HF.out⟩
  by_cases hk1 : kd = 1
  · have hd : dDo D ⟨kd, nm, to_, at_, by_, kp⟩ = (dCut D nm at_).2 := by unfold dDo; dsimp only; rw [if_neg hk0]; rw [if_pos hk1]
    have HD := Aside0.mk hd
    have ct0 : (kd == 0) = false := by simp; omega
    have ct1 : (kd == 1) = true := by simp; omega
    clear hd hk0 hk1
    go_enter Try.func37, Try.ntmps37
    go_upto_region 1 with (fail)
    rw [← hw1]
    clear hw1
    go_wp2_with fail
    have HP := Aside0.mk (HP.out.below (below_drew1 (Below.refl _ _)))
    have HBX := Aside0.mk (HBX.out.below (below_drew1 (Below.refl _ _)))
    have HF := Aside0.mk (show ∀ b o, Bk W S r b o → Bk w1.drew S r b o from fun b o hb => (HF.out b o hb).below (below_drew1 (Below.refl _ _)))
    go_region_law (first
      | (go_simp; go_at_call 35; refine (pdk_cut HP.out (by omega) hnm).mono ?_; rintro e w4 ⟨rfl, T4, hp4, hb4, -⟩; have HBX := Aside0.mk (hb4 _ _ HBX.out); have n1 : w4.cell? ⟨W.heap.size, 1, none⟩ = some (.string nm) := blk_cell HBX.out.at_ 1; have n2 : w4.cell? ⟨W.heap.size, 2, none⟩ = some (.string to_) := blk_cell HBX.out.at_ 2; have n3 : w4.cell? ⟨W.heap.size, 3, none⟩ = some (.int .i64 at_) := blk_cell HBX.out.at_ 3; have n4 : w4.cell? ⟨W.heap.size, 4, none⟩ = some (.slice A4 by_.length c4) := blk_cell HBX.out.at_ 4; have n5 : w4.cell? ⟨W.heap.size, 5, none⟩ = some (.slice A5 kp.length c5) := blk_cell HBX.out.at_ 5; have HF := Aside0.mk (fun b o hb => hb4 b o (HF.out b o hb)); have HP := Aside0.mk hp4; clear hp4 hb4)
      | (go_simp; go_at_call 79; refine (prk_cut HP.out HI.out (by omega)).mono ?_; rintro e w4 ⟨rfl, T4, hp4, hb4⟩; have HBX := Aside0.mk (hb4 _ _ HBX.out); have n1 : w4.cell? ⟨W.heap.size, 1, none⟩ = some (.string nm) := blk_cell HBX.out.at_ 1; have n2 : w4.cell? ⟨W.heap.size, 2, none⟩ = some (.string to_) := blk_cell HBX.out.at_ 2; have n3 : w4.cell? ⟨W.heap.size, 3, none⟩ = some (.int .i64 at_) := blk_cell HBX.out.at_ 3; have n4 : w4.cell? ⟨W.heap.size, 4, none⟩ = some (.slice A4 by_.length c4) := blk_cell HBX.out.at_ 4; have n5 : w4.cell? ⟨W.heap.size, 5, none⟩ = some (.slice A5 kp.length c5) := blk_cell HBX.out.at_ 5; have HF := Aside0.mk (fun b o hb => hb4 b o (HF.out b o hb)); have HP := Aside0.mk hp4; clear hp4 hb4)
      | fail)
    all_goals
      go_wp2_with fail
      go_ret
      exact ⟨rfl, _, _, by rw [HD.out]; exact HP.out.mono (by omega), HF.out⟩
  by_cases hk2 : kd = 2
  · have hd : dDo D ⟨kd, nm, to_, at_, by_, kp⟩ = (dSync D nm).2 := by unfold dDo; dsimp only; rw [if_neg hk0]; rw [if_neg hk1]; rw [if_pos hk2]
    have HD := Aside0.mk hd
    have ct0 : (kd == 0) = false := by simp; omega
    have ct1 : (kd == 1) = false := by simp; omega
    have ct2 : (kd == 2) = true := by simp; omega
    clear hd hk0 hk1 hk2
    go_enter Try.func37, Try.ntmps37
    go_upto_region 1 with (fail)
    rw [← hw1]
    clear hw1
    go_wp2_with fail
    have HP := Aside0.mk (HP.out.below (below_drew1 (Below.refl _ _)))
    have HBX := Aside0.mk (HBX.out.below (below_drew1 (Below.refl _ _)))
    have HF := Aside0.mk (show ∀ b o, Bk W S r b o → Bk w1.drew S r b o from fun b o hb => (HF.out b o hb).below (below_drew1 (Below.refl _ _)))
    go_region_law (first
      | (go_simp; go_at_call 21; refine (pdk_sync HP.out (by omega) hnm).mono ?_; rintro e w4 ⟨rfl, T4, hp4, hb4, -⟩; have HBX := Aside0.mk (hb4 _ _ HBX.out); have n1 : w4.cell? ⟨W.heap.size, 1, none⟩ = some (.string nm) := blk_cell HBX.out.at_ 1; have n2 : w4.cell? ⟨W.heap.size, 2, none⟩ = some (.string to_) := blk_cell HBX.out.at_ 2; have n3 : w4.cell? ⟨W.heap.size, 3, none⟩ = some (.int .i64 at_) := blk_cell HBX.out.at_ 3; have n4 : w4.cell? ⟨W.heap.size, 4, none⟩ = some (.slice A4 by_.length c4) := blk_cell HBX.out.at_ 4; have n5 : w4.cell? ⟨W.heap.size, 5, none⟩ = some (.slice A5 kp.length c5) := blk_cell HBX.out.at_ 5; have HF := Aside0.mk (fun b o hb => hb4 b o (HF.out b o hb)); have HP := Aside0.mk hp4; clear hp4 hb4)
      | (go_simp; go_at_call 80; refine (prk_sync HP.out HI.out (by omega)).mono ?_; rintro e w4 ⟨rfl, T4, hp4, hb4⟩; have HBX := Aside0.mk (hb4 _ _ HBX.out); have n1 : w4.cell? ⟨W.heap.size, 1, none⟩ = some (.string nm) := blk_cell HBX.out.at_ 1; have n2 : w4.cell? ⟨W.heap.size, 2, none⟩ = some (.string to_) := blk_cell HBX.out.at_ 2; have n3 : w4.cell? ⟨W.heap.size, 3, none⟩ = some (.int .i64 at_) := blk_cell HBX.out.at_ 3; have n4 : w4.cell? ⟨W.heap.size, 4, none⟩ = some (.slice A4 by_.length c4) := blk_cell HBX.out.at_ 4; have n5 : w4.cell? ⟨W.heap.size, 5, none⟩ = some (.slice A5 kp.length c5) := blk_cell HBX.out.at_ 5; have HF := Aside0.mk (fun b o hb => hb4 b o (HF.out b o hb)); have HP := Aside0.mk hp4; clear hp4 hb4)
      | fail)
    all_goals
      go_wp2_with fail
      go_ret
      exact ⟨rfl, _, _, by rw [HD.out]; exact HP.out.mono (by omega), HF.out⟩
  by_cases hk3 : kd = 3
  · have hd : dDo D ⟨kd, nm, to_, at_, by_, kp⟩ = (dRename D nm to_).2 := by unfold dDo; dsimp only; rw [if_neg hk0]; rw [if_neg hk1]; rw [if_neg hk2]; rw [if_pos hk3]
    have HD := Aside0.mk hd
    have ct0 : (kd == 0) = false := by simp; omega
    have ct1 : (kd == 1) = false := by simp; omega
    have ct2 : (kd == 2) = false := by simp; omega
    have ct3 : (kd == 3) = true := by simp; omega
    clear hd hk0 hk1 hk2 hk3
    go_enter Try.func37, Try.ntmps37
    go_upto_region 1 with (fail)
    rw [← hw1]
    clear hw1
    go_wp2_with fail
    have HP := Aside0.mk (HP.out.below (below_drew1 (Below.refl _ _)))
    have HBX := Aside0.mk (HBX.out.below (below_drew1 (Below.refl _ _)))
    have HF := Aside0.mk (show ∀ b o, Bk W S r b o → Bk w1.drew S r b o from fun b o hb => (HF.out b o hb).below (below_drew1 (Below.refl _ _)))
    go_region_law (first
      | (go_simp; go_at_call 31; refine (pdk_rename HP.out hnm hto).mono ?_; rintro e w4 ⟨rfl, T4, hp4, hb4, -⟩; have HBX := Aside0.mk (hb4 _ _ HBX.out); have n1 : w4.cell? ⟨W.heap.size, 1, none⟩ = some (.string nm) := blk_cell HBX.out.at_ 1; have n2 : w4.cell? ⟨W.heap.size, 2, none⟩ = some (.string to_) := blk_cell HBX.out.at_ 2; have n3 : w4.cell? ⟨W.heap.size, 3, none⟩ = some (.int .i64 at_) := blk_cell HBX.out.at_ 3; have n4 : w4.cell? ⟨W.heap.size, 4, none⟩ = some (.slice A4 by_.length c4) := blk_cell HBX.out.at_ 4; have n5 : w4.cell? ⟨W.heap.size, 5, none⟩ = some (.slice A5 kp.length c5) := blk_cell HBX.out.at_ 5; have HF := Aside0.mk (fun b o hb => hb4 b o (HF.out b o hb)); have HP := Aside0.mk hp4; clear hp4 hb4)
      | (go_simp; go_at_call 81; refine (prk_rename HP.out HI.out (by omega) hto).mono ?_; rintro e w4 ⟨rfl, T4, hp4, hb4⟩; have HBX := Aside0.mk (hb4 _ _ HBX.out); have n1 : w4.cell? ⟨W.heap.size, 1, none⟩ = some (.string nm) := blk_cell HBX.out.at_ 1; have n2 : w4.cell? ⟨W.heap.size, 2, none⟩ = some (.string to_) := blk_cell HBX.out.at_ 2; have n3 : w4.cell? ⟨W.heap.size, 3, none⟩ = some (.int .i64 at_) := blk_cell HBX.out.at_ 3; have n4 : w4.cell? ⟨W.heap.size, 4, none⟩ = some (.slice A4 by_.length c4) := blk_cell HBX.out.at_ 4; have n5 : w4.cell? ⟨W.heap.size, 5, none⟩ = some (.slice A5 kp.length c5) := blk_cell HBX.out.at_ 5; have HF := Aside0.mk (fun b o hb => hb4 b o (HF.out b o hb)); have HP := Aside0.mk hp4; clear hp4 hb4)
      | fail)
    all_goals
      go_wp2_with fail
      go_ret
      exact ⟨rfl, _, _, by rw [HD.out]; exact HP.out.mono (by omega), HF.out⟩
  by_cases hk4 : kd = 4
  · have hd : dDo D ⟨kd, nm, to_, at_, by_, kp⟩ = (dRemove D nm).2 := by unfold dDo; dsimp only; rw [if_neg hk0]; rw [if_neg hk1]; rw [if_neg hk2]; rw [if_neg hk3]; rw [if_pos hk4]
    have HD := Aside0.mk hd
    have ct0 : (kd == 0) = false := by simp; omega
    have ct1 : (kd == 1) = false := by simp; omega
    have ct2 : (kd == 2) = false := by simp; omega
    have ct3 : (kd == 3) = false := by simp; omega
    have ct4 : (kd == 4) = true := by simp; omega
    clear hd hk0 hk1 hk2 hk3 hk4
    go_enter Try.func37, Try.ntmps37
    go_upto_region 1 with (fail)
    rw [← hw1]
    clear hw1
    go_wp2_with fail
    have HP := Aside0.mk (HP.out.below (below_drew1 (Below.refl _ _)))
    have HBX := Aside0.mk (HBX.out.below (below_drew1 (Below.refl _ _)))
    have HF := Aside0.mk (show ∀ b o, Bk W S r b o → Bk w1.drew S r b o from fun b o hb => (HF.out b o hb).below (below_drew1 (Below.refl _ _)))
    go_region_law (first
      | (go_simp; go_at_call 34; refine (pdk_remove HP.out hnm).mono ?_; rintro e w4 ⟨rfl, T4, hp4, hb4, -⟩; have HBX := Aside0.mk (hb4 _ _ HBX.out); have n1 : w4.cell? ⟨W.heap.size, 1, none⟩ = some (.string nm) := blk_cell HBX.out.at_ 1; have n2 : w4.cell? ⟨W.heap.size, 2, none⟩ = some (.string to_) := blk_cell HBX.out.at_ 2; have n3 : w4.cell? ⟨W.heap.size, 3, none⟩ = some (.int .i64 at_) := blk_cell HBX.out.at_ 3; have n4 : w4.cell? ⟨W.heap.size, 4, none⟩ = some (.slice A4 by_.length c4) := blk_cell HBX.out.at_ 4; have n5 : w4.cell? ⟨W.heap.size, 5, none⟩ = some (.slice A5 kp.length c5) := blk_cell HBX.out.at_ 5; have HF := Aside0.mk (fun b o hb => hb4 b o (HF.out b o hb)); have HP := Aside0.mk hp4; clear hp4 hb4)
      | (go_simp; go_at_call 82; refine (prk_remove HP.out HI.out).mono ?_; rintro e w4 ⟨rfl, T4, hp4, hb4⟩; have HBX := Aside0.mk (hb4 _ _ HBX.out); have n1 : w4.cell? ⟨W.heap.size, 1, none⟩ = some (.string nm) := blk_cell HBX.out.at_ 1; have n2 : w4.cell? ⟨W.heap.size, 2, none⟩ = some (.string to_) := blk_cell HBX.out.at_ 2; have n3 : w4.cell? ⟨W.heap.size, 3, none⟩ = some (.int .i64 at_) := blk_cell HBX.out.at_ 3; have n4 : w4.cell? ⟨W.heap.size, 4, none⟩ = some (.slice A4 by_.length c4) := blk_cell HBX.out.at_ 4; have n5 : w4.cell? ⟨W.heap.size, 5, none⟩ = some (.slice A5 kp.length c5) := blk_cell HBX.out.at_ 5; have HF := Aside0.mk (fun b o hb => hb4 b o (HF.out b o hb)); have HP := Aside0.mk hp4; clear hp4 hb4)
      | fail)
    all_goals
      go_wp2_with fail
      go_ret
      exact ⟨rfl, _, _, by rw [HD.out]; exact HP.out.mono (by omega), HF.out⟩
  by_cases hk5 : kd = 5
  · have hd : dDo D ⟨kd, nm, to_, at_, by_, kp⟩ = dCrash D kp := by unfold dDo; dsimp only; rw [if_neg hk0]; rw [if_neg hk1]; rw [if_neg hk2]; rw [if_neg hk3]; rw [if_neg hk4]; rw [if_pos hk5]
    have HD := Aside0.mk hd
    have ct0 : (kd == 0) = false := by simp; omega
    have ct1 : (kd == 1) = false := by simp; omega
    have ct2 : (kd == 2) = false := by simp; omega
    have ct3 : (kd == 3) = false := by simp; omega
    have ct4 : (kd == 4) = false := by simp; omega
    have ct5 : (kd == 5) = true := by simp; omega
    clear hd hk0 hk1 hk2 hk3 hk4 hk5
    go_enter Try.func37, Try.ntmps37
    go_upto_region 1 with (fail)
    rw [← hw1]
    clear hw1
    go_wp2_with fail
    refine (pdk_crash HP.out (by omega) (Kd.C_below HC5.out HP.out.dk.1) (H5.out _ _ _ _ _ _ _ HP.out) HKP.out).mono ?_
    rintro e w4 ⟨rfl, T4, hp4, hb4, -⟩
    have HBX := Aside0.mk (hb4 _ _ HBX.out)
    have n1 : w4.cell? ⟨W.heap.size, 1, none⟩ = some (.string nm) := blk_cell HBX.out.at_ 1
    have n2 : w4.cell? ⟨W.heap.size, 2, none⟩ = some (.string to_) := blk_cell HBX.out.at_ 2
    have n3 : w4.cell? ⟨W.heap.size, 3, none⟩ = some (.int .i64 at_) := blk_cell HBX.out.at_ 3
    have n4 : w4.cell? ⟨W.heap.size, 4, none⟩ = some (.slice A4 by_.length c4) := blk_cell HBX.out.at_ 4
    have n5 : w4.cell? ⟨W.heap.size, 5, none⟩ = some (.slice A5 kp.length c5) := blk_cell HBX.out.at_ 5
    have HF := Aside0.mk (fun b o hb => hb4 b o (HF.out b o hb))
    have HP := Aside0.mk hp4
    clear hp4 hb4
    go_wp2_with fail
    refine (prk_crash HP.out HI.out (by omega) (Kd.C_below HC5.out HP.out.dk.1) HKP.out).mono ?_
    rintro e w4 ⟨rfl, T4, hp4, hb4⟩
    have HBX := Aside0.mk (hb4 _ _ HBX.out)
    have n1 : w4.cell? ⟨W.heap.size, 1, none⟩ = some (.string nm) := blk_cell HBX.out.at_ 1
    have n2 : w4.cell? ⟨W.heap.size, 2, none⟩ = some (.string to_) := blk_cell HBX.out.at_ 2
    have n3 : w4.cell? ⟨W.heap.size, 3, none⟩ = some (.int .i64 at_) := blk_cell HBX.out.at_ 3
    have n4 : w4.cell? ⟨W.heap.size, 4, none⟩ = some (.slice A4 by_.length c4) := blk_cell HBX.out.at_ 4
    have n5 : w4.cell? ⟨W.heap.size, 5, none⟩ = some (.slice A5 kp.length c5) := blk_cell HBX.out.at_ 5
    have HF := Aside0.mk (fun b o hb => hb4 b o (HF.out b o hb))
    have HP := Aside0.mk hp4
    clear hp4 hb4
    go_wp2_with fail
    go_ret
    exact ⟨rfl, _, _, by rw [HD.out]; exact HP.out.mono (by omega), HF.out⟩
  · have hd : dDo D ⟨kd, nm, to_, at_, by_, kp⟩ = D := by unfold dDo; dsimp only; rw [if_neg hk0]; rw [if_neg hk1]; rw [if_neg hk2]; rw [if_neg hk3]; rw [if_neg hk4]; rw [if_neg hk5]
    have HD := Aside0.mk hd
    have ct0 : (kd == 0) = false := by simp; omega
    have ct1 : (kd == 1) = false := by simp; omega
    have ct2 : (kd == 2) = false := by simp; omega
    have ct3 : (kd == 3) = false := by simp; omega
    have ct4 : (kd == 4) = false := by simp; omega
    have ct5 : (kd == 5) = false := by simp; omega
    clear hd hk0 hk1 hk2 hk3 hk4 hk5
    go_enter Try.func37, Try.ntmps37
    go_upto_region 1 with (fail)
    rw [← hw1]
    clear hw1
    go_wp2_with fail
    go_ret
    exact ⟨rfl, _, _, by rw [HD.out]; exact HP.out.mono (by omega), HF.out⟩
end Go.Proofs.Ytmmiipnmimjojaa.PS
end
section
namespace Go.Proofs.Ytmmiipnmimjojaa.PS
open Go.RowKit Go.Proofs.YtmmiipnmimjojaaW.PrintWords Go.Proofs.YtmmiipnmimjojaaW.PrintLast Go.Proofs.YtmmiipnmimjojaaW.PrintMore
open Go.Maps Go.Proofs.Ytmmiipnmimjojaa.PD
set_option linter.unusedVariables false
set_option linter.unusedSimpArgs false
theorem eql108 (w : World) (a : Option Addr) (n c : Nat) : (binOp .eql 108 (.slice a n c) (.slice none 0 0)).run Try.prog w = .ok (.bool a.isNone) w := Lib.run_eql_slice_nil w 108 114 a n c 0 0 Try.underlying108
set_option maxRecDepth 100000 in
/-- slices.Clone of changes. -/
theorem cloneC (A : Option Addr) (c : Nat) (l : List (List Value)) (w : World) (hr : (Kd.raw 4).C w A l.length l) (hl : l.length ≤ 1000000000) :
    Calls Try.prog 90 #[.slice A l.length c] w fun e w' => ∃ v1, e = .returned v1 ∧ (Kd.raw 4).R 114 w' w.heap.size (fun _ => True) v1 l ∧ Below w.heap.size w w' := by
  have HR := Aside0.mk hr
  clear hr
  have hE := eql108
  cases A with
  | none =>
    have hz : l = [] := nil_of_C HR.out
    subst hz
    go_enter Try.func90, Try.ntmps90
    go_wp2
    go_ret
    exact ⟨_, rfl, Kd.R_nil _ _ _ _ _, Below.refl _ _⟩
  | some a =>
    go_enter Try.func90, Try.ntmps90
    go_wp2_with (first
      | ((with_reducible refine gate_dst (N := 5) rfl ?_); refine Kd.R_lit (Kd.raw 4) _ 114 ?hg (N := 5) ?hd (xs := ([] : List (List Value))) (inner := []) (ok := fun _ => True) (okp := fun _ => True) ?hr ?hp (fun _ hk => hk) trivial (Below.refl _ _) (Nat.le_refl _) (by simp) ?_; (case hd => rfl); (case hg => rfl); (case hr => first | (go_simp; done) | (go_simp; rfl)); (case hp => exact (Reps.none _ _)); intro v0 w0 ho hb hg_ hnew_; clear hg_ hnew_; have HO := Aside0.mk ho; have HB := Aside0.mk hb; clear ho hb)
      | (at_builtin; refine Kd.R_append_rows (Kd.raw 4) (w0 := w) w.heap.size (by rfl) (.tmp 5) (.tmp 6) 108 114 (.agg #[(.bool false), (.int .i64 0), (.int .i64 0), (.slice none 0 0)]) 48 (by rfl) Try.underlying108 info114 (by rfl) (by decide) (by decide) _ [] l (some a) l.length c (fun _ => True) (fun _ => False) (by rfl) (by rfl) HO.out (Kd.C_below HR.out HB.out) (fun _ _ h => h) (fun _ h => h.elim) (fun _ _ => trivial) HB.out HB.out.size (by rw [List.length_nil, Nat.zero_add]; omega) ?_; intro v1 w1 hR hb1 hg hat; have HO1 := Aside0.mk hR; have HB1 := Aside0.mk hb1; clear hR hb1 hg hat)
      | go_in)
    go_ret
    exact ⟨_, rfl, HO1.out, HB1.out⟩
end Go.Proofs.Ytmmiipnmimjojaa.PS
end
section
namespace Go.Proofs.Ytmmiipnmimjojaa.PS
open Go.RowKit Go.Proofs.YtmmiipnmimjojaaW.PrintWords Go.Proofs.YtmmiipnmimjojaaW.PrintLast Go.Proofs.YtmmiipnmimjojaaW.PrintMore
open Go.Maps Go.Proofs.Ytmmiipnmimjojaa.PD
set_option linter.unusedVariables false
set_option linter.unusedSimpArgs false
/-- The other disk's blocks: what is new since W, but r0; and the first one's rows of bytes, which are only read. -/
def Fk (W : World) (S : Nat → Prop) (r0 : Nat) (w : World) (k : Nat) : Prop := ((W.heap.size ≤ k ∧ k < w.heap.size) ∧ k ≠ r0) ∨ RO W S k
theorem Fk.mono {W w w' : World} {S : Nat → Prop} {r0 k : Nat} (h : Fk W S r0 w k) (hs : w.heap.size ≤ w'.heap.size) : Fk W S r0 w' k := by
  rcases h with h | h
  · exact .inl ⟨⟨h.1.1, by omega⟩, h.2⟩
  · exact .inr h
theorem fork_put {W wx wg w6 : World} {S : Nat → Prop} {r0 d' m' q G : Nat} {own' : Nat → Nat} {T' : Tb} {room : Int} {n : Nm} {f : Fil} (h : DskIn wx (Fk W S r0 wx) d' m' own' T' room) (hb : Below wx.heap.size wx wg) (hG : wx.heap.size ≤ G)
    (hf : FilAt wg (Fk W S r0 wg) (ownN wx own' G) G f) (hm6 : w6.ownsMap Try.prog 9 ptrElem m' q ((dOf (tblk T')).put (.string n) (.lit (.int .i64 G)))) (k6 : Kp wg w6 (fun k => k = m')) :
    DskIn w6 (Fk W S r0 w6) d' m' (ownN wx own' G) (aput n (G, f) T') room := by
  obtain ⟨hd, hM, hh, ht, hs, hfs, hnd⟩ := h
  obtain ⟨es, c, hmap⟩ := ht.map
  have hmap2 : wg.heap[m']? = some (.map es c) := (hb.block m' (blk_lt hmap)).trans hmap
  have hdm : d' ≠ m' := fun e => by rw [e, hmap] at hh; cases hh
  have hsz := hb.size
  have hsz6 := k6.size
  have hlt : ∀ {n' b' f'}, (n', b', f') ∈ T' → b' < wx.heap.size := fun hx => (hfs _ _ _ hx).lt
  refine ⟨hd.mono (by omega), hM.mono (by omega), (k6.block d' (by have := blk_lt hh; omega) hdm).trans ((hb.block d' (blk_lt hh)).trans hh), ?_, aput_srt hs, ?_, nodup_put (T := T') hs hnd (fun n' f0 hx => by have := hlt hx; omega)⟩
  · rw [tblk_put]
    exact Tbl.put_of (srt_map _ hs) hm6
  · intro n' b' f' hx
    rcases (aput_mem hs).1 hx with e | ⟨hx, _⟩
    · cases e
      obtain ⟨cs', hh'⟩ := hf.blk
      refine hf.step (fun k hk hS => hS.mono hsz6) (fun _ _ => rfl) (fun k hk hS hxx => k6.block k hk (fun e => ?_))
      subst e
      rcases hxx with h | ⟨_, cs, h⟩ | h
      · rw [← h, hmap2] at hh'; cases hh'
      · rw [hmap2] at h; cases h
      · exact U8.ne_map hmap2 h
    · obtain ⟨cs', hh'⟩ := (hfs _ _ _ hx).blk
      refine (hfs _ _ _ hx).step (fun k hk hS => hS.mono (by omega)) (fun k hk => by unfold ownN; rw [if_pos hk]) (fun k hk hS hxx => (k6.block k (by omega) (fun e => ?_)).trans (hb.block k hk))
      subst e
      rcases hxx with h | ⟨_, cs, h⟩ | h
      · rw [← h, hmap] at hh'; cases hh'
      · rw [hmap] at h; cases h
      · exact U8.ne_map hmap h
/-- Which files are there. -/
def Part (T T' : Tb) (left : Lit → Bool) : Prop := ∀ n, aget n (tfil T') = if left (.string n) = true then none else aget n (tfil T)
theorem Part.done {T T' : Tb} {left : Lit → Bool} (h : Part T T' left) (hs : Srt T) (hs' : Srt T') (hl : ∀ k, left k = false) : tfil T' = tfil T :=
  srt_get (srt_map _ hs') (srt_map _ hs) fun n => by rw [h n, hl]; rfl
theorem Part.more {T T' : Tb} {left : Lit → Bool} {n : Nm} {b G : Nat} {f : Fil} (h : Part T T' left) (hs' : Srt T') (hl : left (.string n) = true) (hb : aget n T = some (b, f)) :
    Part T (aput n (G, f) T') (fun z => left z && !z.sameKey (.string n)) := by
  intro i
  have hs2 : Srt (tfil T') := srt_map _ hs'
  rw [tfil_put, aget_put hs2]
  dsimp only
  by_cases e : i = n
  · subst e
    rw [if_pos rfl, if_neg (by rw [same_str]; simp)]
    unfold tfil
    rw [aget_map, hb]
    rfl
  · rw [if_neg e, h i]
    have : (Lit.string i).sameKey (.string n) = false := by rw [same_str]; simpa using e
    have hc : (left (.string i) && !(Lit.string i).sameKey (.string n)) = left (.string i) := by rw [this]; simp
    by_cases hx : left (.string i) = true
    · rw [if_pos hx, if_pos (hc.trans hx)]
    · rw [if_neg hx, if_neg (fun h => hx (hc.symm.trans h))]
end Go.Proofs.Ytmmiipnmimjojaa.PS
end
