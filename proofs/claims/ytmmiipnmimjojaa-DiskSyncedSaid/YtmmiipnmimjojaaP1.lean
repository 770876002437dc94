/- A disk and the reference's, side by side. -/
import Derived.Test.YtmmiipnmimjojaaR6
import Derived.Test.YtmmiipnmimjojaaR8
import Derived.Test.YtmmiipnmimjojaaR9
import Derived.Test.YtmmiipnmimjojaaD14
namespace Go.Proofs.Ytmmiipnmimjojaa.PS
open Go.RowKit Go.Proofs.YtmmiipnmimjojaaW.PrintWords Go.Proofs.YtmmiipnmimjojaaW.PrintLast Go.Proofs.YtmmiipnmimjojaaW.PrintMore
open Go.Maps Go.Proofs.Ytmmiipnmimjojaa.PD
set_option linter.unusedVariables false
set_option linter.unusedSimpArgs false
/-- W0: the law's beginning; S, R: the blocks of both. -/
structure Pr (W0 W : World) (S R : Nat → Prop) (g r N : Nat) (D : Dsk) (room : Int) (l : List S144) : Prop where
  dk : Dk W0 W S g N D
  rf : RefAt W R r room l
  new : ∀ k, R k → W0.heap.size ≤ k
  dis : ∀ k, R k → ¬ S k
/-- A block that is none of both. -/
structure Bx (W : World) (S R : Nat → Prop) (b : Nat) (o : Obj) : Prop where
  at_ : W.heap[b]? = some o
  ns : ¬ S b
  nr : ¬ R b
section
variable {W0 W W1 w' : World} {S R S1 R1 : Nat → Prop} {g r N M : Nat} {D D' : Dsk} {room : Int} {l l' : List S144}
theorem Bx.of_new {o : Obj} {b : Nat} (h : Pr W0 W S R g r N D room l) (hb : W.heap.size ≤ b) (hs : W1.heap[b]? = some o) : Bx W1 S R b o :=
  ⟨hs, fun h' => by have := (h.dk.2.1 b h').2; omega, fun h' => by have := h.rf.lt b h'; omega⟩
theorem Pr.below (h : Pr W0 W S R g r N D room l) (hb : Below W.heap.size W W1) : Pr W0 W1 S R g r N D room l := ⟨h.dk.step hb, h.rf.below hb, h.new, h.dis⟩
theorem Bx.below {b : Nat} {o : Obj} (h : Bx W S R b o) (hb : Below W.heap.size W W1) : Bx W1 S R b o := ⟨(hb.block b (blk_lt h.at_)).trans h.at_, h.ns, h.nr⟩
/-- Writing elsewhere. -/
theorem Pr.kp {P : Nat → Prop} (h : Pr W0 W S R g r N D room l) (k : Kp W W1 P) (hP0 : ∀ k, P k → W0.heap.size ≤ k) (hS : ∀ k, S k → ¬ P k) (hR : ∀ k, R k → ¬ P k) : Pr W0 W1 S R g r N D room l :=
  ⟨h.dk.kp (h.dk.1.trans (k.below (B := W0.heap.size) (fun i hi _ => hP0 i hi) h.dk.1.size)) k hS, h.rf.kp k hR, h.new, h.dis⟩
theorem Pr.dstep (h : Pr W0 W S R g r N D room l) (nx : Nx W0 W S w' g M D') : ∃ S', Pr W0 w' S' R g r M D' room l ∧ ∀ b o, Bx W S R b o → Bx w' S' R b o := by
  obtain ⟨S', hd, hk, hs⟩ := nx
  refine ⟨S', ⟨hd, h.rf.kp hk h.dis, h.new, fun k hk' hS' => h.dis k hk' (hs k (h.rf.lt k hk') hS')⟩, fun b o hb => ⟨?_, fun hS' => hb.ns (hs b (blk_lt hb.at_) hS'), hb.nr⟩⟩
  exact (hk.block b (blk_lt hb.at_) hb.ns).trans hb.at_
theorem Pr.rstep (h : Pr W0 W S R g r N D room l) (rx : Rx W w' R r room l') : ∃ R', Pr W0 w' S R' g r N D room l' ∧ ∀ b o, Bx W S R b o → Bx w' S R' b o := by
  obtain ⟨R', hr, hk, hs⟩ := rx
  have h0 := h.new r h.rf.own
  have hw := h.dk.1.size
  refine ⟨R', ⟨h.dk.kp (h.dk.1.trans (hk.below (B := W0.heap.size) (fun i hi _ => by omega) hw)) hk (fun k hS e => h.dis r h.rf.own (by rw [← e]; exact hS)), hr, fun k hk' => ?_, fun k hk' hS => ?_⟩, fun b o hb => ⟨?_, hb.ns, fun hR' => hb.nr (hs b (blk_lt hb.at_) hR')⟩⟩
  · by_cases hlt : k < W.heap.size
    · exact h.new k (hs k hlt hk')
    · omega
  · have hlt := (h.dk.2.1 k hS).2
    exact h.dis k (hs k hlt hk') hS
  · exact (hk.block b (blk_lt hb.at_) (fun e => hb.nr (by rw [e]; exact h.rf.own))).trans hb.at_
end
/-- What a call of one of both leaves. -/
def AfD (W0 W : World) (S R : Nat → Prop) (g r M : Nat) (D' : Dsk) (room : Int) (l : List S144) (w' : World) : Prop := ∃ S', Pr W0 w' S' R g r M D' room l ∧ ∀ b o, Bx W S R b o → Bx w' S' R b o
def AfR (W0 W : World) (S R : Nat → Prop) (g r N : Nat) (D : Dsk) (room : Int) (l' : List S144) (w' : World) : Prop := ∃ R', Pr W0 w' S R' g r N D room l' ∧ ∀ b o, Bx W S R b o → Bx w' S R' b o
section
variable {W0 W w' : World} {S R : Nat → Prop} {g r N N0 : Nat} {D D0 : Dsk} {room : Int} {l : List S144}
theorem pd_cut {s : ByteArray} {z : Int} (h : Pr W0 W S R g r N D room l) (hN : N ≤ 1000000) (hs : s.size ≤ maxLen) :
    Calls Try.prog 35 #[.pointer (some ⟨g, 0, none⟩), .string s, .int .i64 z] W fun e w' => e = .returned (.int .i64 (dCut D s z).1) ∧ AfD W0 W S R g r (N + 1) (dCut D s z).2 room l w' :=
  (dk_cut h.dk hN hs).mono fun e w' hw => ⟨hw.1, h.dstep hw.2⟩
theorem pd_sync {s : ByteArray} (h : Pr W0 W S R g r N D room l) (hN : N ≤ 1000000) (hs : s.size ≤ maxLen) :
    Calls Try.prog 21 #[.pointer (some ⟨g, 0, none⟩), .string s] W fun e w' => e = .returned (.int .i64 (dSync D s).1) ∧ AfD W0 W S R g r N (dSync D s).2 room l w' :=
  (dk_sync h.dk hN hs).mono fun e w' hw => ⟨hw.1, h.dstep hw.2⟩
theorem pd_remove {s : ByteArray} (h : Pr W0 W S R g r N D room l) (hs : s.size ≤ maxLen) :
    Calls Try.prog 34 #[.pointer (some ⟨g, 0, none⟩), .string s] W fun e w' => e = .returned (.int .i64 (dRemove D s).1) ∧ AfD W0 W S R g r N (dRemove D s).2 room l w' :=
  (dk_remove h.dk hs).mono fun e w' hw => ⟨hw.1, h.dstep hw.2⟩
theorem pd_rename {s t : ByteArray} (h : Pr W0 W S R g r N D room l) (hs : s.size ≤ maxLen) (ht : t.size ≤ maxLen) :
    Calls Try.prog 31 #[.pointer (some ⟨g, 0, none⟩), .string s, .string t] W fun e w' => e = .returned (.int .i64 (dRename D s t).1) ∧ AfD W0 W S R g r N (dRename D s t).2 room l w' :=
  (dk_rename h.dk hs ht).mono fun e w' hw => ⟨hw.1, h.dstep hw.2⟩
theorem pd_crash {A : Option Addr} {c : Nat} {keep : List Int} (h : Pr W0 W S R g r N D room l) (hN : N ≤ 1000000) (hk : (Kd.int .i64).C W A keep.length keep) (hA : ∀ ad, A = some ad → 0 < keep.length → ¬ S ad.block) (hkb : ∀ z ∈ keep, z ≤ 9223372036854775807) :
    Calls Try.prog 22 #[.pointer (some ⟨g, 0, none⟩), .slice A keep.length c] W fun e w' => e = .returned (.tuple #[]) ∧ AfD W0 W S R g r N (dCrash D keep) room l w' :=
  (dk_crash h.dk hN hk hA hkb).mono fun e w' hw => ⟨hw.1, h.dstep hw.2⟩
theorem pd_write {s : ByteArray} {at_ : Int} {A : Option Addr} {c : Nat} {b : List Int} (h : Pr W0 W S R g r N D room l) (hN : N ≤ 1000000) (hs : s.size ≤ maxLen) (hr : k8.C W A b.length b) (hc : b.length ≤ c) (hl : b.length ≤ 140737488355328)
    (hA : ∀ ad, A = some ad → 0 < b.length → ¬ S ad.block) :
    Calls Try.prog 20 #[.pointer (some ⟨g, 0, none⟩), .string s, .int .i64 at_, .slice A b.length c] W fun e w' => e = .returned (.int .i64 (dWrite D s at_ b).1) ∧ AfD W0 W S R g r (N + 1) (dWrite D s at_ b).2 room l w' :=
  (dk_write h.dk hN hs hr hc hl hA).mono fun e w' hw => ⟨hw.1, h.dstep hw.2⟩
theorem pr_cut {s : ByteArray} {z : Int} (h : Pr W0 W S R g r N D D0.room (refL D0.files)) (hi : DInv N0 D0) (hN : N0 ≤ 1000000) :
    Calls Try.prog 79 #[.pointer (some ⟨r, 0, none⟩), .string s, .int .i64 z] W fun e w' => e = .returned (.int .i64 (dCut D0 s z).1) ∧ AfR W0 W S R g r N D D0.room (refL (dCut D0 s z).2.files) w' :=
  (rcut_calls h.rf hi hN).mono fun e w' hw => ⟨hw.1, h.rstep hw.2⟩
theorem pr_sync {s : ByteArray} (h : Pr W0 W S R g r N D D0.room (refL D0.files)) (hi : DInv N0 D0) (hN : N0 ≤ 1000000) :
    Calls Try.prog 80 #[.pointer (some ⟨r, 0, none⟩), .string s] W fun e w' => e = .returned (.int .i64 (dSync D0 s).1) ∧ AfR W0 W S R g r N D D0.room (refL (dSync D0 s).2.files) w' :=
  (rsync_calls h.rf hi hN).mono fun e w' hw => ⟨hw.1, h.rstep hw.2⟩
theorem pr_remove {s : ByteArray} (h : Pr W0 W S R g r N D D0.room (refL D0.files)) (hi : DInv N0 D0) :
    Calls Try.prog 82 #[.pointer (some ⟨r, 0, none⟩), .string s] W fun e w' => e = .returned (.int .i64 (dRemove D0 s).1) ∧ AfR W0 W S R g r N D D0.room (refL (dRemove D0 s).2.files) w' :=
  (rremove_calls h.rf hi).mono fun e w' hw => ⟨hw.1, h.rstep hw.2⟩
theorem pr_rename {s u : ByteArray} (h : Pr W0 W S R g r N D D0.room (refL D0.files)) (hi : DInv N0 D0) (hN : N0 ≤ 1000000) (hu : u.size ≤ maxLen) :
    Calls Try.prog 81 #[.pointer (some ⟨r, 0, none⟩), .string s, .string u] W fun e w' => e = .returned (.int .i64 (dRename D0 s u).1) ∧ AfR W0 W S R g r N D D0.room (refL (dRename D0 s u).2.files) w' :=
  (rrename_calls h.rf hi hN hu).mono fun e w' hw => ⟨hw.1, h.rstep hw.2⟩
theorem pr_crash {A : Option Addr} {c : Nat} {keep : List Int} (h : Pr W0 W S R g r N D D0.room (refL D0.files)) (hi : DInv N0 D0) (hN : N0 ≤ 1000000) (hk : (Kd.int .i64).C W A keep.length keep) (hkb : ∀ z ∈ keep, z ≤ 9223372036854775807) :
    Calls Try.prog 42 #[.pointer (some ⟨r, 0, none⟩), .slice A keep.length c] W fun e w' => e = .returned (.tuple #[]) ∧ AfR W0 W S R g r N D D0.room (refL (dCrash D0 keep).files) w' :=
  (rcrash_calls h.rf hi hN hk hkb).mono fun e w' hw => ⟨hw.1, h.rstep hw.2⟩
theorem pr_write {s : ByteArray} {at_ : Int} {A : Option Addr} {c : Nat} {b : List Int} (h : Pr W0 W S R g r N D D0.room (refL D0.files)) (hi : DInv N0 D0) (hN : N0 ≤ 1000000) (hs : s.size ≤ maxLen) (hr : k8.C W A b.length b) (hc : b.length ≤ c)
    (ha : -9223372036854775808 ≤ at_ ∧ at_ ≤ 9223372036854775807) (hbl : b.length ≤ 4000) :
    Calls Try.prog 78 #[.pointer (some ⟨r, 0, none⟩), .string s, .int .i64 at_, .slice A b.length c] W fun e w' => e = .returned (.int .i64 (dWrite D0 s at_ b).1) ∧ AfR W0 W S R g r N D D0.room (refL (dWrite D0 s at_ b).2.files) w' :=
  (rwrite_calls h.rf hi hN hs hr hc (by omega) ha hbl).mono fun e w' hw => ⟨hw.1, h.rstep hw.2⟩
end
/-! ### What deeds keep -/
theorem room_write (D : Dsk) (s : ByteArray) (at_ : Int) (b : List Int) : (dWrite D s at_ b).2.room = D.room := by
  unfold dWrite dW2; split; rfl; split; rfl; split; rfl; split <;> rfl
theorem room_cut (D : Dsk) (s : ByteArray) (z : Int) : (dCut D s z).2.room = D.room := by unfold dCut; split; rfl; split <;> rfl
theorem room_sync (D : Dsk) (s : ByteArray) : (dSync D s).2.room = D.room := by unfold dSync; split <;> rfl
theorem room_remove (D : Dsk) (s : ByteArray) : (dRemove D s).2.room = D.room := by unfold dRemove; split <;> rfl
theorem room_rename (D : Dsk) (s t : ByteArray) : (dRename D s t).2.room = D.room := by unfold dRename; split; rfl; split; rfl; split <;> rfl
/-- A deed of law 05. -/
def dDo (D : Dsk) (x : S58) : Dsk :=
  if x.f0 = 0 then (dWrite D x.f1 x.f3 x.f4).2 else if x.f0 = 1 then (dCut D x.f1 x.f3).2 else if x.f0 = 2 then (dSync D x.f1).2 else if x.f0 = 3 then (dRename D x.f1 x.f2).2 else
    if x.f0 = 4 then (dRemove D x.f1).2 else if x.f0 = 5 then dCrash D x.f5 else D
theorem room_do (D : Dsk) (x : S58) : (dDo D x).room = D.room := by
  unfold dDo
  split; exact room_write _ _ _ _
  split; exact room_cut _ _ _
  split; exact room_sync _ _
  split; exact room_rename _ _ _
  split; exact room_remove _ _
  split <;> rfl
theorem inv_do {N : Nat} {D : Dsk} (h : DInv N D) (x : S58) : DInv (N + 1) (dDo D x) := by
  unfold dDo
  split; exact dWrite_inv h
  split; exact dCut_inv h
  split; exact (dSync_inv h).mono (Nat.le_succ N)
  split; exact (dRename_inv h).mono (Nat.le_succ N)
  split; exact (dRemove_inv h).mono (Nat.le_succ N)
  split; exact (dCrash_inv h).mono (Nat.le_succ N)
  exact h.mono (Nat.le_succ N)
end Go.Proofs.Ytmmiipnmimjojaa.PS
