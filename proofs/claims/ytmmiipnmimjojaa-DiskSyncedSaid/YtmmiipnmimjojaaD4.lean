/- disk.Sync. -/
import Derived.Test.YtmmiipnmimjojaaD3
import Derived.Test.YtmmiipnmimjojaaN1
namespace Go.Proofs.Ytmmiipnmimjojaa.PS
open Go.RowKit Go.Proofs.YtmmiipnmimjojaaW.PrintWords Go.Proofs.YtmmiipnmimjojaaW.PrintLast Go.Proofs.YtmmiipnmimjojaaW.PrintMore
open Go.Maps Go.Proofs.Ytmmiipnmimjojaa.PD
set_option linter.unusedVariables false
set_option linter.unusedSimpArgs false
section
variable {W w1 wf : World} {S : Nat → Prop} {v : Value} {xs : List Int}
theorem V_new (h : k8.R 5 w1 W.heap.size (fun _ => True) v xs) (hk : ∀ k, W.heap.size ≤ k → k < w1.heap.size → wf.heap[k]? = w1.heap[k]?) (hsz : w1.heap.size ≤ wf.heap.size) : Kd.V k8 5 wf 0 (RO wf (Nw W wf S)) v xs := by
  have h1 := Kd.R_step (Kd.R_bound h) (w1 := wf) (fun k ho hlt => hk k ho.2.1 hlt)
  refine Kd.R_V (Kd.R_mono h1 (fun k ho => ?_))
  obtain ⟨_, hb, hlt, q, hq, cs, hc⟩ := ho
  refine ⟨.inr ⟨hb, by omega⟩, cs, (0, 0), ?_⟩
  rw [hk k hb hlt, hc]
  rcases List.mem_cons.1 hq with rfl | hq
  · rfl
  · cases hq
theorem V_old (h : Kd.V k8 5 W 0 (RO W S) v xs) (hk : ∀ k, k < W.heap.size → S k → U8 W k → wf.heap[k]? = W.heap[k]?) : Kd.V k8 5 wf 0 (RO wf (Nw W wf S)) v xs :=
  Kd.V_map h fun A hF => Kd.F_mono (Kd.F_step (Kd.F_bound hF) (fun k ho hlt => hk k hlt ho.1.1 ho.1.2)) (fun k ho => ⟨.inl ho.1.1, ho.1.2.of_same (hk k ho.2 ho.1.1 ho.1.2)⟩)
end
theorem wr_b {W : World} {S : Nat → Prop} {own : Nat → Nat} {b : Nat} {f : Fil} (h : FilAt W S own b f) : WR W S b := by
  obtain ⟨cs, hh⟩ := h.blk
  exact ⟨h.1, U8.ne hh (by decide)⟩
theorem set_ne {w1 : World} {b i k : Nat} {u : Value} (h : k ≠ b) : (w1.setCell ⟨b, i, none⟩ u).heap[k]? = w1.heap[k]? := Below.heap_setCell _ _ _ k h
theorem set_size {w1 : World} {p : Addr} {u : Value} : (w1.setCell p u).heap.size = w1.heap.size := by simp [World.setCell]
/-- Only block b is written since w1. -/
structure OnlyB (w1 wf : World) (b : Nat) : Prop where
  os : wf.os = w1.os
  tape : wf.tape = w1.tape
  output : wf.output = w1.output
  size : wf.heap.size = w1.heap.size
  block : ∀ k, k ≠ b → wf.heap[k]? = w1.heap[k]?
theorem OnlyB.refl (w1 : World) (b : Nat) : OnlyB w1 w1 b := ⟨rfl, rfl, rfl, rfl, fun _ _ => rfl⟩
theorem OnlyB.set {w1 wf : World} {b : Nat} (h : OnlyB w1 wf b) (i : Nat) (u : Value) : OnlyB w1 (wf.setCell ⟨b, i, none⟩ u) b :=
  ⟨h.os, h.tape, h.output, set_size.trans h.size, fun k hk => (set_ne hk).trans (h.block k hk)⟩
theorem OnlyB.kp {W w1 wf : World} {b : Nat} (h : OnlyB w1 wf b) (hb : Below W.heap.size W w1) : Kp W wf (fun k => k = b) :=
  ⟨h.os.trans hb.os, h.tape.trans hb.tape, h.output.trans hb.output, by rw [h.size]; exact hb.size, fun k hk hn => (h.block k hn).trans (hb.block k hk)⟩
theorem sync_fin {W w1 wf : World} {S : Nat → Prop} {d m : Nat} {own : Nat → Nat} {T : Tb} {room : Int} {n : Nm} {b : Nat} {f : Fil} {vn vs vc v1 : Value} (h : DskIn W S d m own T room) (hm : (n, b, f) ∈ T)
    (hh : W.heap[b]? = some (.cells #[vn, vs, .bool f.f2, vc] 110 (0, 0))) (hn : Kd.V k8 5 W 0 (RO W S) vn f.f0) (hc : ∀ k, vc.ownBlock = some k → own k = b ∧ ∃ cs, W.heap[k]? = some (.cells cs 114 (0, 0)))
    (hb : Below W.heap.size W w1) (hr : k8.R 5 w1 W.heap.size (fun _ => True) v1 f.f0) (hf : wf.heap[b]? = some (.cells #[vn, v1, .bool true, .slice none 0 0] 110 (0, 0))) (ho : OnlyB w1 wf b) :
    Kp W wf (WR W S) ∧ DskIn wf (Nw W wf S) d m (ownN W own b) (aput n (b, ⟨f.f0, f.f0, true, []⟩) T) room := by
  have hfl := h.2.2.2.2.2.1 _ _ _ hm
  have k1 := ho.kp hb
  have hbl := blk_lt hh
  refine ⟨k1.mono (fun k e => by rw [e]; exact wr_b hfl), h.turn hm hh hc (k1.mono fun k e => .inl e) ?_⟩
  refine ⟨.inl hfl.1, by unfold ownN; rw [if_pos hbl]; exact hfl.2.1, _, _, _, hf, ?_, ?_, Kd.N_nil _ _ _ _ _, fun k hk => by cases hk⟩
  · exact V_old hn (fun k hk hS hu => k1.block k hk (fun e => by rw [e] at hu; exact U8.ne hh (by decide) hu))
  · exact V_new hr (fun k h1 h2 => ho.block k (by omega)) (by rw [ho.size]; exact Nat.le_refl _)
set_option maxRecDepth 100000 in
theorem sync1 {W : World} {S : Nat → Prop} {d m : Nat} {own : Nat → Nat} {T : Tb} {room : Int} {n : Nm} {b : Nat} {f : Fil} (h : DskIn W S d m own T room) (hm : (n, b, f) ∈ T) (hl : f.f0.length ≤ 140737488355328) :
    Calls Try.prog 61 #[.pointer (some ⟨b, 0, none⟩)] W fun e w' => ∃ r, e = .returned (.int .i64 r) ∧ r = 0 ∧ Kp W w' (WR W S) ∧ DskIn w' (Nw W w' S) d m (ownN W own b) (aput n (b, ⟨f.f0, f.f0, true, []⟩) T) room := by
  have hf := h.2.2.2.2.2.1 _ _ _ hm
  have hwr := wr_b hf
  obtain ⟨hSb, hob, vn, vs, vc, hh, hn, hs, hc, hown⟩ := hf
  obtain ⟨An, cn, rfl⟩ := Kd.V_slice hn
  have q0 : W.cell? ⟨b, 0, none⟩ = some (.slice An f.f0.length cn) := blk_cell hh 0
  have HN := Aside0.mk hn
  have HH := Aside0.mk hh
  have HC := Aside0.mk hc
  have HO := Aside0.mk hown
  have HW := Aside0.mk hwr
  have HD := Aside0.mk h
  clear hn hh hc hs hown h hwr
  go_enter Try.func61, Try.ntmps61
  go_wp2_with fail
  refine (clone8 An cn f.f0 W (Kd.V_reads' HN.out).2.2 hl).mono ?_
  rintro e w1 ⟨v1, rfl, hr, hb⟩
  have hh1 : w1.heap[b]? = some (.cells #[.slice An f.f0.length cn, vs, .bool f.f2, vc] 110 (0, 0)) := (hb.block _ (blk_lt HH.out)).trans HH.out
  have c1 : w1.cell? ⟨b, 1, none⟩ = some vs := blk_cell hh1 1
  have c2 : w1.cell? ⟨b, 2, none⟩ = some (.bool f.f2) := blk_cell hh1 2
  have c3 : w1.cell? ⟨b, 3, none⟩ = some vc := blk_cell hh1 3
  have f1 := blk_frozen hh1 1
  have f2 := blk_frozen hh1 2
  have f3 := blk_frozen hh1 3
  obtain ⟨Av, cv, rfl⟩ := Kd.R_slice hr
  have HR := Aside0.mk hr
  have HB := Aside0.mk hb
  have H1 := Aside0.mk hh1
  clear hr hb hh1
  go_wp2
  go_ret
  refine ⟨_, rfl, rfl, ?_⟩
  exact sync_fin HD.out hm HH.out HN.out (fun k hk => ⟨(HO.out k hk).2, Kd.N_typed HC.out k hk⟩) HB.out HR.out (blk_set (blk_set (blk_set H1.out 1 _) 2 _) 3 _) ((((OnlyB.refl _ _).set 1 _).set 2 _).set 3 _)
end Go.Proofs.Ytmmiipnmimjojaa.PS
