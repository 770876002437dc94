/- disk.Cut. -/
import Derived.Test.YtmmiipnmimjojaaD6
import Derived.Deep.RegionLaw
namespace Go.Proofs.Ytmmiipnmimjojaa.PS
open Go.RowKit Go.Proofs.YtmmiipnmimjojaaW.PrintWords Go.Proofs.YtmmiipnmimjojaaW.PrintLast Go.Proofs.YtmmiipnmimjojaaW.PrintMore
open Go.Maps Go.Proofs.Ytmmiipnmimjojaa.PD
set_option linter.unusedVariables false
set_option linter.unusedSimpArgs false
theorem N_push {wf : World} {P : Nat → Prop} {v1 : Value} {rows : List (List Value)} {xs : List S114} {x0 : S114} {cs : List Value} (hlr : rows.length = xs.length) (hP : ∀ k, P k → U8 wf k)
    (hfk : ∀ (j : Nat) (x : S114) (c : List Value), xs[j]? = some x → rows[j]? = some c → Kd.FK k114 wf P x c) (hp : Kd.FK k114 wf P x0 cs) (hr : (Kd.raw 4).R 114 wf 0 (fun _ => True) v1 (rows ++ [cs])) :
    Kd.N k114 114 wf 0 (fun k => P k ∨ some k = v1.ownBlock) v1 (xs ++ [x0]) := by
  have hty := Kd.R_typed hr
  have hne : ∀ k, P k → some k ≠ v1.ownBlock := fun k hk e => by
    obtain ⟨cells, hc⟩ := hty k e.symm
    exact U8.ne hc (by decide) (hP k hk)
  refine ⟨fun k hk => .inr hk.symm, rows ++ [cs], by simp [hlr], Kd.raw_tight hr, fun j x c hx hc => ?_⟩
  refine Kd.FK_mono ?_ (fun k hk => ⟨.inl hk, hne k hk⟩)
  by_cases hj : j < xs.length
  · rw [List.getElem?_append_left hj] at hx
    rw [List.getElem?_append_left (by omega)] at hc
    exact hfk j x c hx hc
  · have hj' : j = xs.length := by
      have := (List.getElem?_eq_some_iff.1 hx).1
      simp at this; omega
    subst hj'
    rw [List.getElem?_append_right (Nat.le_refl _)] at hx
    rw [List.getElem?_append_right (by omega), hlr] at hc
    simp at hx hc
    rw [← hx, ← hc]
    exact hp
/-- The row of changes, as cells and as what they lead to. -/
theorem N_parts {W : World} {S : Nat → Prop} {vc : Value} {xs : List S114} (h : Kd.N k114 114 W 0 (fun k => RO W S k ∨ some k = vc.ownBlock) vc xs) :
    ∃ rows : List (List Value), rows.length = xs.length ∧ (Kd.raw 4).R 114 W 0 (fun _ => True) vc rows ∧ ∀ (j : Nat) (x : S114) (c : List Value), xs[j]? = some x → rows[j]? = some c → Kd.FK k114 W (RO W S) x c := by
  obtain ⟨_, rows, hl, hR, hf⟩ := h
  exact ⟨rows, hl, Kd.raw_any hR, fun j x c hx hc => Kd.FK_mono (hf j x c hx hc) (fun k hk => hk.1.elim id (fun e => absurd e hk.2))⟩
theorem FK_old {W wf : World} {S : Nat → Prop} {x : S114} {c : List Value} (h : Kd.FK k114 W (RO W S) x c) (hk : ∀ k, k < W.heap.size → S k → U8 W k → wf.heap[k]? = W.heap[k]?) : Kd.FK k114 wf (RO wf (Nw W wf S)) x c :=
  Kd.FK_mono (Kd.FK_step (Kd.FK_bound h) (fun k ho hlt => hk k hlt ho.1.1 ho.1.2)) (fun k ho => ⟨.inl ho.1.1, ho.1.2.of_same (hk k ho.2 ho.1.1 ho.1.2)⟩)
/-- One change more: what the disk is behind it. W1: the world ahead of the append (block b alone was written); w1: behind it; wf: with the row stored. -/
theorem push_fin {W W1 w1 wf : World} {S : Nat → Prop} {d m : Nat} {own : Nat → Nat} {T : Tb} {room : Int} {n : Nm} {b : Nat} {f : Fil} {vn vs vc vn1 v1 : Value} {x0 : S114} {cs : List Value} {rows : List (List Value)} {now1 : List Int}
    (h : DskIn W S d m own T room) (hm : (n, b, f) ∈ T) (hh : W.heap[b]? = some (.cells #[vn, vs, .bool f.f2, vc] 110 (0, 0))) (hs : Kd.V k8 5 W 0 (RO W S) vs f.f1) (hown : ∀ k, vc.ownBlock = some k → S k ∧ own k = b)
    (hc : Kd.N k114 114 W 0 (fun k => RO W S k ∨ some k = vc.ownBlock) vc f.f3) (hlr : rows.length = f.f3.length)
    (hfk : ∀ (j : Nat) (x : S114) (c : List Value), f.f3[j]? = some x → rows[j]? = some c → Kd.FK k114 W (RO W S) x c)
    (k1 : Kp W W1 (fun k => k = b)) (hg : W1.grownBy w1 vc.ownBlock) (hat : v1.ownBlock = vc.ownBlock ∨ ∃ b, v1.ownBlock = some b ∧ W1.heap.size ≤ b) (hr : (Kd.raw 4).R 114 w1 0 (fun _ => True) v1 (rows ++ [cs])) (ho : OnlyB w1 wf b) (hf : wf.heap[b]? = some (.cells #[vn1, vs, .bool f.f2, v1] 110 (0, 0)))
    (hn1 : Kd.V k8 5 wf 0 (RO wf (Nw W wf S)) vn1 now1) (hp : Kd.FK k114 wf (RO wf (Nw W wf S)) x0 cs) :
    Kp W wf (WR W S) ∧ DskIn wf (Nw W wf S) d m (ownN W own b) (aput n (b, ⟨now1, f.f1, f.f2, f.f3 ++ [x0]⟩) T) room := by
  have hfl := h.2.2.2.2.2.1 _ _ _ hm
  have hty := Kd.N_typed hc
  have hbl := blk_lt hh
  have kf : Kp W wf (fun k => k = b ∨ vc.ownBlock = some k) := by
    have k2 : Kp W w1 (fun k => k = b ∨ vc.ownBlock = some k) := (k1.mono fun k e => .inl e).grown hg (fun k e => .inl (.inr e))
    refine k2.trans (S2 := fun k => k = b) ⟨ho.os, ho.tape, ho.output, by rw [ho.size]; exact Nat.le_refl _, fun k _ hn => ho.block k hn⟩ (fun k _ e => .inl e)
  have hu8 : ∀ k, k < W.heap.size → S k → U8 W k → wf.heap[k]? = W.heap[k]? := fun k hk hS hu => kf.block k hk (fun e => by
    rcases e with e | e
    · rw [e] at hu; exact U8.ne hh (by decide) hu
    · obtain ⟨cells, hcl⟩ := hty k e
      exact U8.ne hcl (by decide) hu)
  have hne : ∀ k, v1.ownBlock = some k → k ≠ b := fun k hk e => by
    subst e
    have hlt := Kd.R_typed hr k hk
    obtain ⟨cells, hcl⟩ := hlt
    have hbW1 : W1.heap.size ≤ k ∨ vc.ownBlock = some k := by
      rcases hat with e | ⟨q, hq, hle⟩
      · exact .inr (e.symm.trans hk)
      · rw [hk] at hq; cases hq; exact .inl hle
    rcases hbW1 with e | e
    · have := k1.size; omega
    · obtain ⟨cells', hcl'⟩ := hty k e
      rw [hh] at hcl'; cases hcl'
  have hr' : (Kd.raw 4).R 114 wf 0 (fun _ => True) v1 (rows ++ [cs]) := Kd.R_mono (Kd.R_move (Kd.raw_tight hr) (fun k hk => ho.block k (hne k hk.symm))) (fun _ _ => trivial)
  refine ⟨kf.mono fun k e => ?_, h.turn hm hh (fun k hk => ⟨(hown k hk).2, hty k hk⟩) kf ?_⟩
  · rcases e with e | e
    · rw [e]; exact wr_b hfl
    · obtain ⟨cells, hcl⟩ := hty k e
      exact ⟨(hown k e).1, U8.ne hcl (by decide)⟩
  · refine ⟨.inl hfl.1, by unfold ownN; rw [if_pos hbl]; exact hfl.2.1, _, _, _, hf, hn1, V_old hs hu8, N_push hlr (fun k hk => hk.2) (fun j x c hx hc => FK_old (hfk j x c hx hc) hu8) hp hr', fun k hk => ?_⟩
    have hlt := Kd.R_lt hr' k hk
    rcases hat with e | ⟨q, hq, hle⟩
    · have hk' := e.symm.trans hk
      have hlt' := Kd.N_lt hc k hk'
      exact ⟨.inl (hown k hk').1, by unfold ownN; rw [if_pos hlt']; exact (hown k hk').2⟩
    · rw [hk] at hq
      cases hq
      have := k1.size
      exact ⟨.inr ⟨by omega, hlt⟩, by unfold ownN; rw [if_neg (by omega)]⟩
theorem V_take {W : World} {ok : Nat → Prop} {A : Option Addr} {n c m : Nat} {xs : List Int} (h : Kd.V k8 5 W 0 ok (.slice A n c) xs) (hm : m ≤ xs.length) : Kd.V k8 5 W 0 ok (.slice A m m) (xs.take m) := by
  obtain ⟨hn, _, hF⟩ := Kd.V_at h
  have hl : (xs.take m).length = m := by rw [List.length_take]; omega
  refine ⟨A, m, by rw [hl], by rw [hl]; exact Nat.le_refl _, ?_⟩
  exact Kd.F_imp hF (fun W' hC => Kd.C_take hC hm)
theorem grown_drew {W1 w1 : World} {r : Option Nat} (h : W1.drew.grownBy w1 r) : W1.grownBy w1 r := ⟨h.os, h.tape, h.output, h.size, h.block⟩
/-- What cutting leaves. -/
theorem cut_fin {W W1 w1 : World} {S : Nat → Prop} {d m : Nat} {own : Nat → Nat} {T : Tb} {room : Int} {n : Nm} {b cn : Nat} {f : Fil} {vs vc v1 : Value} {An : Option Addr} {z : Int} {rows : List (List Value)}
    (h : DskIn W S d m own T room) (hm : (n, b, f) ∈ T) (hh : W.heap[b]? = some (.cells #[.slice An f.f0.length cn, vs, .bool f.f2, vc] 110 (0, 0))) (hn : Kd.V k8 5 W 0 (RO W S) (.slice An f.f0.length cn) f.f0) (hs : Kd.V k8 5 W 0 (RO W S) vs f.f1) (hown : ∀ k, vc.ownBlock = some k → S k ∧ own k = b)
    (hc : Kd.N k114 114 W 0 (fun k => RO W S k ∨ some k = vc.ownBlock) vc f.f3) (hlr : rows.length = f.f3.length)
    (hfk : ∀ (j : Nat) (x : S114) (c : List Value), f.f3[j]? = some x → rows[j]? = some c → Kd.FK k114 W (RO W S) x c) (h0 : 0 ≤ z) (h1 : z ≤ f.f0.length)
    (k1 : Kp W W1 (fun k => k = b)) (hg : W1.grownBy w1 vc.ownBlock) (hat : v1.ownBlock = vc.ownBlock ∨ ∃ b, v1.ownBlock = some b ∧ W1.heap.size ≤ b) (hr : (Kd.raw 4).R 114 w1 0 (fun _ => True) v1 (rows ++ [[.bool true, .int .i64 z, .int .i64 0, .slice none 0 0]]))
    (hb : w1.heap[b]? = some (.cells #[.slice An z.toNat z.toNat, vs, .bool f.f2, vc] 110 (0, 0))) :
    Kp W (w1.setCell ⟨b, 3, none⟩ v1) (WR W S) ∧ DskIn (w1.setCell ⟨b, 3, none⟩ v1) (Nw W (w1.setCell ⟨b, 3, none⟩ v1) S) d m (ownN W own b) (aput n (b, ⟨f.f0.take z.toNat, f.f1, f.f2, f.f3 ++ [⟨true, z, 0, []⟩]⟩) T) room := by
  have ho : OnlyB w1 (w1.setCell ⟨b, 3, none⟩ v1) b := (OnlyB.refl _ _).set 3 v1
  have hty := Kd.N_typed hc
  refine push_fin h hm hh hs hown hc hlr hfk k1 hg hat hr ho (blk_set hb 3 v1) ?_ (k114_mkF _ _ ⟨true, z, 0, []⟩ (Nat.zero_le _) (Kd.F_nil _ _ _))
  refine V_old (V_take hn (by omega)) (fun k hk hS hu => ?_)
  have hkb : k ≠ b := fun e => by rw [e] at hu; exact U8.ne hh (by decide) hu
  rw [ho.block k hkb, hg.block k (by have := k1.size; omega) (fun e => ?_), k1.block k hk hkb]
  obtain ⟨cells, hcl⟩ := hty k e.symm
  exact U8.ne hcl (by decide) hu
set_option maxRecDepth 100000 in
theorem cut0 {W : World} {S : Nat → Prop} {own : Nat → Nat} {b bz : Nat} {f : Fil} {z : Int} (hf : FilAt W S own b f) (hz : W.cell? ⟨bz, 0, none⟩ = some (.int .i64 z)) (hbad : z < 0 ∨ (f.f0.length : Int) < z) :
    Calls Try.prog 77 #[.pointer (some ⟨b, 0, none⟩), .pointer (some ⟨bz, 0, none⟩)] W fun e w' => ∃ r, e = .returned (.int .i64 r) ∧ r = 2 ∧ ∃ k, w' = W.drewN k := by
  obtain ⟨An, cn, q0, _, _⟩ := hf.cells
  clear hf
  by_cases h0 : z < 0
  · have g0 : decide (z < 0) = true := by simpa using h0
    clear hbad
    go_enter Try.func77, Try.ntmps77
    go_wp2_with fail
    go_quiet (fail)
    go_wp2
    go_ret
    exact ⟨_, rfl, rfl, _, rfl⟩
  · have g0 : decide (z < 0) = false := by simpa using h0
    have h1 : (f.f0.length : Int) < z := by omega
    have g1 : decide ((f.f0.length : Int) < z) = true := by simpa using h1
    clear hbad
    go_enter Try.func77, Try.ntmps77
    go_wp2_with fail
    go_quiet (fail)
    go_wp2
    go_ret
    exact ⟨_, rfl, rfl, _, rfl⟩
set_option maxHeartbeats 1000000 in
set_option maxRecDepth 100000 in
theorem cut1 {W : World} {S : Nat → Prop} {d m : Nat} {own : Nat → Nat} {T : Tb} {room : Int} {n : Nm} {b bz : Nat} {f : Fil} {z : Int} (h : DskIn W S d m own T room) (hm : (n, b, f) ∈ T) (hz : W.heap[bz]? = some (.cells #[.int .i64 z] 3 (0, 0))) (h0 : 0 ≤ z) (h1 : z ≤ f.f0.length) (hl : f.f3.length ≤ 1000000) :
    Calls Try.prog 77 #[.pointer (some ⟨b, 0, none⟩), .pointer (some ⟨bz, 0, none⟩)] W fun e w' => ∃ r, e = .returned (.int .i64 r) ∧ r = 0 ∧ Kp W w' (WR W S) ∧ DskIn w' (Nw W w' S) d m (ownN W own b) (aput n (b, ⟨f.f0.take z.toNat, f.f1, f.f2, f.f3 ++ [⟨true, z, 0, []⟩]⟩) T) room := by
  have hf := h.2.2.2.2.2.1 _ _ _ hm
  have hwr := wr_b hf
  obtain ⟨hSb, hob, vn, vs, vc, hh, hn, hs, hc, hown⟩ := hf
  obtain ⟨An, cn, rfl⟩ := Kd.V_slice hn
  obtain ⟨Ac, cc, rfl⟩ := Kd.N_slice hc
  have hle := (Kd.V_reads' hn).2.1
  have q0 : W.cell? ⟨b, 0, none⟩ = some (.slice An f.f0.length cn) := blk_cell hh 0
  have q3 : W.cell? ⟨b, 3, none⟩ = some (.slice Ac f.f3.length cc) := blk_cell hh 3
  have f0 := blk_frozen hh 0
  have f3 := blk_frozen hh 3
  have qz : W.cell? ⟨bz, 0, none⟩ = some (.int .i64 z) := blk_cell hz 0
  have g0 : decide (z < 0) = false := by simpa using h0
  have g1 : decide ((f.f0.length : Int) < z) = false := by simpa using h1
  have hz1 : z ≤ (cn : Int) := by omega
  have hbz : bz ≠ b := fun e => by rw [e, hh] at hz; cases hz
  have HH := Aside0.mk hh
  have HN := Aside0.mk hn
  have HS := Aside0.mk hs
  have HC := Aside0.mk hc
  have HO := Aside0.mk hown
  have HW := Aside0.mk hwr
  have HD := Aside0.mk h
  have HZ := Aside0.mk hz
  clear hn hh hc hs hown h hwr hz
  go_enter Try.func77, Try.ntmps77
  go_wp2_with fail
  go_quiet (fail)
  go_wp2_with fail
  go_region
  have k1 : Kp W ((W.drewN (nq + 1)).setCell ⟨b, 0, none⟩ (.slice An z.toNat z.toNat)) (fun k => k = b) := ((Kp.refl W (fun k => k = b)).drewN _).setCell (p := ⟨b, 0, none⟩) (.inl rfl) _
  have hb1 : ((W.drewN (nq + 1)).setCell ⟨b, 0, none⟩ (.slice An z.toNat z.toNat)).heap[b]? = some (.cells #[.slice An z.toNat z.toNat, vs, .bool f.f2, .slice Ac f.f3.length cc] 110 (0, 0)) := blk_set (w := W.drewN (nq + 1)) HH.out 0 _
  generalize ((W.drewN (nq + 1)).setCell ⟨b, 0, none⟩ (.slice An z.toNat z.toNat)) = W1 at *
  have c3 : W1.cell? ⟨b, 3, none⟩ = some (.slice Ac f.f3.length cc) := blk_cell hb1 3
  have fz3 := blk_frozen hb1 3
  have cz : W1.cell? ⟨bz, 0, none⟩ = some (.int .i64 z) := (k1.cell (blk_lt HZ.out) hbz).trans qz
  have ca3 : (W1.alloc (.cells #[.bool true, .int .i64 z, .int .i64 0, .slice none 0 0] 114 (0, 0))).cell? ⟨b, 3, none⟩ = some (.slice Ac f.f3.length cc) := ((below_alloc (Below.refl _ W1) _).cell (blk_lt hb1)).trans c3
  have caz : (W1.alloc (.cells #[.bool true, .int .i64 z, .int .i64 0, .slice none 0 0] 114 (0, 0))).cell? ⟨bz, 0, none⟩ = some (.int .i64 z) := ((below_alloc (Below.refl _ W1) _).cell (World.block_lt_of_cell? W1 _ cz)).trans cz
  obtain ⟨rows, hlr, hR, hfk⟩ := N_parts HC.out
  have hR1 : (Kd.raw 4).R 114 W1 0 (fun _ => True) (.slice Ac f.f3.length cc) rows := Kd.R_mono (Kd.R_step (Kd.raw_tight hR) (fun k hk hlt => k1.block k hlt (fun e => by
    obtain ⟨cells, hcl⟩ := Kd.N_typed HC.out k hk.symm
    rw [e, HH.out] at hcl; cases hcl))) (fun _ _ => trivial)
  have hM : ∀ W, (Kd.raw 4).M W 0 (fun _ => False) [.bool true, .int .i64 z, .int .i64 0, .slice none 0 0] [.bool true, .int .i64 z, .int .i64 0, .slice none 0 0] := fun W => ⟨rfl, rfl, fun u hu => by
    simp only [List.mem_cons, List.not_mem_nil, or_false] at hu
    rcases hu with rfl | rfl | rfl | rfl <;> rfl⟩
  have HM := Aside0.mk hM
  have HDR := Aside0.mk (show (W1.alloc (.cells #[.bool true, .int .i64 z, .int .i64 0, .slice none 0 0] 114 (0, 0))).drew = W1.drew.alloc (.cells #[.bool true, .int .i64 z, .int .i64 0, .slice none 0 0] 114 (0, 0)) from rfl)
  have hLn : (rows.length + 1) * 48 ≤ 140737488355328 := by omega
  have HLN := Aside0.mk hLn
  clear hM hLn
  have hgb : ∀ w1, W1.drew.grownBy w1 (Value.slice Ac f.f3.length cc).ownBlock → w1.heap[b]? = some (.cells #[.slice An z.toNat z.toNat, vs, .bool f.f2, .slice Ac f.f3.length cc] 110 (0, 0)) := fun w1 hg => (hg.block b (blk_lt hb1) (fun e => by
    obtain ⟨cells, hcl⟩ := Kd.N_typed HC.out b e.symm
    rw [HH.out] at hcl; cases hcl)).trans hb1
  have HGB := Aside0.mk hgb
  clear hgb
  have HR := Aside0.mk hR1
  have HFK := Aside0.mk hfk
  have HLR := Aside0.mk hlr
  have HK := Aside0.mk k1
  have HB := Aside0.mk hb1
  clear hR hR1 hfk hlr k1 hb1 q0 q3 f0 f3 qz
  go_wp2_with fail
  go_region_law (first
    | (rw [HDR.out]; refine Kd.R_append_step (Kd.raw 4) (w0 := W1.drew) 0 (by rfl) (.tmp 29) (.tmp 32) 108 114 (.agg #[.bool false, .int .i64 0, .int .i64 0, .slice none 0 0]) 48 (by rfl) Try.underlying108 info114 (by rfl) (by decide) (by decide) (.slice Ac f.f3.length cc) rows [.bool true, .int .i64 z, .int .i64 0, .slice none 0 0] [.bool true, .int .i64 z, .int .i64 0, .slice none 0 0] (fun _ => True) (fun _ => False) (by rfl) (by rfl) (HM.out _) (fun _ hk => hk.elim) (fun _ _ => trivial) (Kd.R_below HR.out (below_drew1 (Below.refl _ _))) ((Below.refl 0 W1.drew).mono (Nat.zero_le _)) (Nat.zero_le _) HLN.out ?_; intro v1 w1 hr hb2 hg hat; obtain ⟨A1, c1, rfl⟩ := Kd.R_slice hr; have hbw := Aside0.mk (HGB.out _ hg); have c3w : w1.cell? ⟨b, 3, none⟩ = some (.slice Ac f.f3.length cc) := blk_cell hbw.out 3; have f3w := blk_frozen hbw.out 3)
    | fail)
  all_goals
    rw [show (rows ++ [[Value.bool true, Value.int .i64 z, Value.int .i64 0, Value.slice none 0 0]]).length = rows.length + 1 from by simp] at hat hr
    go_wp2
    go_ret
    refine ⟨_, rfl, rfl, ?_⟩
    exact cut_fin HD.out hm HH.out HN.out HS.out HO.out HC.out HLR.out HFK.out h0 h1 HK.out (grown_drew hg) hat hr hbw.out
def dCut (D : Dsk) (s : ByteArray) (z : Int) : Int × Dsk := match aget s.data.toList D.files with
  | none => (8, D)
  | some f => if z < 0 ∨ (f.f0.length : Int) < z then (2, D) else (0, ⟨D.room, aput s.data.toList ⟨f.f0.take z.toNat, f.f1, f.f2, f.f3 ++ [⟨true, z, 0, []⟩]⟩ D.files⟩)
theorem lift1 {W W2 w' : World} {S : Nat → Prop} {d : Nat} {D : Dsk} (hb : Below W.heap.size W W2) (h : Kp W2 w' (WR W2 S) ∧ DskAt w' (Nw W2 w' S) d D) : Kp W w' (WR W S) ∧ DskAt w' (Nw W w' S) d D :=
  ⟨(Kp.of_below hb (WR W S)).trans h.1 (fun i hi h => ⟨h.1, fun hu => h.2 (hu.of_same (hb.block i hi))⟩), h.2.mono fun k _ hk => by
    rcases hk with hk | hk
    · exact .inl hk
    · exact .inr ⟨Nat.le_trans hb.size hk.1, hk.2⟩⟩
set_option maxRecDepth 100000 in
/-- disk.Cut -/
theorem cut_calls {W : World} {S : Nat → Prop} {d : Nat} {D : Dsk} {s : ByteArray} {z : Int} (h : DskAt W S d D) (hs : s.size ≤ maxLen) (ok : DskOk D) :
    Calls Try.prog 35 #[.pointer (some ⟨d, 0, none⟩), .string s, .int .i64 z] W fun e w' => e = .returned (.int .i64 (dCut D s z).1) ∧ Kp W w' (WR W S) ∧ DskAt w' (Nw W w' S) d (dCut D s z).2 := by
  have hb1 := below_alloc (Below.refl W.heap.size W) (.cells #[.int .i64 z] 3 (0, 0))
  have hh := h.below hb1
  obtain ⟨m, own, T, hin, hD, hg⟩ := hh.in_ s.data.toList
  have cz := blk_new W (.cells #[.int .i64 z] 3 (0, 0))
  cases ha : aget s.data.toList D.files with
  | none =>
    have hr : dCut D s z = (8, D) := by unfold dCut; rw [ha]
    rw [hr]
    have hc := gone_cut (caps := #[.pointer (some ⟨W.heap.size, 0, none⟩)]) hin hs (tb_none (hg.symm.trans ha))
    have HC := Aside0.mk hc
    have HF := Aside0.mk (lift1 hb1 ⟨Kp.refl _ _, hh.mono (fun _ _ h => .inl h)⟩)
    clear hr ha hg hD hin hc h hh hb1 cz ok
    go_enter Try.func35, Try.ntmps35
    go_wp2_with fail
    refine HC.out.mono ?_
    rintro e w' ⟨rfl, rfl⟩
    go_wp2
    go_ret
    exact ⟨rfl, HF.out⟩
  | some f =>
    obtain ⟨b, hb⟩ := tb_some (hg.symm.trans ha)
    have hcK : ∃ R, dCut D s z = R ∧ Calls Try.prog 77 (#[.pointer (some ⟨b, 0, none⟩)] ++ #[.pointer (some ⟨W.heap.size, 0, none⟩)]) (W.alloc (.cells #[.int .i64 z] 3 (0, 0))) fun e w' => ∃ r, e = .returned (.int .i64 r) ∧ r = R.1 ∧
          Kp (W.alloc (.cells #[.int .i64 z] 3 (0, 0))) w' (WR (W.alloc (.cells #[.int .i64 z] 3 (0, 0))) S) ∧ DskAt w' (Nw (W.alloc (.cells #[.int .i64 z] 3 (0, 0))) w' S) d R.2 := by
      by_cases hbad : z < 0 ∨ (f.f0.length : Int) < z
      · refine ⟨(2, D), by unfold dCut; rw [ha]; simp only; rw [if_pos hbad], ?_⟩
        have := cut0 (hin.2.2.2.2.2.1 _ _ _ (aget_mem hb)) (blk_cell cz 0) hbad
        refine (show Calls Try.prog 77 _ _ _ from this).mono ?_
        rintro e w' ⟨r, rfl, rfl, k, rfl⟩
        exact ⟨_, rfl, rfl, (Kp.refl _ _).drewN k, (hh.step (fun _ _ h => .inl h) (fun _ _ _ => rfl))⟩
      · refine ⟨(0, ⟨D.room, aput s.data.toList ⟨f.f0.take z.toNat, f.f1, f.f2, f.f3 ++ [⟨true, z, 0, []⟩]⟩ D.files⟩), by unfold dCut; rw [ha]; simp only; rw [if_neg hbad], ?_⟩
        have := cut1 hin (aget_mem hb) cz (by omega) (by omega) (by have := (mem_ok ok ha).2.2.1; omega)
        rw [← hD]
        refine (show Calls Try.prog 77 _ _ _ from this).mono ?_
        rintro e w' ⟨r, rfl, rfl, hk, hd⟩
        exact ⟨_, rfl, rfl, hk, _, _, _, hd, tfil_put⟩
    obtain ⟨R, hR, hK⟩ := hcK
    rw [hR]
    have hc := with_cut hin hs hb hK
    have HC := Aside0.mk hc
    have HB := Aside0.mk hb1
    clear ha hg hin hc h hD hb hh hb1 hK hR cz ok
    go_enter Try.func35, Try.ntmps35
    go_wp2_with fail
    refine HC.out.mono ?_
    rintro e w' ⟨r, rfl, rfl, hk, hd⟩
    have HF := Aside0.mk (lift1 HB.out ⟨hk, hd⟩)
    clear hk hd
    go_wp2
    go_ret
    exact ⟨rfl, HF.out⟩
end Go.Proofs.Ytmmiipnmimjojaa.PS
