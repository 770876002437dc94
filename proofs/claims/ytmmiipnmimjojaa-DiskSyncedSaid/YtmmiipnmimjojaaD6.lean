/- disk.Sync, Remove, Read, Sure. -/
import Derived.Test.YtmmiipnmimjojaaD5
import Derived.Deep.RegionHeld3
import Derived.Deep.DrawnRows
namespace Go.Proofs.Ytmmiipnmimjojaa.PS
open Go.RowKit Go.Proofs.YtmmiipnmimjojaaW.PrintWords Go.Proofs.YtmmiipnmimjojaaW.PrintLast Go.Proofs.YtmmiipnmimjojaaW.PrintMore
open Go.Maps Go.Proofs.Ytmmiipnmimjojaa.PD
attribute [local go_sem ↓] Go.wp_at_zero Go.wp_at_succ
set_option linter.unusedVariables false
set_option linter.unusedSimpArgs false
/-- What the disk is asked to bear: rows that no append passes. -/
def FilOk (f : Fil) : Prop := f.f0.length ≤ 1000000 ∧ f.f1.length ≤ 1000000 ∧ f.f3.length ≤ 1000000 ∧ ∀ c ∈ f.f3, c.f3.length ≤ 1000000
def DskOk (D : Dsk) : Prop := (0 ≤ D.room ∧ D.room ≤ 9223372036854775807) ∧ D.files.length ≤ 100 ∧ ∀ p ∈ D.files, FilOk p.2
def dSync (D : Dsk) (s : ByteArray) : Int × Dsk := match aget s.data.toList D.files with
  | none => (8, D)
  | some f => (0, ⟨D.room, aput s.data.toList ⟨f.f0, f.f0, true, []⟩ D.files⟩)
theorem mem_ok {D : Dsk} (h : DskOk D) {n : Nm} {f : Fil} (hg : aget n D.files = some f) : FilOk f := h.2.2 _ (aget_mem hg)
theorem tb_some {T : Tb} {n : Nm} {f : Fil} (h : ((aget n T).map fun e => e.2) = some f) : ∃ b, aget n T = some (b, f) := by
  obtain ⟨e, he, rfl⟩ := Option.map_eq_some_iff.1 h
  exact ⟨e.1, he⟩
theorem tb_none {T : Tb} {n : Nm} (h : ((aget n T).map fun e : Nat × Fil => e.2) = none) : aget n T = none := by simpa using h
set_option maxRecDepth 100000 in
/-- disk.Sync -/
theorem sync_calls {W : World} {S : Nat → Prop} {d : Nat} {D : Dsk} {s : ByteArray} (h : DskAt W S d D) (hs : s.size ≤ maxLen) (ok : DskOk D) :
    Calls Try.prog 21 #[.pointer (some ⟨d, 0, none⟩), .string s] W fun e w' => e = .returned (.int .i64 (dSync D s).1) ∧ Kp W w' (WR W S) ∧ DskAt w' (Nw W w' S) d (dSync D s).2 := by
  obtain ⟨m, own, T, hin, hD, hg⟩ := h.in_ s.data.toList
  cases ha : aget s.data.toList D.files with
  | none =>
    have hr : dSync D s = (8, D) := by unfold dSync; rw [ha]
    rw [hr]
    have hc := gone_sync (caps := #[]) hin hs (tb_none (hg.symm.trans ha))
    have HC := Aside0.mk hc
    have H := Aside0.mk h
    clear hr ha hg hD hin hc h
    go_enter Try.func21, Try.ntmps21
    go_wp2_with fail
    refine HC.out.mono ?_
    rintro e w' ⟨rfl, rfl⟩
    go_wp2
    go_ret
    exact ⟨rfl, Kp.refl _ _, H.out.mono (fun _ _ h => .inl h)⟩
  | some f =>
    have hr : dSync D s = (0, ⟨D.room, aput s.data.toList ⟨f.f0, f.f0, true, []⟩ D.files⟩) := by unfold dSync; rw [ha]
    rw [hr]
    obtain ⟨b, hb⟩ := tb_some (hg.symm.trans ha)
    have hok := mem_ok ok ha
    have hc := with_sync (caps := #[]) hin hs hb (by simpa using sync1 hin (aget_mem hb) (by have := hok.1; omega))
    rw [← hD]
    have HC := Aside0.mk hc
    clear hr ha hg hin hc h hD hb hok ok
    go_enter Try.func21, Try.ntmps21
    go_wp2_with fail
    refine HC.out.mono ?_
    rintro e w' ⟨r, rfl, rfl, hk, hd⟩
    have HK := Aside0.mk hk
    have HD := Aside0.mk hd
    clear hk hd
    go_wp2
    go_ret
    exact ⟨rfl, HK.out, _, _, _, HD.out, tfil_put⟩
theorem setCell_ne {W : World} {a p : Addr} {v u : Value} (h : W.cell? a = some v) (hne : a.block ≠ p.block) : (W.setCell p u).cell? a = some v :=
  (World.cell?_of_block (w := W) (Below.heap_setCell W p u a.block hne)).trans h
/-- What a told row holds: bytes of the call's own. -/
structure Told (W w' : World) (v : Value) (l : List Int) : Prop where
  R : k8.R 5 w' W.heap.size (fun _ => True) v l
theorem told_fin {W W1 w1 : World} {rb : Nat} {v : Value} {l : List Int} (h : W.heap[rb]? = some (.cells #[.slice none 0 0] 22 (0, 0))) (hr : k8.R 5 w1 W1.heap.size (fun _ => True) v l) (hb : Below W.heap.size W w1) (hsz : W.heap.size ≤ W1.heap.size) (hlt : rb < W.heap.size) :
    Told W (w1.setCell ⟨rb, 0, none⟩ v) v l ∧ (w1.setCell ⟨rb, 0, none⟩ v).heap[rb]? = some (.cells #[v] 22 (0, 0)) ∧ Kp W (w1.setCell ⟨rb, 0, none⟩ v) (fun k => k = rb) := by
  refine ⟨⟨?_⟩, blk_set ((hb.block _ hlt).trans h) 0 v, (Kp.of_below hb (fun k => k = rb)).setCell (p := ⟨rb, 0, none⟩) (.inl rfl) v⟩
  have hr' := Kd.R_lower hr hsz
  exact Kd.R_mono (Kd.R_far (p := ⟨rb, 0, none⟩) (Kd.R_bound hr') (fun k hk => by have := hk.2.1; dsimp only; omega) v) (fun _ _ => trivial)
set_option maxHeartbeats 1000000 in
set_option maxRecDepth 100000 in
theorem read1 {W : World} {S : Nat → Prop} {own : Nat → Nat} {b rb : Nat} {f : Fil} (hf : FilAt W S own b f) (hl : f.f0.length ≤ 140737488355328) (hrb : W.heap[rb]? = some (.cells #[.slice none 0 0] 22 (0, 0))) :
    Calls Try.prog 63 #[.pointer (some ⟨b, 0, none⟩), .pointer (some ⟨rb, 0, none⟩)] W fun e w' => ∃ r, e = .returned (.int .i64 r) ∧ r = 0 ∧ ∃ v, Told W w' v f.f0 ∧ w'.heap[rb]? = some (.cells #[v] 22 (0, 0)) ∧ Kp W w' (fun k => k = rb) := by
  obtain ⟨hSb, hob, vn, vs, vc, hh, hn, _⟩ := hf
  obtain ⟨An, cn, rfl⟩ := Kd.V_slice hn
  have hle := (Kd.V_reads' hn).2.1
  have q0 : W.cell? ⟨b, 0, none⟩ = some (.slice An f.f0.length cn) := blk_cell hh 0
  have hbl := blk_lt hh
  have hrl := blk_lt hrb
  have hne : b ≠ rb := fun e => by
    subst e
    rw [hh] at hrb
    injection hrb with hrb
    injection hrb with _ hrb _
    cases hrb
  have hcall : ∀ W1, Below W.heap.size W W1 → Calls Try.prog 59 #[.slice An f.f0.length f.f0.length] W1 fun e w' => ∃ A1 c1, e = .returned (.slice A1 f.f0.length c1) ∧ w'.cell? ⟨b, 0, none⟩ = some (.slice An f.f0.length cn) ∧ w'.cell? ⟨rb, 0, none⟩ = some (.slice none 0 0) ∧ w'.frozen? ⟨rb, 0, none⟩ = false ∧
      Aside0 (k8.R 5 w' W1.heap.size (fun _ => True) (.slice A1 f.f0.length c1) f.f0 ∧ Below W.heap.size W w') := fun W1 hW => by
    refine (clone8 An f.f0.length f.f0 W1 (Kd.C_below (Kd.V_reads' hn).2.2 hW) hl).mono ?_
    rintro e w' ⟨v1, rfl, hr, hb⟩
    obtain ⟨A1, c1, rfl⟩ := Kd.R_slice hr
    have hb2 := below_step hW hb
    have h1 := (hb2.block _ hbl).trans hh
    have h2 := (hb2.block _ hrl).trans hrb
    exact ⟨A1, c1, rfl, blk_cell h1 0, blk_cell h2 0, blk_frozen h2 0, ⟨hr, hb2⟩⟩
  have HC := Aside0.mk hcall
  have HRB := Aside0.mk hrb
  have p0 : W.cell? ⟨rb, 0, none⟩ = some (.slice none 0 0) := blk_cell hrb 0
  clear hcall hn hh hrb
  go_enter Try.func63, Try.ntmps63
  go_wp2_with fail
  go_region_held3 (fun w' => w'.cell? ⟨b, 0, none⟩ = some (.slice An f.f0.length cn)) (first | assumption | go_keep | (refine setCell_ne ?_ hne; assumption))
    ((go_at_call 59; refine (HC.out _ (below_drew1 (Below.refl _ _))).mono ?_; rintro e w1 ⟨A1, c1, rfl, hq0, hq1, hq2, hx⟩))
  go_wp2
  go_ret
  exact ⟨_, rfl, rfl, _, told_fin HRB.out hx.out.1 hx.out.2 (Nat.le_refl _) hrl⟩
def dRead (D : Dsk) (s : ByteArray) : List Int × Int := match aget s.data.toList D.files with
  | none => ([], 8)
  | some f => (f.f0, 0)
def dSure (D : Dsk) (s : ByteArray) : List Int × Int := match aget s.data.toList D.files with
  | none => ([], 8)
  | some f => if f.f2 = true then (f.f1, 0) else ([], 8)
set_option maxRecDepth 100000 in
theorem sure1 {W : World} {S : Nat → Prop} {own : Nat → Nat} {b rb : Nat} {f : Fil} (hf : FilAt W S own b f) (hl : f.f1.length ≤ 140737488355328) (hrb : W.heap[rb]? = some (.cells #[.slice none 0 0] 22 (0, 0))) (hb : f.f2 = true) :
    Calls Try.prog 88 #[.pointer (some ⟨b, 0, none⟩), .pointer (some ⟨rb, 0, none⟩)] W fun e w' => ∃ r, e = .returned (.int .i64 r) ∧ r = 0 ∧ ∃ v, Told W w' v f.f1 ∧ w'.heap[rb]? = some (.cells #[v] 22 (0, 0)) ∧ Kp W w' (fun k => k = rb) := by
  obtain ⟨hSb, hob, vn, vs, vc, hh, _, hs, _⟩ := hf
  obtain ⟨As, cs, rfl⟩ := Kd.V_slice hs
  have q1 : W.cell? ⟨b, 1, none⟩ = some (.slice As f.f1.length cs) := blk_cell hh 1
  have q2 : W.cell? ⟨b, 2, none⟩ = some (.bool true) := by rw [← hb]; exact blk_cell hh 2
  have hrl := blk_lt hrb
  have HRB := Aside0.mk hrb
  have HS := Aside0.mk hs
  clear hrb hs hh hb
  go_enter Try.func88, Try.ntmps88
  go_wp2_with fail
  refine (clone8 As cs f.f1 W (Kd.V_reads' HS.out).2.2 hl).mono ?_
  rintro e w1 ⟨v1, rfl, hr, hb⟩
  obtain ⟨A1, c1, rfl⟩ := Kd.R_slice hr
  have h2 := (hb.block _ hrl).trans HRB.out
  have c0 : w1.cell? ⟨rb, 0, none⟩ = some (.slice none 0 0) := blk_cell h2 0
  have f0 := blk_frozen h2 0
  have HR := Aside0.mk hr
  have HB := Aside0.mk hb
  clear hr hb h2
  go_wp2
  go_ret
  exact ⟨_, rfl, rfl, _, told_fin HRB.out HR.out HB.out (Nat.le_refl _) hrl⟩
set_option maxRecDepth 100000 in
theorem sure0 {W : World} {S : Nat → Prop} {own : Nat → Nat} {b : Nat} {rb : Addr} {f : Fil} (hf : FilAt W S own b f) (hb : f.f2 = false) :
    Calls Try.prog 88 #[.pointer (some ⟨b, 0, none⟩), .pointer (some rb)] W fun e w' => ∃ r, e = .returned (.int .i64 r) ∧ r = 8 ∧ w' = W := by
  obtain ⟨hSb, hob, vn, vs, vc, hh, _, hs, _⟩ := hf
  have q2 : W.cell? ⟨b, 2, none⟩ = some (.bool false) := by rw [← hb]; exact blk_cell hh 2
  clear hs hh hb
  go_enter Try.func88, Try.ntmps88
  go_wp2
  go_ret
  exact ⟨_, rfl, rfl, rfl⟩
theorem told_step {W W1 w' : World} {v : Value} {l : List Int} (h : Told W1 w' v l) (hb : W.heap.size ≤ W1.heap.size) : Told W w' v l := ⟨Kd.R_lower h.R hb⟩
theorem told_nil (W w' : World) : Told W w' (.slice none 0 0) [] := ⟨Kd.R_nil _ _ _ _ _⟩
theorem told_set {W w' : World} {v : Value} {l : List Int} {rb i : Nat} {u : Value} (h : Told W w' v l) (hrb : rb < W.heap.size ∨ ∃ cs t, t ≠ 5 ∧ w'.heap[rb]? = some (.cells cs t (0, 0))) : Told W (w'.setCell ⟨rb, i, none⟩ u) v l := by
  refine ⟨Kd.R_mono (Kd.R_far (p := ⟨rb, i, none⟩) (Kd.R_bound h.R) (fun k hk => ?_) u) (fun _ _ => trivial)⟩
  obtain ⟨_, hb, _, q, hq, cs, hc⟩ := hk
  dsimp only
  rintro rfl
  rcases hrb with h1 | ⟨cs', t, ht, h2⟩
  · omega
  · rw [hc] at h2
    injection h2 with h2
    injection h2 with _ h2 _
    rcases List.mem_cons.1 hq with e | e
    · exact ht (h2.symm.trans e)
    · cases e
/-- What a call that tells bytes leaves. -/
theorem rd_fin {W w' : World} {S : Nat → Prop} {d : Nat} {D : Dsk} {v : Value} {l : List Int} {o : Obj} (h : DskAt W S d D) (hk : Kp (W.alloc o) w' (fun k => k = W.heap.size)) (ht : Told (W.alloc o) w' v l) (hr : w'.heap[W.heap.size]? = some (.cells #[v] 22 (0, 0))) :
    Told W (w'.setCell ⟨W.heap.size, 0, none⟩ v) v l ∧ Below W.heap.size W (w'.setCell ⟨W.heap.size, 0, none⟩ v) := by
  have h1 : Below W.heap.size W (W.alloc o) := below_alloc (Below.refl _ _) o
  have h2 : (W.alloc o).heap.size = W.heap.size + 1 := by simp
  refine ⟨told_set (told_step ht (by omega)) (.inr ⟨_, 22, by decide, hr⟩), (h1.trans ?_).setCell (Nat.le_refl _) _⟩
  exact hk.below (fun k e _ => by omega) (by omega)
set_option maxRecDepth 100000 in
/-- disk.Read -/
theorem read_calls {W : World} {S : Nat → Prop} {d : Nat} {D : Dsk} {s : ByteArray} (h : DskAt W S d D) (hs : s.size ≤ maxLen) (ok : DskOk D) :
    Calls Try.prog 23 #[.pointer (some ⟨d, 0, none⟩), .string s] W fun e w' => ∃ v, e = .returned (.tuple #[v, .int .i64 (dRead D s).2]) ∧ Told W w' v (dRead D s).1 ∧ Below W.heap.size W w' := by
  obtain ⟨m, own, T, hin, hD, hg⟩ := (h.below (below_alloc (Below.refl _ _) (.cells #[.slice none 0 0] 22 (0, 0)))).in_ s.data.toList
  have hnew := blk_new W (.cells #[.slice none 0 0] 22 (0, 0))
  have nothing : ∀ {w' : World}, w' = W.alloc (.cells #[.slice none 0 0] 22 (0, 0)) → Told W w' (.slice none 0 0) [] ∧ Below W.heap.size W w' := fun {w'} e => by
    subst e
    exact ⟨told_nil _ _, below_alloc (Below.refl _ _) _⟩
  have HNO := Aside0.mk @nothing
  clear nothing
  cases ha : aget s.data.toList D.files with
  | none =>
    have hr : dRead D s = ([], 8) := by unfold dRead; rw [ha]
    rw [hr]
    have hc := gone_read (caps := #[.pointer (some ⟨W.heap.size, 0, none⟩)]) hin hs (tb_none (hg.symm.trans ha))
    have HC := Aside0.mk hc
    clear hr ha hg hD hin hc h hnew ok
    go_enter Try.func23, Try.ntmps23
    go_wp2_with fail
    refine HC.out.mono ?_
    rintro e w' ⟨rfl, rfl⟩
    go_wp2
    exact bodyPost_ret (v := .tuple #[.slice none 0 0, .int .i64 8]) (by simp [results, Try.results23, go_sem]) rfl ⟨_, rfl, HNO.out rfl⟩
  | some f =>
    obtain ⟨b, hb⟩ := tb_some (hg.symm.trans ha)
    have hok := mem_ok ok ha
    have hfa := hin.2.2.2.2.2.1 _ _ _ (aget_mem hb)
    have hr : dRead D s = (f.f0, 0) := by unfold dRead; rw [ha]
    rw [hr]
    have hc := with_read (caps := #[.pointer (some ⟨W.heap.size, 0, none⟩)]) hin hs hb (by simpa using read1 hfa (by have := hok.1; omega) hnew)
    have HC := Aside0.mk hc
    have H := Aside0.mk h
    clear hr ha hg hin hc h hD hb hok ok hfa hnew HNO
    go_enter Try.func23, Try.ntmps23
    go_wp2_with fail
    refine HC.out.mono ?_
    rintro e w' ⟨r, rfl, rfl, v1, ht, hb1, hk⟩
    obtain ⟨A1, c1, rfl⟩ := Kd.R_slice ht.R
    have c0 : w'.cell? ⟨W.heap.size, 0, none⟩ = some (.slice A1 f.f0.length c1) := blk_cell hb1 0
    have f0 := blk_frozen hb1 0
    have HF := Aside0.mk (rd_fin H.out hk ht hb1)
    have HB1 := Aside0.mk hb1
    clear ht hk hb1
    go_wp2
    have c1' : (w'.setCell ⟨W.heap.size, 0, none⟩ (.slice A1 f.f0.length c1)).cell? ⟨W.heap.size, 0, none⟩ = some (.slice A1 f.f0.length c1) := blk_cell (blk_set HB1.out 0 _) 0
    exact bodyPost_ret (v := .tuple #[.slice A1 f.f0.length c1, .int .i64 0]) (by simp [results, Try.results23, go_sem, c1']) rfl ⟨_, rfl, HF.out⟩
set_option maxRecDepth 100000 in
/-- disk.Sure -/
theorem sure_calls {W : World} {S : Nat → Prop} {d : Nat} {D : Dsk} {s : ByteArray} (h : DskAt W S d D) (hs : s.size ≤ maxLen) (ok : DskOk D) :
    Calls Try.prog 40 #[.pointer (some ⟨d, 0, none⟩), .string s] W fun e w' => ∃ v, e = .returned (.tuple #[v, .int .i64 (dSure D s).2]) ∧ Told W w' v (dSure D s).1 ∧ Below W.heap.size W w' := by
  obtain ⟨m, own, T, hin, hD, hg⟩ := (h.below (below_alloc (Below.refl _ _) (.cells #[.slice none 0 0] 22 (0, 0)))).in_ s.data.toList
  have hnew := blk_new W (.cells #[.slice none 0 0] 22 (0, 0))
  have nothing : ∀ {w' : World}, w' = W.alloc (.cells #[.slice none 0 0] 22 (0, 0)) → Told W w' (.slice none 0 0) [] ∧ Below W.heap.size W w' := fun {w'} e => by
    subst e
    exact ⟨told_nil _ _, below_alloc (Below.refl _ _) _⟩
  have HNO := Aside0.mk @nothing
  clear nothing
  cases ha : aget s.data.toList D.files with
  | none =>
    have hr : dSure D s = ([], 8) := by unfold dSure; rw [ha]
    rw [hr]
    have hc := gone_sure (caps := #[.pointer (some ⟨W.heap.size, 0, none⟩)]) hin hs (tb_none (hg.symm.trans ha))
    have HC := Aside0.mk hc
    clear hr ha hg hD hin hc h hnew ok
    go_enter Try.func40, Try.ntmps40
    go_wp2_with fail
    refine HC.out.mono ?_
    rintro e w' ⟨rfl, rfl⟩
    go_wp2
    exact bodyPost_ret (v := .tuple #[.slice none 0 0, .int .i64 8]) (by simp [results, Try.results40, go_sem]) rfl ⟨_, rfl, HNO.out rfl⟩
  | some f =>
    obtain ⟨b, hb⟩ := tb_some (hg.symm.trans ha)
    have hok := mem_ok ok ha
    have hfa := hin.2.2.2.2.2.1 _ _ _ (aget_mem hb)
    cases hla : f.f2 with
    | true =>
      have hr : dSure D s = (f.f1, 0) := by unfold dSure; rw [ha]; simp [hla]
      rw [hr]
      have hc := with_sure (caps := #[.pointer (some ⟨W.heap.size, 0, none⟩)]) hin hs hb (by simpa using sure1 hfa (by have := hok.2.1; omega) hnew hla)
      have HC := Aside0.mk hc
      have H := Aside0.mk h
      clear hr ha hg hin hc h hD hb hok ok hfa hnew HNO hla
      go_enter Try.func40, Try.ntmps40
      go_wp2_with fail
      refine HC.out.mono ?_
      rintro e w' ⟨r, rfl, rfl, v1, ht, hb1, hk⟩
      obtain ⟨A1, c1, rfl⟩ := Kd.R_slice ht.R
      have c0 : w'.cell? ⟨W.heap.size, 0, none⟩ = some (.slice A1 f.f1.length c1) := blk_cell hb1 0
      have f0 := blk_frozen hb1 0
      have HF := Aside0.mk (rd_fin H.out hk ht hb1)
      have HB1 := Aside0.mk hb1
      clear ht hk hb1
      go_wp2
      have c1' : (w'.setCell ⟨W.heap.size, 0, none⟩ (.slice A1 f.f1.length c1)).cell? ⟨W.heap.size, 0, none⟩ = some (.slice A1 f.f1.length c1) := blk_cell (blk_set HB1.out 0 _) 0
      exact bodyPost_ret (v := .tuple #[.slice A1 f.f1.length c1, .int .i64 0]) (by simp [results, Try.results40, go_sem, c1']) rfl ⟨_, rfl, HF.out⟩
    | false =>
      have hr : dSure D s = ([], 8) := by unfold dSure; rw [ha]; simp [hla]
      rw [hr]
      have hc := with_sure (caps := #[.pointer (some ⟨W.heap.size, 0, none⟩)]) hin hs hb (by simpa using sure0 hfa hla)
      have HC := Aside0.mk hc
      clear hr ha hg hin hc h hD hb hok ok hfa hnew hla
      go_enter Try.func40, Try.ntmps40
      go_wp2_with fail
      refine HC.out.mono ?_
      rintro e w' ⟨r, rfl, rfl, rfl⟩
      go_wp2
      exact bodyPost_ret (v := .tuple #[.slice none 0 0, .int .i64 8]) (by simp [results, Try.results40, go_sem]) rfl ⟨_, rfl, HNO.out rfl⟩
end Go.Proofs.Ytmmiipnmimjojaa.PS
