/- The texts of this claim's seat, joined: part 6. -/
import Derived.Test.YtmmiipnmimjojaaJ5
import Derived.Deep.RegionHeld3
import Derived.Deep.DrawnRows
import Derived.Deep.RegionLaw
section
namespace Go.Proofs.Ytmmiipnmimjojaa.PS
open Go.RowKit Go.Proofs.YtmmiipnmimjojaaW.PrintWords Go.Proofs.YtmmiipnmimjojaaW.PrintLast Go.Proofs.YtmmiipnmimjojaaW.PrintMore
open Go.Maps Go.Proofs.Ytmmiipnmimjojaa.PD
attribute [local go_sem ↓] Go.wp_at_zero Go.wp_at_succ
set_option linter.unusedVariables false
set_option linter.unusedSimpArgs false
/-- What the disk is asked to bear: rows that no append passes. -/
def FilOk (f : Fil) : Prop := f.f0.length ≤ 1000000 ∧ f.f1.length ≤ 1000000 ∧ f.f3.length ≤ 1000000 ∧ ∀ c ∈ f.f3, c.f3.length ≤ 1000000
def DskOk (D : Dsk) : Prop := (0 ≤ D.room ∧ D.room ≤ 9223372036854775807) ∧ D.files.length ≤ 100 ∧ ∀ p ∈ D.files, FilOk p.2
def dSync (D : Dsk) (s : ByteArray) : Int × Dsk := match aget s.data.toList D.files with
  | none => (8, D)
  | some f => (0, ⟨D.room, aput s.data.toList ⟨f.f0, f.f0, true, []⟩ D.files⟩)
theorem mem_ok {D : Dsk} (h : DskOk D) {n : Nm} {f : Fil} (hg : aget n D.files = some f) : FilOk f := h.2.2 _ (aget_mem hg)
theorem tb_some {T : Tb} {n : Nm} {f : Fil} (h : ((aget n T).map fun e => e.2) = some f) : ∃ b, aget n T = some (b, f) := by
  obtain ⟨e, he, rfl⟩ := Option.map_eq_some_iff.1 h
  exact ⟨e.1, he⟩
theorem tb_none {T : Tb} {n : Nm} (h : ((aget n T).map fun e : Nat × Fil => e.2) = none) : aget n T = none := by simpa using h
set_option maxRecDepth 100000 in
/-- disk.Sync -/
theorem sync_calls {W : World} {S : Nat → Prop} {d : Nat} {D : Dsk} {s : ByteArray} (h : DskAt W S d D) (hs : s.size ≤ maxLen) (ok : DskOk D) :
    Calls Try.prog 21 #[.pointer (some ⟨d, 0, none⟩), .string s] W fun e w' => e = .returned (.int .i64 (dSync D s).1) ∧ Kp W w' (WR W S) ∧ DskAt w' (Nw W w' S) d (dSync D s).2 := by
  obtain ⟨m, own, T, hin, hD, hg⟩ := h.in_ s.data.toList
  cases ha : aget s.data.toList D.files with
  | none =>
    have hr : dSync D s = (8, D) := by unfold dSync; rw [ha]
    rw [hr]
    have hc := gone_sync (caps := #[]) hin hs (tb_none (hg.symm.trans ha))
    have HC := Aside0.mk hc
    have H := Aside0.mk h
    clear hr ha hg hD hin hc h
    go_enter Try.func21, Try.ntmps21
    go_wp2_with fail
    refine HC.out.mono ?_
    rintro e w' ⟨rfl, rfl⟩
    go_wp2
    go_ret
    exact ⟨rfl, Kp.refl _ _, H.out.mono (fun _ _ h => .inl h)⟩
  | some f =>
    have hr : dSync D s = (0, ⟨D.room, aput s.data.toList ⟨f.f0, f.f0, true, []⟩ D.files⟩) := by unfold dSync; rw [ha]
    rw [hr]
    obtain ⟨b, hb⟩ := tb_some (hg.symm.trans ha)
    have hok := mem_ok ok ha
    have hc := with_sync (caps := #[]) hin hs hb (by simpa using sync1 hin (aget_mem hb) (by have := hok.1; omega))
    rw [← hD]
    have HC := Aside0.mk hc
    clear hr ha hg hin hc h hD hb hok ok
    go_enter Try.func21, Try.ntmps21
    go_wp2_with fail
    refine HC.out.mono ?_
    rintro e w' ⟨r, rfl, rfl, hk, hd⟩
    have HK := Aside0.mk hk
    have HD := Aside0.mk hd
    clear hk hd
    go_wp2
    go_ret
    exact ⟨rfl, HK.out, _, _, _, HD.out, tfil_put⟩
theorem setCell_ne {W : World} {a p : Addr} {v u : Value} (h : W.cell? a = some v) (hne : a.block ≠ p.block) : (W.setCell p u).cell? a = some v :=
  (World.cell?_of_block (w := W) (Below.heap_setCell W p u a.block hne)).trans h
/-- What a told row holds: bytes of the call's own. -/
structure Told (W w' : World) (v : Value) (l : List Int) : Prop where
  R : k8.R 5 w' W.heap.size (fun _ => True) v l
theorem told_fin {W W1 w1 : World} {rb : Nat} {v : Value} {l : List Int} (h : W.heap[rb]? = some (.cells #[.slice none 0 0] 22 (0, 0))) (hr : k8.R 5 w1 W1.heap.size (fun _ => True) v l) (hb : Below W.heap.size W w1) (hsz : W.heap.size ≤ W1.heap.size) (hlt : rb < W.heap.size) :
    Told W (w1.setCell ⟨rb, 0, none⟩ v) v l ∧ (w1.setCell ⟨rb, 0, none⟩ v).heap[rb]? = some (.cells #[v] 22 (0, 0)) ∧ Kp W (w1.setCell ⟨rb, 0, none⟩ v) (fun k => k = rb) := by
  refine ⟨⟨?_⟩, blk_set ((hb.block _ hlt).trans h) 0 v, (Kp.of_below hb (fun k => k = rb)).setCell (p := ⟨rb, 0, none⟩) (.inl rfl) v⟩
  have hr' := Kd.R_lower hr hsz
  exact Kd.R_mono (Kd.R_far (p := ⟨rb, 0, none⟩) (Kd.R_bound hr') (fun k hk => by have := hk.2.1; dsimp only; omega) v) (fun _ _ => trivial)
set_option maxHeartbeats 1000000 in
set_option maxRecDepth 100000 in
theorem read1 {W : World} {S : Nat → Prop} {own : Nat → Nat} {b rb : Nat} {f : Fil} (hf : FilAt W S own b f) (hl : f.f0.length ≤ 140737488355328) (hrb : W.heap[rb]? = some (.cells #[.slice none 0 0] 22 (0, 0))) :
    Calls Try.prog 63 #[.pointer (some ⟨b, 0, none⟩), .pointer (some ⟨rb, 0, none⟩)] W fun e w' => ∃ r, e = .returned (.int .i64 r) ∧ r = 0 ∧ ∃ v, Told W w' v f.f0 ∧ w'.heap[rb]? = some (.cells #[v] 22 (0, 0)) ∧ Kp W w' (fun k => k = rb) := by
  obtain ⟨hSb, hob, vn, vs, vc, hh, hn, _⟩ := hf
  obtain ⟨An, cn, rfl⟩ := Kd.V_slice hn
  have hle := (Kd.V_reads' hn).2.1
  have q0 : W.cell? ⟨b, 0, none⟩ = some (.slice An f.f0.length cn) := blk_cell hh 0
  have hbl := blk_lt hh
  have hrl := blk_lt hrb
  have hne : b ≠ rb := fun e => by
    subst e
    rw [hh] at hrb
    injection hrb with hrb
    injection hrb with _ hrb _
    cases hrb
  have hcall : ∀ W1, Below W.heap.size W W1 → Calls Try.prog 59 #[.slice An f.f0.length f.f0.length] W1 fun e w' => ∃ A1 c1, e = .returned (.slice A1 f.f0.length c1) ∧ w'.cell? ⟨b, 0, none⟩ = some (.slice An f.f0.length cn) ∧ w'.cell? ⟨rb, 0, none⟩ = some (.slice none 0 0) ∧ w'.frozen? ⟨rb, 0, none⟩ = false ∧
      Aside0 (k8.R 5 w' W1.heap.size (fun _ => True) (.slice A1 f.f0.length c1) f.f0 ∧ Below W.heap.size W w') := fun W1 hW => by
    refine (clone8 An f.f0.length f.f0 W1 (Kd.C_below (Kd.V_reads' hn).2.2 hW) hl).mono ?_
    rintro e w' ⟨v1, rfl, hr, hb⟩
    obtain ⟨A1, c1, rfl⟩ := Kd.R_slice hr
    have hb2 := below_step hW hb
    have h1 := (hb2.block _ hbl).trans hh
    have h2 := (hb2.block _ hrl).trans hrb
    exact ⟨A1, c1, rfl, blk_cell h1 0, blk_cell h2 0, blk_frozen h2 0, ⟨hr, hb2⟩⟩
  have HC := Aside0.mk hcall
  have HRB := Aside0.mk hrb
  have p0 : W.cell? ⟨rb, 0, none⟩ = some (.slice none 0 0) := blk_cell hrb 0
  clear hcall hn hh hrb
  go_enter Try.func63, Try.ntmps63
  go_wp2_with fail
  go_region_held3 (fun w' => w'.cell? ⟨b, 0, none⟩ = some (.slice An f.f0.length cn)) (first | assumption | go_keep | (refine setCell_ne ?_ hne; assumption))
    ((go_at_call 59; refine (HC.out _ (below_drew1 (Below.refl _ _))).mono ?_; rintro e w1 ⟨A1, c1, rfl, hq0, hq1, hq2, hx⟩))
  go_wp2
  go_ret
  exact ⟨_, rfl, rfl, _, told_fin HRB.out hx.out.1 hx.out.2 (Nat.le_refl _) hrl⟩
def dRead (D : Dsk) (s : ByteArray) : List Int × Int := match aget s.data.toList D.files with
  | none => ([], 8)
  | some f => (f.f0, 0)
def dSure (D : Dsk) (s : ByteArray) : List Int × Int := match aget s.data.toList D.files with
  | none => ([], 8)
  | some f => if f.f2 = true then (f.f1, 0) else ([], 8)
set_option maxRecDepth 100000 in
theorem sure1 {W : World} {S : Nat → Prop} {own : Nat → Nat} {b rb : Nat} {f : Fil} (hf : FilAt W S own b f) (hl : f.f1.length ≤ 140737488355328) (hrb : W.heap[rb]? = some (.cells #[.slice none 0 0] 22 (0, 0))) (hb : f.f2 = true) :
    Calls Try.prog 88 #[.pointer (some ⟨b, 0, none⟩), .pointer (some ⟨rb, 0, none⟩)] W fun e w' => ∃ r, e = .returned (.int .i64 r) ∧ r = 0 ∧ ∃ v, Told W w' v f.f1 ∧ w'.heap[rb]? = some (.cells #[v] 22 (0, 0)) ∧ Kp W w' (fun k => k = rb) := by
  obtain ⟨hSb, hob, vn, vs, vc, hh, _, hs, _⟩ := hf
  obtain ⟨As, cs, rfl⟩ := Kd.V_slice hs
  have q1 : W.cell? ⟨b, 1, none⟩ = some (.slice As f.f1.length cs) := blk_cell hh 1
  have q2 : W.cell? ⟨b, 2, none⟩ = some (.bool true) := by rw [← hb]; exact blk_cell hh 2
  have hrl := blk_lt hrb
  have HRB := Aside0.mk hrb
  have HS := Aside0.mk hs
  clear hrb hs hh hb
  go_enter Try.func88, Try.ntmps88
  go_wp2_with fail
  refine (clone8 As cs f.f1 W (Kd.V_reads' HS.out).2.2 hl).mono ?_
  rintro e w1 ⟨v1, rfl, hr, hb⟩
  obtain ⟨A1, c1, rfl⟩ := Kd.R_slice hr
  have h2 := (hb.block _ hrl).trans HRB.out
  have c0 : w1.cell? ⟨rb, 0, none⟩ = some (.slice none 0 0) := blk_cell h2 0
  have f0 := blk_frozen h2 0
  have HR := Aside0.mk hr
  have HB := Aside0.mk hb
  clear hr hb h2
  go_wp2
  go_ret
  exact ⟨_, rfl, rfl, _, told_fin HRB.out HR.out HB.out (Nat.le_refl _) hrl⟩
set_option maxRecDepth 100000 in
theorem sure0 {W : World} {S : Nat → Prop} {own : Nat → Nat} {b : Nat} {rb : Addr} {f : Fil} (hf : FilAt W S own b f) (hb : f.f2 = false) :
    Calls Try.prog 88 #[.pointer (some ⟨b, 0, none⟩), .pointer (some rb)] W fun e w' => ∃ r, e = .returned (.int .i64 r) ∧ r = 8 ∧ w' = W := by
  obtain ⟨hSb, hob, vn, vs, vc, hh, _, hs, _⟩ := hf
  have q2 : W.cell? ⟨b, 2, none⟩ = some (.bool false) := by rw [← hb]; exact blk_cell hh 2
  clear hs hh hb
  go_enter Try.func88, Try.ntmps88
  go_wp2
  go_ret
  exact ⟨_, rfl, rfl, rfl⟩
theorem told_step {W W1 w' : World} {v : Value} {l : List Int} (h : Told W1 w' v l) (hb : W.heap.size ≤ W1.heap.size) : Told W w' v l := ⟨Kd.R_lower h.R hb⟩
theorem told_nil (W w' : World) : Told W w' (.slice none 0 0) [] := ⟨Kd.R_nil _ _ _ _ _⟩
theorem told_set {W w' : World} {v : Value} {l : List Int} {rb i : Nat} {u : Value} (h : Told W w' v l) (hrb : rb < W.heap.size ∨ ∃ cs t, t ≠ 5 ∧ w'.heap[rb]? = some (.cells cs t (0, 0))) : Told W (w'.setCell ⟨rb, i, none⟩ u) v l := by
  refine ⟨Kd.R_mono (Kd.R_far (p := ⟨rb, i, none⟩) (Kd.R_bound h.R) (fun k hk => ?_) u) (fun _ _ => trivial)⟩
  obtain ⟨_, hb, _, q, hq, cs, hc⟩ := hk
  dsimp only
  rintro rfl
  rcases hrb with h1 | ⟨cs', t, ht, h2⟩
  · omega
  · rw [hc] at h2
    injection h2 with h2
    injection h2 with _ h2 _
    rcases List.mem_cons.1 hq with e | e
    · exact ht (h2.symm.trans e)
    · cases e
/-- What a call that tells bytes leaves. -/
theorem rd_fin {W w' : World} {S : Nat → Prop} {d : Nat} {D : Dsk} {v : Value} {l : List Int} {o : Obj} (h : DskAt W S d D) (hk : Kp (W.alloc o) w' (fun k => k = W.heap.size)) (ht : Told (W.alloc o) w' v l) (hr : w'.heap[W.heap.size]? = some (.cells #[v] 22 (0, 0))) :
    Told W (w'.setCell ⟨W.heap.size, 0, none⟩ v) v l ∧ Below W.heap.size W (w'.setCell ⟨W.heap.size, 0, none⟩ v) := by
  have h1 : Below W.heap.size W (W.alloc o) := below_alloc (Below.refl _ _) o
  have h2 : (W.alloc o).heap.size = W.heap.size + 1 := by simp
  refine ⟨told_set (told_step ht (by omega)) (.inr ⟨_, 22, by decide, hr⟩), (h1.trans ?_).setCell (Nat.le_refl _) _⟩
  exact hk.below (fun k e _ => by omega) (by omega)
set_option maxRecDepth 100000 in
/-- disk.Read -/
theorem read_calls {W : World} {S : Nat → Prop} {d : Nat} {D : Dsk} {s : ByteArray} (h : DskAt W S d D) (hs : s.size ≤ maxLen) (ok : DskOk D) :
    Calls Try.prog 23 #[.pointer (some ⟨d, 0, none⟩), .string s] W fun e w' => ∃ v, e = .returned (.tuple #[v, .int .i64 (dRead D s).2]) ∧ Told W w' v (dRead D s).1 ∧ Below W.heap.size W w' := by
  obtain ⟨m, own, T, hin, hD, hg⟩ := (h.below (below_alloc (Below.refl _ _) (.cells #[.slice none 0 0] 22 (0, 0)))).in_ s.data.toList
  have hnew := blk_new W (.cells #[.slice none 0 0] 22 (0, 0))
  have nothing : ∀ {w' : World}, w' = W.alloc (.cells #[.slice none 0 0] 22 (0, 0)) → Told W w' (.slice none 0 0) [] ∧ Below W.heap.size W w' := fun {w'} e => by
    subst e
    exact ⟨told_nil _ _, below_alloc (Below.refl _ _) _⟩
  have HNO := Aside0.mk @nothing
  clear nothing
  cases ha : aget s.data.toList D.files with
  | none =>
    have hr : dRead D s = ([], 8) := by unfold dRead; rw [ha]
    rw [hr]
    have hc := gone_read (caps := #[.pointer (some ⟨W.heap.size, 0, none⟩)]) hin hs (tb_none (hg.symm.trans ha))
    have HC := Aside0.mk hc
    clear hr ha hg hD hin hc h hnew ok
    go_enter Try.func23, Try.ntmps23
    go_wp2_with fail
    refine HC.out.mono ?_
    rintro e w' ⟨rfl, rfl⟩
    go_wp2
    exact bodyPost_ret (v := .tuple #[.slice none 0 0, .int .i64 8]) (by simp [results, Try.results23, go_sem]) rfl ⟨_, rfl, HNO.out rfl⟩
  | some f =>
    obtain ⟨b, hb⟩ := tb_some (hg.symm.trans ha)
    have hok := mem_ok ok ha
    have hfa := hin.2.2.2.2.2.1 _ _ _ (aget_mem hb)
    have hr : dRead D s = (f.f0, 0) := by unfold dRead; rw [ha]
    rw [hr]
    have hc := with_read (caps := #[.pointer (some ⟨W.heap.size, 0, none⟩)]) hin hs hb (by simpa using read1 hfa (by have := hok.1; omega) hnew)
    have HC := Aside0.mk hc
    have H := Aside0.mk h
    clear hr ha hg hin hc h hD hb hok ok hfa hnew HNO
    go_enter Try.func23, Try.ntmps23
    go_wp2_with fail
    refine HC.out.mono ?_
    rintro e w' ⟨r, rfl, rfl, v1, ht, hb1, hk⟩
    obtain ⟨A1, c1, rfl⟩ := Kd.R_slice ht.R
    have c0 : w'.cell? ⟨W.heap.size, 0, none⟩ = some (.slice A1 f.f0.length c1) := blk_cell hb1 0
    have f0 := blk_frozen hb1 0
    have HF := Aside0.mk (rd_fin H.out hk ht hb1)
    have HB1 := Aside0.mk hb1
    clear ht hk hb1
    go_wp2
    have c1' : (w'.setCell ⟨W.heap.size, 0, none⟩ (.slice A1 f.f0.length c1)).cell? ⟨W.heap.size, 0, none⟩ = some (.slice A1 f.f0.length c1) := blk_cell (blk_set HB1.out 0 _) 0
    exact bodyPost_ret (v := .tuple #[.slice A1 f.f0.length c1, .int .i64 0]) (by simp [results, Try.results23, go_sem, c1']) rfl ⟨_, rfl, HF.out⟩
set_option maxRecDepth 100000 in
/-- disk.Sure -/
theorem sure_calls {W : World} {S : Nat → Prop} {d : Nat} {D : Dsk} {s : ByteArray} (h : DskAt W S d D) (hs : s.size ≤ maxLen) (ok : DskOk D) :
    Calls Try.prog 40 #[.pointer (some ⟨d, 0, none⟩), .string s] W fun e w' => ∃ v, e = .returned (.tuple #[v, .int .i64 (dSure D s).2]) ∧ Told W w' v (dSure D s).1 ∧ Below W.heap.size W w' := by
  obtain ⟨m, own, T, hin, hD, hg⟩ := (h.below (below_alloc (Below.refl _ _) (.cells #[.slice none 0 0] 22 (0, 0)))).in_ s.data.toList
  have hnew := blk_new W (.cells #[.slice none 0 0] 22 (0, 0))
  have nothing : ∀ {w' : World}, w' = W.alloc (.cells #[.slice none 0 0] 22 (0, 0)) → Told W w' (.slice none 0 0) [] ∧ Below W.heap.size W w' := fun {w'} e => by
    subst e
    exact ⟨told_nil _ _, below_alloc (Below.refl _ _) _⟩
  have HNO := Aside0.mk @nothing
  clear nothing
  cases ha : aget s.data.toList D.files with
  | none =>
    have hr : dSure D s = ([], 8) := by unfold dSure; rw [ha]
    rw [hr]
    have hc := gone_sure (caps := #[.pointer (some ⟨W.heap.size, 0, none⟩)]) hin hs (tb_none (hg.symm.trans ha))
    have HC := Aside0.mk hc
    clear hr ha hg hD hin hc h hnew ok
    go_enter Try.func40, Try.ntmps40
    go_wp2_with fail
    refine HC.out.mono ?_
    rintro e w' ⟨rfl, rfl⟩
    go_wp2
    exact bodyPost_ret (v := .tuple #[.slice none 0 0, .int .i64 8]) (by simp [results, Try.results40, go_sem]) rfl ⟨_, rfl, HNO.out rfl⟩
  | some f =>
    obtain ⟨b, hb⟩ := tb_some (hg.symm.trans ha)
    have hok := mem_ok ok ha
    have hfa := hin.2.2.2.2.2.1 _ _ _ (aget_mem hb)
    cases hla : f.f2 with
    | true =>
      have hr : dSure D s = (f.f1, 0) := by unfold dSure; rw [ha]; simp [hla]
      rw [hr]
      have hc := with_sure (caps := #[.pointer (some ⟨W.heap.size, 0, none⟩)]) hin hs hb (by simpa using sure1 hfa (by have := hok.2.1; omega) hnew hla)
      have HC := Aside0.mk hc
      have H := Aside0.mk h
      clear hr ha hg hin hc h hD hb hok ok hfa hnew HNO hla
      go_enter Try.func40, Try.ntmps40
      go_wp2_with fail
      refine HC.out.mono ?_
      rintro e w' ⟨r, rfl, rfl, v1, ht, hb1, hk⟩
      obtain ⟨A1, c1, rfl⟩ := Kd.R_slice ht.R
      have c0 : w'.cell? ⟨W.heap.size, 0, none⟩ = some (.slice A1 f.f1.length c1) := blk_cell hb1 0
      have f0 := blk_frozen hb1 0
      have HF := Aside0.mk (rd_fin H.out hk ht hb1)
      have HB1 := Aside0.mk hb1
      clear ht hk hb1
      go_wp2
      have c1' : (w'.setCell ⟨W.heap.size, 0, none⟩ (.slice A1 f.f1.length c1)).cell? ⟨W.heap.size, 0, none⟩ = some (.slice A1 f.f1.length c1) := blk_cell (blk_set HB1.out 0 _) 0
      exact bodyPost_ret (v := .tuple #[.slice A1 f.f1.length c1, .int .i64 0]) (by simp [results, Try.results40, go_sem, c1']) rfl ⟨_, rfl, HF.out⟩
    | false =>
      have hr : dSure D s = ([], 8) := by unfold dSure; rw [ha]; simp [hla]
      rw [hr]
      have hc := with_sure (caps := #[.pointer (some ⟨W.heap.size, 0, none⟩)]) hin hs hb (by simpa using sure0 hfa hla)
      have HC := Aside0.mk hc
      clear hr ha hg hin hc h hD hb hok ok hfa hnew hla
      go_enter Try.func40, Try.ntmps40
      go_wp2_with fail
      refine HC.out.mono ?_
      rintro e w' ⟨r, rfl, rfl, rfl⟩
      go_wp2
      exact bodyPost_ret (v := .tuple #[.slice none 0 0, .int .i64 8]) (by simp [results, Try.results40, go_sem]) rfl ⟨_, rfl, HNO.out rfl⟩
end Go.Proofs.Ytmmiipnmimjojaa.PS
end
section
namespace Go.Proofs.Ytmmiipnmimjojaa.PS
open Go.RowKit Go.Proofs.YtmmiipnmimjojaaW.PrintWords Go.Proofs.YtmmiipnmimjojaaW.PrintLast Go.Proofs.YtmmiipnmimjojaaW.PrintMore
open Go.Maps Go.Proofs.Ytmmiipnmimjojaa.PD
set_option linter.unusedVariables false
set_option linter.unusedSimpArgs false
theorem N_push {wf : World} {P : Nat → Prop} {v1 : Value} {rows : List (List Value)} {xs : List S114} {x0 : S114} {cs : List Value} (hlr : rows.length = xs.length) (hP : ∀ k, P k → U8 wf k)
    (hfk : ∀ (j : Nat) (x : S114) (c : List Value), xs[j]? = some x → rows[j]? = some c → Kd.FK k114 wf P x c) (hp : Kd.FK k114 wf P x0 cs) (hr : (Kd.raw 4).R 114 wf 0 (fun _ => True) v1 (rows ++ [cs])) :
    Kd.N k114 114 wf 0 (fun k => P k ∨ some k = v1.ownBlock) v1 (xs ++ [x0]) := by
  have hty := Kd.R_typed hr
  have hne : ∀ k, P k → some k ≠ v1.ownBlock := fun k hk e => by
    obtain ⟨cells, hc⟩ := hty k e.symm
    exact U8.ne hc (by decide) (hP k hk)
  refine ⟨fun k hk => .inr hk.symm, rows ++ [cs], by simp [hlr], Kd.raw_tight hr, fun j x c hx hc => ?_⟩
  refine Kd.FK_mono ?_ (fun k hk => ⟨.inl hk, hne k hk⟩)
  by_cases hj : j < xs.length
  · rw [List.getElem?_append_left hj] at hx
    rw [List.getElem?_append_left (by omega)] at hc
    exact hfk j x c hx hc
  · have hj' : j = xs.length := by
      have := (List.getElem?_eq_some_iff.1 hx).1
      simp at this; omega
    subst hj'
    rw [List.getElem?_append_right (Nat.le_refl _)] at hx
    rw [List.getElem?_append_right (by omega), hlr] at hc
    simp at hx hc
    rw [← hx, ← hc]
    exact hp
/-- The row of changes, as cells and as what they lead to. -/
theorem N_parts {W : World} {S : Nat → Prop} {vc : Value} {xs : List S114} (h : Kd.N k114 114 W 0 (fun k => RO W S k ∨ some k = vc.ownBlock) vc xs) :
    ∃ rows : List (List Value), rows.length = xs.length ∧ (Kd.raw 4).R 114 W 0 (fun _ => True) vc rows ∧ ∀ (j : Nat) (x : S114) (c : List Value), xs[j]? = some x → rows[j]? = some c → Kd.FK k114 W (RO W S) x c := by
  obtain ⟨_, rows, hl, hR, hf⟩ := h
  exact ⟨rows, hl, Kd.raw_any hR, fun j x c hx hc => Kd.FK_mono (hf j x c hx hc) (fun k hk => hk.1.elim id (fun e => absurd e hk.2))⟩
theorem FK_old {W wf : World} {S : Nat → Prop} {x : S114} {c : List Value} (h : Kd.FK k114 W (RO W S) x c) (hk : ∀ k, k < W.heap.size → S k → U8 W k → wf.heap[k]? = W.heap[k]?) : Kd.FK k114 wf (RO wf (Nw W wf S)) x c :=
  Kd.FK_mono (Kd.FK_step (Kd.FK_bound h) (fun k ho hlt => hk k hlt ho.1.1 ho.1.2)) (fun k ho => ⟨.inl ho.1.1, ho.1.2.of_same (hk k ho.2 ho.1.1 ho.1.2)⟩)
/-- One change more: what the disk is behind it. W1: the world ahead of the append (block b alone was written); w1: behind it; wf: with the row stored. -/
theorem push_fin {W W1 w1 wf : World} {S : Nat → Prop} {d m : Nat} {own : Nat → Nat} {T : Tb} {room : Int} {n : Nm} {b : Nat} {f : Fil} {vn vs vc vn1 v1 : Value} {x0 : S114} {cs : List Value} {rows : List (List Value)} {now1 : List Int}
    (h : DskIn W S d m own T room) (hm : (n, b, f) ∈ T) (hh : W.heap[b]? = some (.cells #[vn, vs, .bool f.f2, vc] 110 (0, 0))) (hs : Kd.V k8 5 W 0 (RO W S) vs f.f1) (hown : ∀ k, vc.ownBlock = some k → S k ∧ own k = b)
    (hc : Kd.N k114 114 W 0 (fun k => RO W S k ∨ some k = vc.ownBlock) vc f.f3) (hlr : rows.length = f.f3.length)
    (hfk : ∀ (j : Nat) (x : S114) (c : List Value), f.f3[j]? = some x → rows[j]? = some c → Kd.FK k114 W (RO W S) x c)
    (k1 : Kp W W1 (fun k => k = b)) (hg : W1.grownBy w1 vc.ownBlock) (hat : v1.ownBlock = vc.ownBlock ∨ ∃ b, v1.ownBlock = some b ∧ W1.heap.size ≤ b) (hr : (Kd.raw 4).R 114 w1 0 (fun _ => True) v1 (rows ++ [cs])) (ho : OnlyB w1 wf b) (hf : wf.heap[b]? = some (.cells #[vn1, vs, .bool f.f2, v1] 110 (0, 0)))
    (hn1 : Kd.V k8 5 wf 0 (RO wf (Nw W wf S)) vn1 now1) (hp : Kd.FK k114 wf (RO wf (Nw W wf S)) x0 cs) :
    Kp W wf (WR W S) ∧ DskIn wf (Nw W wf S) d m (ownN W own b) (aput n (b, ⟨now1, f.f1, f.f2, f.f3 ++ [x0]⟩) T) room := by
  have hfl := h.2.2.2.2.2.1 _ _ _ hm
  have hty := Kd.N_typed hc
  have hbl := blk_lt hh
  have kf : Kp W wf (fun k => k = b ∨ vc.ownBlock = some k) := by
    have k2 : Kp W w1 (fun k => k = b ∨ vc.ownBlock = some k) := (k1.mono fun k e => .inl e).grown hg (fun k e => .inl (.inr e))
    refine k2.trans (S2 := fun k => k = b) ⟨ho.os, ho.tape, ho.output, by rw [ho.size]; exact Nat.le_refl _, fun k _ hn => ho.block k hn⟩ (fun k _ e => .inl e)
  have hu8 : ∀ k, k < W.heap.size → S k → U8 W k → wf.heap[k]? = W.heap[k]? := fun k hk hS hu => kf.block k hk (fun e => by
    rcases e with e | e
    · rw [e] at hu; exact U8.ne hh (by decide) hu
    · obtain ⟨cells, hcl⟩ := hty k e
      exact U8.ne hcl (by decide) hu)
  have hne : ∀ k, v1.ownBlock = some k → k ≠ b := fun k hk e => by
    subst e
    have hlt := Kd.R_typed hr k hk
    obtain ⟨cells, hcl⟩ := hlt
    have hbW1 : W1.heap.size ≤ k ∨ vc.ownBlock = some k := by
      rcases hat with e | ⟨q, hq, hle⟩
      · exact .inr (e.symm.trans hk)
      · rw [hk] at hq; cases hq; exact .inl hle
    rcases hbW1 with e | e
    · have := k1.size; omega
    · obtain ⟨cells', hcl'⟩ := hty k e
      rw [hh] at hcl'; cases hcl'
  have hr' : (Kd.raw 4).R 114 wf 0 (fun _ => True) v1 (rows ++ [cs]) := Kd.R_mono (Kd.R_move (Kd.raw_tight hr) (fun k hk => ho.block k (hne k hk.symm))) (fun _ _ => trivial)
  refine ⟨kf.mono fun k e => ?_, h.turn hm hh (fun k hk => ⟨(hown k hk).2, hty k hk⟩) kf ?_⟩
  · rcases e with e | e
    · rw [e]; exact wr_b hfl
    · obtain ⟨cells, hcl⟩ := hty k e
      exact ⟨(hown k e).1, U8.ne hcl (by decide)⟩
  · refine ⟨.inl hfl.1, by unfold ownN; rw [if_pos hbl]; exact hfl.2.1, _, _, _, hf, hn1, V_old hs hu8, N_push hlr (fun k hk => hk.2) (fun j x c hx hc => FK_old (hfk j x c hx hc) hu8) hp hr', fun k hk => ?_⟩
    have hlt := Kd.R_lt hr' k hk
    rcases hat with e | ⟨q, hq, hle⟩
    · have hk' := e.symm.trans hk
      have hlt' := Kd.N_lt hc k hk'
      exact ⟨.inl (hown k hk').1, by unfold ownN; rw [if_pos hlt']; exact (hown k hk').2⟩
    · rw [hk] at hq
      cases hq
      have := k1.size
      exact ⟨.inr ⟨by omega, hlt⟩, by unfold ownN; rw [if_neg (by omega)]⟩
theorem V_take {W : World} {ok : Nat → Prop} {A : Option Addr} {n c m : Nat} {xs : List Int} (h : Kd.V k8 5 W 0 ok (.slice A n c) xs) (hm : m ≤ xs.length) : Kd.V k8 5 W 0 ok (.slice A m m) (xs.take m) := by
  obtain ⟨hn, _, hF⟩ := Kd.V_at h
  have hl : (xs.take m).length = m := by rw [List.length_take]; omega
  refine ⟨A, m, by rw [hl], by rw [hl]; exact Nat.le_refl _, ?_⟩
  exact Kd.F_imp hF (fun W' hC => Kd.C_take hC hm)
theorem grown_drew {W1 w1 : World} {r : Option Nat} (h : W1.drew.grownBy w1 r) : W1.grownBy w1 r := ⟨h.os, h.tape, h.output, h.size, h.block⟩
/-- What cutting leaves. -/
theorem cut_fin {W W1 w1 : World} {S : Nat → Prop} {d m : Nat} {own : Nat → Nat} {T : Tb} {room : Int} {n : Nm} {b cn : Nat} {f : Fil} {vs vc v1 : Value} {An : Option Addr} {z : Int} {rows : List (List Value)}
    (h : DskIn W S d m own T room) (hm : (n, b, f) ∈ T) (hh : W.heap[b]? = some (.cells #[.slice An f.f0.length cn, vs, .bool f.f2, vc] 110 (0, 0))) (hn : Kd.V k8 5 W 0 (RO W S) (.slice An f.f0.length cn) f.f0) (hs : Kd.V k8 5 W 0 (RO W S) vs f.f1) (hown : ∀ k, vc.ownBlock = some k → S k ∧ own k = b)
    (hc : Kd.N k114 114 W 0 (fun k => RO W S k ∨ some k = vc.ownBlock) vc f.f3) (hlr : rows.length = f.f3.length)
    (hfk : ∀ (j : Nat) (x : S114) (c : List Value), f.f3[j]? = some x → rows[j]? = some c → Kd.FK k114 W (RO W S) x c) (h0 : 0 ≤ z) (h1 : z ≤ f.f0.length)
    (k1 : Kp W W1 (fun k => k = b)) (hg : W1.grownBy w1 vc.ownBlock) (hat : v1.ownBlock = vc.ownBlock ∨ ∃ b, v1.ownBlock = some b ∧ W1.heap.size ≤ b) (hr : (Kd.raw 4).R 114 w1 0 (fun _ => True) v1 (rows ++ [[.bool true, .int .i64 z, .int .i64 0, .slice none 0 0]]))
    (hb : w1.heap[b]? = some (.cells #[.slice An z.toNat z.toNat, vs, .bool f.f2, vc] 110 (0, 0))) :
    Kp W (w1.setCell ⟨b, 3, none⟩ v1) (WR W S) ∧ DskIn (w1.setCell ⟨b, 3, none⟩ v1) (Nw W (w1.setCell ⟨b, 3, none⟩ v1) S) d m (ownN W own b) (aput n (b, ⟨f.f0.take z.toNat, f.f1, f.f2, f.f3 ++ [⟨true, z, 0, []⟩]⟩) T) room := by
  have ho : OnlyB w1 (w1.setCell ⟨b, 3, none⟩ v1) b := (OnlyB.refl _ _).set 3 v1
  have hty := Kd.N_typed hc
  refine push_fin h hm hh hs hown hc hlr hfk k1 hg hat hr ho (blk_set hb 3 v1) ?_ (k114_mkF _ _ ⟨true, z, 0, []⟩ (Nat.zero_le _) (Kd.F_nil _ _ _))
  refine V_old (V_take hn (by omega)) (fun k hk hS hu => ?_)
  have hkb : k ≠ b := fun e => by rw [e] at hu; exact U8.ne hh (by decide) hu
  rw [ho.block k hkb, hg.block k (by have := k1.size; omega) (fun e => ?_), k1.block k hk hkb]
  obtain ⟨cells, hcl⟩ := hty k e.symm
  exact U8.ne hcl (by decide) hu
set_option maxRecDepth 100000 in
theorem cut0 {W : World} {S : Nat → Prop} {own : Nat → Nat} {b bz : Nat} {f : Fil} {z : Int} (hf : FilAt W S own b f) (hz : W.cell? ⟨bz, 0, none⟩ = some (.int .i64 z)) (hbad : z < 0 ∨ (f.f0.length : Int) < z) :
    Calls Try.prog 77 #[.pointer (some ⟨b, 0, none⟩), .pointer (some ⟨bz, 0, none⟩)] W fun e w' => ∃ r, e = .returned (.int .i64 r) ∧ r = 2 ∧ ∃ k, w' = W.drewN k := by
  obtain ⟨An, cn, q0, _, _⟩ := hf.cells
  clear hf
  by_cases h0 : z < 0
  · have g0 : decide (z < 0) = true := by simpa using h0
    clear hbad
    go_enter Try.func77, Try.ntmps77
    go_wp2_with fail
    go_quiet (fail)
    go_wp2
    go_ret
    exact ⟨_, rfl, rfl, _, rfl⟩
  · have g0 : decide (z < 0) = false := by simpa using h0
    have h1 : (f.f0.length : Int) < z := by omega
    have g1 : decide ((f.f0.length : Int) < z) = true := by simpa using h1
    clear hbad
    go_enter Try.func77, Try.ntmps77
    go_wp2_with fail
    go_quiet (fail)
    go_wp2
    go_ret
    exact ⟨_, rfl, rfl, _, rfl⟩
set_option maxHeartbeats 1000000 in
set_option maxRecDepth 100000 in
theorem cut1 {W : World} {S : Nat → Prop} {d m : Nat} {own : Nat → Nat} {T : Tb} {room : Int} {n : Nm} {b bz : Nat} {f : Fil} {z : Int} (h : DskIn W S d m own T room) (hm : (n, b, f) ∈ T) (hz : W.heap[bz]? = some (.cells #[.int .i64 z] 3 (0, 0))) (h0 : 0 ≤ z) (h1 : z ≤ f.f0.length) (hl : f.f3.length ≤ 1000000) :
    Calls Try.prog 77 #[.pointer (some ⟨b, 0, none⟩), .pointer (some ⟨bz, 0, none⟩)] W fun e w' => ∃ r, e = .returned (.int .i64 r) ∧ r = 0 ∧ Kp W w' (WR W S) ∧ DskIn w' (Nw W w' S) d m (ownN W own b) (aput n (b, ⟨f.f0.take z.toNat, f.f1, f.f2, f.f3 ++ [⟨true, z, 0, []⟩]⟩) T) room := by
  have hf := h.2.2.2.2.2.1 _ _ _ hm
  have hwr := wr_b hf
  obtain ⟨hSb, hob, vn, vs, vc, hh, hn, hs, hc, hown⟩ := hf
  obtain ⟨An, cn, rfl⟩ := Kd.V_slice hn
  obtain ⟨Ac, cc, rfl⟩ := Kd.N_slice hc
  have hle := (Kd.V_reads' hn).2.1
  have q0 : W.cell? ⟨b, 0, none⟩ = some (.slice An f.f0.length cn) := blk_cell hh 0
  have q3 : W.cell? ⟨b, 3, none⟩ = some (.slice Ac f.f3.length cc) := blk_cell hh 3
  have f0 := blk_frozen hh 0
  have f3 := blk_frozen hh 3
  have qz : W.cell? ⟨bz, 0, none⟩ = some (.int .i64 z) := blk_cell hz 0
  have g0 : decide (z < 0) = false := by simpa using h0
  have g1 : decide ((f.f0.length : Int) < z) = false := by simpa using h1
  have hz1 : z ≤ (cn : Int) := by omega
  have hbz : bz ≠ b := fun e => by rw [e, hh] at hz; cases hz
  have HH := Aside0.mk hh
  have HN := Aside0.mk hn
  have HS := Aside0.mk hs
  have HC := Aside0.mk hc
  have HO := Aside0.mk hown
  have HW := Aside0.mk hwr
  have HD := Aside0.mk h
  have HZ := Aside0.mk hz
  clear hn hh hc hs hown h hwr hz
  go_enter Try.func77, Try.ntmps77
  go_wp2_with fail
  go_quiet (fail)
  go_wp2_with fail
  go_region
  have k1 : Kp W ((W.drewN (nq + 1)).setCell ⟨b, 0, none⟩ (.slice An z.toNat z.toNat)) (fun k => k = b) := ((Kp.refl W (fun k => k = b)).drewN _).setCell (p := ⟨b, 0, none⟩) (.inl rfl) _
  have hb1 : ((W.drewN (nq + 1)).setCell ⟨b, 0, none⟩ (.slice An z.toNat z.toNat)).heap[b]? = some (.cells #[.slice An z.toNat z.toNat, vs, .bool f.f2, .slice Ac f.f3.length cc] 110 (0, 0)) := blk_set (w := W.drewN (nq + 1)) HH.out 0 _
  generalize ((W.drewN (nq + 1)).setCell ⟨b, 0, none⟩ (.slice An z.toNat z.toNat)) = W1 at *
  have c3 : W1.cell? ⟨b, 3, none⟩ = some (.slice Ac f.f3.length cc) := blk_cell hb1 3
  have fz3 := blk_frozen hb1 3
  have cz : W1.cell? ⟨bz, 0, none⟩ = some (.int .i64 z) := (k1.cell (blk_lt HZ.out) hbz).trans qz
  have ca3 : (W1.alloc (.cells #[.bool true, .int .i64 z, .int .i64 0, .slice none 0 0] 114 (0, 0))).cell? ⟨b, 3, none⟩ = some (.slice Ac f.f3.length cc) := ((below_alloc (Below.refl _ W1) _).cell (blk_lt hb1)).trans c3
  have caz : (W1.alloc (.cells #[.bool true, .int .i64 z, .int .i64 0, .slice none 0 0] 114 (0, 0))).cell? ⟨bz, 0, none⟩ = some (.int .i64 z) := ((below_alloc (Below.refl _ W1) _).cell (World.block_lt_of_cell? W1 _ cz)).trans cz
  obtain ⟨rows, hlr, hR, hfk⟩ := N_parts HC.out
  have hR1 : (Kd.raw 4).R 114 W1 0 (fun _ => True) (.slice Ac f.f3.length cc) rows := Kd.R_mono (Kd.R_step (Kd.raw_tight hR) (fun k hk hlt => k1.block k hlt (fun e => by
    obtain ⟨cells, hcl⟩ := Kd.N_typed HC.out k hk.symm
    rw [e, HH.out] at hcl; cases hcl))) (fun _ _ => trivial)
  have hM : ∀ W, (Kd.raw 4).M W 0 (fun _ => False) [.bool true, .int .i64 z, .int .i64 0, .slice none 0 0] [.bool true, .int .i64 z, .int .i64 0, .slice none 0 0] := fun W => ⟨rfl, rfl, fun u hu => by
    simp only [List.mem_cons, List.not_mem_nil, or_false] at hu
    rcases hu with rfl | rfl | rfl | rfl <;> rfl⟩
  have HM := Aside0.mk hM
  have HDR := Aside0.mk (show (W1.alloc (.cells #[.bool true, .int .i64 z, .int .i64 0, .slice none 0 0] 114 (0, 0))).drew = W1.drew.alloc (.cells #[.bool true, .int .i64 z, .int .i64 0, .slice none 0 0] 114 (0, 0)) from rfl)
  have hLn : (rows.length + 1) * 48 ≤ 140737488355328 := by omega
  have HLN := Aside0.mk hLn
  clear hM hLn
  have hgb : ∀ w1, W1.drew.grownBy w1 (Value.slice Ac f.f3.length cc).ownBlock → w1.heap[b]? = some (.cells #[.slice An z.toNat z.toNat, vs, .bool f.f2, .slice Ac f.f3.length cc] 110 (0, 0)) := fun w1 hg => (hg.block b (blk_lt hb1) (fun e => by
    obtain ⟨cells, hcl⟩ := Kd.N_typed HC.out b e.symm
    rw [HH.out] at hcl; cases hcl)).trans hb1
  have HGB := Aside0.mk hgb
  clear hgb
  have HR := Aside0.mk hR1
  have HFK := Aside0.mk hfk
  have HLR := Aside0.mk hlr
  have HK := Aside0.mk k1
  have HB := Aside0.mk hb1
  clear hR hR1 hfk hlr k1 hb1 q0 q3 f0 f3 qz
  go_wp2_with fail
  go_region_law (first
    | (rw [HDR.out]; refine Kd.R_append_step (Kd.raw 4) (w0 := W1.drew) 0 (by rfl) (.tmp 29) (.tmp 32) 108 114 (.agg #[.bool false, .int .i64 0, .int .i64 0, .slice none 0 0]) 48 (by rfl) Try.underlying108 info114 (by rfl) (by decide) (by decide) (.slice Ac f.f3.length cc) rows [.bool true, .int .i64 z, .int .i64 0, .slice none 0 0] [.bool true, .int .i64 z, .int .i64 0, .slice none 0 0] (fun _ => True) (fun _ => False) (by rfl) (by rfl) (HM.out _) (fun _ hk => hk.elim) (fun _ _ => trivial) (Kd.R_below HR.out (below_drew1 (Below.refl _ _))) ((Below.refl 0 W1.drew).mono (Nat.zero_le _)) (Nat.zero_le _) HLN.out ?_; intro v1 w1 hr hb2 hg hat; obtain ⟨A1, c1, rfl⟩ := Kd.R_slice hr; have hbw := Aside0.mk (HGB.out _ hg); have c3w : w1.cell? ⟨b, 3, none⟩ = some (.slice Ac f.f3.length cc) := blk_cell hbw.out 3; have f3w := blk_frozen hbw.out 3)
    | fail)
  all_goals
    rw [show (rows ++ [[Value.bool true, Value.int .i64 z, Value.int .i64 0, Value.slice none 0 0]]).length = rows.length + 1 from by simp] at hat hr
    go_wp2
    go_ret
    refine ⟨_, rfl, rfl, ?_⟩
    exact cut_fin HD.out hm HH.out HN.out HS.out HO.out HC.out HLR.out HFK.out h0 h1 HK.out (grown_drew hg) hat hr hbw.out
def dCut (D : Dsk) (s : ByteArray) (z : Int) : Int × Dsk := match aget s.data.toList D.files with
  | none => (8, D)
  | some f => if z < 0 ∨ (f.f0.length : Int) < z then (2, D) else (0, ⟨D.room, aput s.data.toList ⟨f.f0.take z.toNat, f.f1, f.f2, f.f3 ++ [⟨true, z, 0, []⟩]⟩ D.files⟩)
theorem lift1 {W W2 w' : World} {S : Nat → Prop} {d : Nat} {D : Dsk} (hb : Below W.heap.size W W2) (h : Kp W2 w' (WR W2 S) ∧ DskAt w' (Nw W2 w' S) d D) : Kp W w' (WR W S) ∧ DskAt w' (Nw W w' S) d D :=
  ⟨(Kp.of_below hb (WR W S)).trans h.1 (fun i hi h => ⟨h.1, fun hu => h.2 (hu.of_same (hb.block i hi))⟩), h.2.mono fun k _ hk => by
    rcases hk with hk | hk
    · exact .inl hk
    · exact .inr ⟨Nat.le_trans hb.size hk.1, hk.2⟩⟩
set_option maxRecDepth 100000 in
/-- disk.Cut -/
theorem cut_calls {W : World} {S : Nat → Prop} {d : Nat} {D : Dsk} {s : ByteArray} {z : Int} (h : DskAt W S d D) (hs : s.size ≤ maxLen) (ok : DskOk D) :
    Calls Try.prog 35 #[.pointer (some ⟨d, 0, none⟩), .string s, .int .i64 z] W fun e w' => e = .returned (.int .i64 (dCut D s z).1) ∧ Kp W w' (WR W S) ∧ DskAt w' (Nw W w' S) d (dCut D s z).2 := by
  have hb1 := below_alloc (Below.refl W.heap.size W) (.cells #[.int .i64 z] 3 (0, 0))
  have hh := h.below hb1
  obtain ⟨m, own, T, hin, hD, hg⟩ := hh.in_ s.data.toList
  have cz := blk_new W (.cells #[.int .i64 z] 3 (0, 0))
  cases ha : aget s.data.toList D.files with
  | none =>
    have hr : dCut D s z = (8, D) := by unfold dCut; rw [ha]
    rw [hr]
    have hc := gone_cut (caps := #[.pointer (some ⟨W.heap.size, 0, none⟩)]) hin hs (tb_none (hg.symm.trans ha))
    have HC := Aside0.mk hc
    have HF := Aside0.mk (lift1 hb1 ⟨Kp.refl _ _, hh.mono (fun _ _ h => .inl h)⟩)
    clear hr ha hg hD hin hc h hh hb1 cz ok
    go_enter Try.func35, Try.ntmps35
    go_wp2_with fail
    refine HC.out.mono ?_
    rintro e w' ⟨rfl, rfl⟩
    go_wp2
    go_ret
    exact ⟨rfl, HF.out⟩
  | some f =>
    obtain ⟨b, hb⟩ := tb_some (hg.symm.trans ha)
    have hcK : ∃ R, dCut D s z = R ∧ Calls Try.prog 77 (#[.pointer (some ⟨b, 0, none⟩)] ++ #[.pointer (some ⟨W.heap.size, 0, none⟩)]) (W.alloc (.cells #[.int .i64 z] 3 (0, 0))) fun e w' => ∃ r, e = .returned (.int .i64 r) ∧ r = R.1 ∧
          Kp (W.alloc (.cells #[.int .i64 z] 3 (0, 0))) w' (WR (W.alloc (.cells #[.int .i64 z] 3 (0, 0))) S) ∧ DskAt w' (Nw (W.alloc (.cells #[.int .i64 z] 3 (0, 0))) w' S) d R.2 := by
      by_cases hbad : z < 0 ∨ (f.f0.length : Int) < z
      · refine ⟨(2, D), by unfold dCut; rw [ha]; simp only; rw [if_pos hbad], ?_⟩
        have := cut0 (hin.2.2.2.2.2.1 _ _ _ (aget_mem hb)) (blk_cell cz 0) hbad
        refine (show Calls Try.prog 77 _ _ _ from this).mono ?_
        rintro e w' ⟨r, rfl, rfl, k, rfl⟩
        exact ⟨_, rfl, rfl, (Kp.refl _ _).drewN k, (hh.step (fun _ _ h => .inl h) (fun _ _ _ => rfl))⟩
      · refine ⟨(0, ⟨D.room, aput s.data.toList ⟨f.f0.take z.toNat, f.f1, f.f2, f.f3 ++ [⟨true, z, 0, []⟩]⟩ D.files⟩), by unfold dCut; rw [ha]; simp only; rw [if_neg hbad], ?_⟩
        have := cut1 hin (aget_mem hb) cz (by omega) (by omega) (by have := (mem_ok ok ha).2.2.1; omega)
        rw [← hD]
        refine (show Calls Try.prog 77 _ _ _ from this).mono ?_
        rintro e w' ⟨r, rfl, rfl, hk, hd⟩
        exact ⟨_, rfl, rfl, hk, _, _, _, hd, tfil_put⟩
    obtain ⟨R, hR, hK⟩ := hcK
    rw [hR]
    have hc := with_cut hin hs hb hK
    have HC := Aside0.mk hc
    have HB := Aside0.mk hb1
    clear ha hg hin hc h hD hb hh hb1 hK hR cz ok
    go_enter Try.func35, Try.ntmps35
    go_wp2_with fail
    refine HC.out.mono ?_
    rintro e w' ⟨r, rfl, rfl, hk, hd⟩
    have HF := Aside0.mk (lift1 HB.out ⟨hk, hd⟩)
    clear hk hd
    go_wp2
    go_ret
    exact ⟨rfl, HF.out⟩
end Go.Proofs.Ytmmiipnmimjojaa.PS
end
section
namespace Go.Proofs.Ytmmiipnmimjojaa.PS
open Go.RowKit Go.Proofs.YtmmiipnmimjojaaW.PrintWords Go.Proofs.YtmmiipnmimjojaaW.PrintLast Go.Proofs.YtmmiipnmimjojaaW.PrintMore
open Go.Maps Go.Proofs.Ytmmiipnmimjojaa.PD
set_option linter.unusedVariables false
set_option linter.unusedSimpArgs false
theorem new_fin (W : World) (r : Int) : DskAt ((W.alloc (.map #[] 0)).alloc (.cells #[.int .i64 r, .map (some W.heap.size)] 105 (0, 0))) (Nw W ((W.alloc (.map #[] 0)).alloc (.cells #[.int .i64 r, .map (some W.heap.size)] 105 (0, 0))) (fun _ => False)) (W.heap.size + 1) ⟨r, []⟩ ∧
    Below W.heap.size W ((W.alloc (.map #[] 0)).alloc (.cells #[.int .i64 r, .map (some W.heap.size)] 105 (0, 0))) := by
  have hb1 := below_alloc (Below.refl W.heap.size W) (.map #[] 0)
  have hb2 := below_alloc hb1 (.cells #[.int .i64 r, .map (some W.heap.size)] 105 (0, 0))
  have hz : (W.alloc (.map #[] 0)).heap.size = W.heap.size + 1 := by simp
  have hz2 : ((W.alloc (.map #[] 0)).alloc (.cells #[.int .i64 r, .map (some W.heap.size)] 105 (0, 0))).heap.size = W.heap.size + 2 := by simp
  refine ⟨⟨W.heap.size, fun _ => 0, [], ⟨.inr ⟨by omega, by omega⟩, .inr ⟨by omega, by omega⟩, ?_, ?_, srt_nil, ⟨fun _ _ _ h => (List.not_mem_nil h).elim, List.nodup_nil⟩⟩, rfl⟩, hb2⟩
  · have := blk_new (W.alloc (.map #[] 0)) (.cells #[.int .i64 r, .map (some W.heap.size)] 105 (0, 0))
    rw [hz] at this
    exact this
  · exact (Tbl.made W).step (Below.heap_alloc _ _ _ (by omega))
set_option maxRecDepth 100000 in
/-- disk.New -/
theorem new_calls (r : Int) (W : World) : Calls Try.prog 19 #[.int .i64 r] W fun e w' => ∃ g, e = .returned (.pointer (some ⟨g, 0, none⟩)) ∧ DskAt w' (Nw W w' (fun _ => False)) g ⟨max 0 r, []⟩ ∧ Below W.heap.size W w' := by
  have HF := Aside0.mk (fun r => new_fin W r)
  have hmm := @run_makeMap Try.prog
  go_enter Try.func19, Try.ntmps19
  go_wp2
  go_ret
  exact ⟨_, rfl, HF.out _⟩
end Go.Proofs.Ytmmiipnmimjojaa.PS
end
section
namespace Go.Proofs.Ytmmiipnmimjojaa.PS
open Go.RowKit Go.Proofs.YtmmiipnmimjojaaW.PrintWords Go.Proofs.YtmmiipnmimjojaaW.PrintLast Go.Proofs.YtmmiipnmimjojaaW.PrintMore
open Go.Maps Go.Proofs.Ytmmiipnmimjojaa.PD
attribute [local go_sem ↓] Go.wp_at_zero Go.wp_at_succ
set_option linter.unusedVariables false
set_option linter.unusedSimpArgs false
section
variable {W W1 : World} {S : Nat → Prop} {d m : Nat} {own : Nat → Nat} {T : Tb} {room : Int} {n : Nm} {b : Nat} {f f' : Fil}
/-- The map alone is turned, to a table of files that were there. -/
theorem DskIn.map_turn {T' : Tb} (h : DskIn W S d m own T room) (hk : Kp W W1 (fun k => k = m)) (ht : Tbl W1 m (tblk T')) (hs : Srt T') (hsub : ∀ n b f, (n, b, f) ∈ T' → ∃ n', (n', b, f) ∈ T) (hnd : (T'.map fun e => e.2.1).Nodup) : DskIn W1 (Nw W W1 S) d m own T' room := by
  obtain ⟨hd, hM, hh, ht0, _, hfs, _⟩ := h
  obtain ⟨es, c, hmap⟩ := ht0.map
  have hdm : d ≠ m := fun e => by subst e; rw [hh] at hmap; cases hmap
  refine ⟨.inl hd, .inl hM, (hk.block d (blk_lt hh) hdm).trans hh, ht, hs, fun n b f hx => ?_, hnd⟩
  obtain ⟨n', hx'⟩ := hsub n b f hx
  refine (hfs _ _ _ hx').step (fun _ _ h => .inl h) (fun _ _ => rfl) (fun x hx hS hxx => hk.block x hx (fun e => ?_))
  subst e
  rcases hxx with e | e | e
  · obtain ⟨cs, hc⟩ := (hfs _ _ _ hx').blk
    rw [← e, hmap] at hc
    cases hc
  · obtain ⟨_, cs, hc⟩ := e
    rw [hmap] at hc
    cases hc
  · exact U8.ne_map hmap e
end
theorem nodup_del {n : Nm} {T : Tb} (h : (T.map fun e => e.2.1).Nodup) : ((adel n T).map fun e => e.2.1).Nodup := h.sublist (List.Sublist.map _ List.filter_sublist)
def dRemove (D : Dsk) (s : ByteArray) : Int × Dsk := match aget s.data.toList D.files with
  | none => (8, D)
  | some _ => (0, ⟨D.room, adel s.data.toList D.files⟩)
theorem turned_cell {w w' : World} {m : Nat} (h : w.mapTurned w' m) {a : Addr} (hm : a.block ≠ m) : w'.cell? a = w.cell? a := by
  obtain ⟨es, c, es', c', hb, rfl⟩ := h
  exact World.cell?_of_block (w := w) (ChangeMaps.heap_setBlock_other hb _ hm)
theorem Kp.turned {w w' : World} {m : Nat} (h : w.mapTurned w' m) : Kp w w' (fun k => k = m) := by
  have hg := h.grown
  exact ⟨hg.os, hg.tape, hg.output, hg.size, fun k hk hn => hg.block k hk (fun e => hn (by injection e))⟩
theorem Kp.of_drew {w w' : World} {P : Nat → Prop} (h : Kp w.drew w' P) : Kp w w' P := ⟨h.os, h.tape, h.output, h.size, h.block⟩
theorem Kp.of_drewN {w w' : World} {k : Nat} {P : Nat → Prop} (h : Kp (w.drewN k) w' P) : Kp w w' P := ⟨h.os, h.tape, h.output, h.size, h.block⟩
theorem wr_m {W : World} {S : Nat → Prop} {d m : Nat} {own : Nat → Nat} {T : Tb} {room : Int} (h : DskIn W S d m own T room) : WR W S m := by
  obtain ⟨es, c, hmap⟩ := h.2.2.2.1.map
  exact ⟨h.2.1, U8.ne_map hmap⟩
set_option maxRecDepth 100000 in
theorem remove1 {W : World} {S : Nat → Prop} {d m : Nat} {own : Nat → Nat} {T : Tb} {room : Int} {bd bs : Nat} {p : Addr} {s : ByteArray} (h : DskIn W S d m own T room) (hs : s.size ≤ maxLen)
    (hd : W.cell? ⟨bd, 0, none⟩ = some (.pointer (some ⟨d, 0, none⟩))) (hn : W.cell? ⟨bs, 0, none⟩ = some (.string s)) (hbd : bd ≠ m) (hbs : bs ≠ m) :
    Calls Try.prog 76 #[.pointer (some p), .pointer (some ⟨bd, 0, none⟩), .pointer (some ⟨bs, 0, none⟩)] W fun e w' => ∃ r, e = .returned (.int .i64 r) ∧ r = 0 ∧ Kp W w' (WR W S) ∧ DskIn w' (Nw W w' S) d m own (adel s.data.toList T) room := by
  obtain ⟨es, c, hmap⟩ := h.2.2.2.1.map
  have hdm : d ≠ m := fun e => by have h1 := h.2.2.1; rw [e, hmap] at h1; cases h1
  have hc1 : W.cell? ⟨d, 1, none⟩ = some (.map (some m)) := blk_cell h.2.2.1 1
  have ht : W.drew.ownsMap Try.prog 9 ptrElem m (tblk T).length (dOf (tblk T)) := h.2.2.2.1
  obtain ⟨w2, hrun, hown2, htn⟩ := World.ownsMap.drop ht law9 Try.underlying103 (key_str s hs) 0
  have hq1 : w2.cell? ⟨bd, 0, none⟩ = some (.pointer (some ⟨d, 0, none⟩)) := (turned_cell htn hbd).trans hd
  have hq2 : w2.cell? ⟨bs, 0, none⟩ = some (.string s) := (turned_cell htn hbs).trans hn
  have hq3 : w2.cell? ⟨d, 1, none⟩ = some (.map (some m)) := (turned_cell htn hdm).trans hc1
  have hkp : Kp W w2 (fun k => k = m) := Kp.of_drew (Kp.turned htn)
  have HF := Aside0.mk (show Kp W w2 (WR W S) ∧ DskIn w2 (Nw W w2 S) d m own (adel s.data.toList T) room from
    ⟨hkp.mono (fun k e => by rw [e]; exact wr_m h), h.map_turn hkp (by rw [tblk_del]; exact Tbl.del_of hown2) (adel_srt h.2.2.2.2.1) (fun n b f hx => ⟨n, (adel_mem.1 hx).1⟩) (nodup_del h.2.2.2.2.2.2)⟩)
  clear hmap h ht hown2 htn hkp
  go_enter Try.func76, Try.ntmps76
  go_wp2_with fail
  go_region_held3 (fun w' => w'.cell? ⟨bd, 0, none⟩ = some (.pointer (some ⟨d, 0, none⟩)) ∧ w'.cell? ⟨bs, 0, none⟩ = some (.string s) ∧ w'.cell? ⟨d, 1, none⟩ = some (.map (some m))) (first | (exact ⟨hq1, hq2, hq3⟩) | go_keep) (fail)
  go_wp2
  go_ret
  exact ⟨_, rfl, rfl, HF.out⟩
theorem Kp.lift {W W2 w' : World} {S : Nat → Prop} (hb : Below W.heap.size W W2) (k : Kp W2 w' (WR W2 S)) : Kp W w' (WR W S) :=
  (Kp.of_below hb (WR W S)).trans k (fun i hi h => ⟨h.1, fun hu => h.2 (hu.of_same (hb.block i hi))⟩)
theorem Nw.lift {W W2 w' : World} {S : Nat → Prop} (hb : Below W.heap.size W W2) {k : Nat} (h : Nw W2 w' S k) : Nw W w' S k := by
  rcases h with h | h
  · exact .inl h
  · exact .inr ⟨Nat.le_trans hb.size h.1, h.2⟩
/-- The same from an earlier world on. -/
theorem lift {W W2 w' : World} {S : Nat → Prop} {d : Nat} {D : Dsk} (hb : Below W.heap.size W W2) (h : Kp W2 w' (WR W2 S) ∧ DskAt w' (Nw W2 w' S) d D) : Kp W w' (WR W S) ∧ DskAt w' (Nw W w' S) d D :=
  ⟨h.1.lift hb, h.2.mono fun k _ hk => hk.lift hb⟩
set_option maxRecDepth 100000 in
/-- disk.Remove -/
theorem remove_calls {W : World} {S : Nat → Prop} {d : Nat} {D : Dsk} {s : ByteArray} (h : DskAt W S d D) (hs : s.size ≤ maxLen) :
    Calls Try.prog 34 #[.pointer (some ⟨d, 0, none⟩), .string s] W fun e w' => e = .returned (.int .i64 (dRemove D s).1) ∧ Kp W w' (WR W S) ∧ DskAt w' (Nw W w' S) d (dRemove D s).2 := by
  have hb1 := below_alloc (Below.refl W.heap.size W) (.cells #[.pointer (some ⟨d, 0, none⟩)] 25 (0, 0))
  have hb2 := below_alloc hb1 (.cells #[.string s] 9 (0, 0))
  have hh := h.below hb2
  obtain ⟨m, own, T, hin, hD, hg⟩ := hh.in_ s.data.toList
  obtain ⟨es, c, hmap⟩ : ∃ es c, W.heap[m]? = some (.map es c) := by
    obtain ⟨m', own', T', ⟨_, _, hh', ht', _⟩, _⟩ := h
    have e : m' = m := by
      have h1 := (hb2.block d (blk_lt hh')).trans hh'
      rw [hin.2.2.1] at h1
      simp at h1
      exact h1.symm
    subst e
    exact ht'.map
  have hml := blk_lt hmap
  cases ha : aget s.data.toList D.files with
  | none =>
    have hr : dRemove D s = (8, D) := by unfold dRemove; rw [ha]
    rw [hr]
    have hc := gone_remove (caps := #[.pointer (some ⟨W.heap.size, 0, none⟩), .pointer (some ⟨W.heap.size + 1, 0, none⟩)]) hin hs (tb_none (hg.symm.trans ha))
    have HC := Aside0.mk hc
    have HF := Aside0.mk (lift hb2 ⟨Kp.refl _ _, hh.mono (fun _ _ h => .inl h)⟩)
    clear hr ha hg hD hin hc h hh hb1 hb2 hmap
    go_enter Try.func34, Try.ntmps34
    go_wp2_with fail
    refine HC.out.mono ?_
    rintro e w' ⟨rfl, rfl⟩
    go_wp2
    go_ret
    exact ⟨rfl, HF.out⟩
  | some f =>
    have hr : dRemove D s = (0, ⟨D.room, adel s.data.toList D.files⟩) := by unfold dRemove; rw [ha]
    rw [hr]
    obtain ⟨b, hb⟩ := tb_some (hg.symm.trans ha)
    have hc := with_remove (caps := #[.pointer (some ⟨W.heap.size, 0, none⟩), .pointer (some ⟨W.heap.size + 1, 0, none⟩)]) hin hs hb
      (by simpa using remove1 (bd := W.heap.size) (bs := W.heap.size + 1) (p := ⟨b, 0, none⟩) hin hs (blk_cell (blk_alloc (blk_new _ _) _) 0) (by simp [go_sem]) (by omega) (by omega))
    rw [← hD]
    have HC := Aside0.mk hc
    have HB := Aside0.mk hb2
    clear hr ha hg hin hc h hD hb hh hb1 hb2 hmap
    go_enter Try.func34, Try.ntmps34
    go_wp2_with fail
    refine HC.out.mono ?_
    rintro e w' ⟨r, rfl, rfl, hk, hd⟩
    have HF := Aside0.mk (lift (d := d) (D := ⟨D.room, adel s.data.toList (tfil T)⟩) HB.out ⟨hk, _, _, _, hd, tfil_del⟩)
    clear hk hd
    go_wp2
    go_ret
    exact ⟨rfl, HF.out⟩
def dRename (D : Dsk) (s t : ByteArray) : Int × Dsk := match aget s.data.toList D.files with
  | none => (8, D)
  | some f => if namedB t = false then (14, D) else if s = t then (0, D) else (0, ⟨D.room, aput t.data.toList f (adel s.data.toList D.files)⟩)
theorem put_del {α : Type} {n k : Nm} {x : α} {T : List (Nm × α)} (h : Srt T) (hne : n ≠ k) : adel k (aput n x T) = aput n x (adel k T) :=
  srt_get (adel_srt (aput_srt h)) (aput_srt (adel_srt h)) fun i => by
    rw [aget_del (aput_srt h), aget_put h, aget_put (adel_srt h), aget_del h]
    by_cases h1 : i = k
    · subst h1
      rw [if_pos rfl, if_neg (fun e => hne e.symm), if_pos rfl]
    · rw [if_neg h1, if_neg h1]
theorem DskIn.drewN {W : World} {S : Nat → Prop} {d m : Nat} {own : Nat → Nat} {T : Tb} {room : Int} (h : DskIn W S d m own T room) (k : Nat) : DskIn (W.drewN k) S d m own T room := by
  obtain ⟨hd, hM, hh, ht, hs, hf, hnd⟩ := h
  exact ⟨hd, hM, hh, ht, hs, fun n b f hx => (hf n b f hx).step (fun _ _ h => h) (fun _ _ => rfl) (fun _ _ _ _ => rfl), hnd⟩
theorem rename_fin {W w2 w3 : World} {S : Nat → Prop} {d m : Nat} {own : Nat → Nat} {T : Tb} {room : Int} {n k : Nm} {b q : Nat} {f : Fil} (h : DskIn W S d m own T room) (hm : (k, b, f) ∈ T) (hne : n ≠ k)
    (ho : w3.ownsMap Try.prog 9 ptrElem m q (((dOf (tblk T)).put (.string n) (.lit (.int .i64 b))).del (.string k))) (h2 : Kp W w2 (fun k => k = m)) (h3 : Kp w2 w3 (fun k => k = m)) :
    Kp W w3 (WR W S) ∧ DskIn w3 (Nw W w3 S) d m own (aput n (b, f) (adel k T)) room := by
  have hk := h2.trans h3 (fun _ _ e => e)
  have hs := h.2.2.2.2.1
  have hnd := h.2.2.2.2.2.2
  refine ⟨hk.mono fun k e => by rw [e]; exact wr_m h, h.map_turn hk ?_ (aput_srt (adel_srt hs)) ?_ ?_⟩
  · rw [dOf_put (L := tblk T) (srt_map _ hs), dOf_del, put_del (T := tblk T) (srt_map _ hs) hne] at ho
    rw [tblk_put, tblk_del]
    exact own_exact ho (by rw [dOf_size]; exact Nat.le_refl _)
  · intro n' b' f' hx
    rcases (aput_mem (adel_srt hs)).1 hx with e | ⟨hx, _⟩
    · cases e; exact ⟨k, hm⟩
    · exact ⟨n', (adel_mem.1 hx).1⟩
  · refine nodup_put (T := T) (adel_srt hs) (nodup_del hnd) (fun n' f0 hx => ?_)
    obtain ⟨hx1, hx2⟩ := adel_mem.1 hx
    have := mem_nodup hnd hx1 hm
    injection this with e _
    exact absurd e hx2
theorem ne_str {s t : ByteArray} (h : s ≠ t) : s.data.toList ≠ t.data.toList := fun e => h (by
  obtain ⟨⟨l⟩⟩ := s
  obtain ⟨⟨r⟩⟩ := t
  simp at e
  rw [e])
set_option maxHeartbeats 1000000 in
set_option maxRecDepth 100000 in
theorem rename1 {W : World} {S : Nat → Prop} {d m : Nat} {own : Nat → Nat} {T : Tb} {room : Int} {bd bs bt b : Nat} {f : Fil} {s t : ByteArray} (h : DskIn W S d m own T room) (hs : s.size ≤ maxLen) (ht : t.size ≤ maxLen)
    (hg : aget s.data.toList T = some (b, f)) (hd : W.cell? ⟨bd, 0, none⟩ = some (.pointer (some ⟨d, 0, none⟩))) (hcs : W.cell? ⟨bs, 0, none⟩ = some (.string s)) (hct : W.cell? ⟨bt, 0, none⟩ = some (.string t)) (hbd : bd ≠ m) (hbs : bs ≠ m) (hbt : bt ≠ m) (hN : namedB t = true) (hne : s ≠ t) (hroom : T.length ≤ 1000) :
    Calls Try.prog 75 #[.pointer (some ⟨b, 0, none⟩), .pointer (some ⟨bt, 0, none⟩), .pointer (some ⟨bs, 0, none⟩), .pointer (some ⟨bd, 0, none⟩)] W fun e w' => ∃ r, e = .returned (.int .i64 r) ∧ r = 0 ∧ Kp W w' (WR W S) ∧ DskIn w' (Nw W w' S) d m own (aput t.data.toList (b, f) (adel s.data.toList T)) room := by
  obtain ⟨es, c, hmap⟩ := h.2.2.2.1.map
  have hdm : d ≠ m := fun e => by have h1 := h.2.2.1; rw [e, hmap] at h1; cases h1
  have hc1 : W.cell? ⟨d, 1, none⟩ = some (.map (some m)) := blk_cell h.2.2.1 1
  have hne1 : (s.toList == t.toList) = false := by
    rw [ByteArray.toList_eq, ByteArray.toList_eq]
    simpa using ne_str hne
  have H := Aside0.mk h
  have HG := Aside0.mk (aget_mem hg)
  have HT := Aside0.mk (show W.ownsMap Try.prog 9 ptrElem m (tblk T).length (dOf (tblk T)) from h.2.2.2.1)
  have HNE := Aside0.mk (ne_str (fun e => hne e.symm) : t.data.toList ≠ s.data.toList)
  have hTl : (tblk T).length < maxLen := by unfold tblk; rw [amap_len]; unfold maxLen; omega
  clear h hg hmap hne
  go_enter Try.func75, Try.ntmps75
  go_wp2_with fail
  refine (named_calls t ht W).mono ?_
  rintro e w1 ⟨rfl, hdr⟩
  rw [hN]
  obtain ⟨k, rfl⟩ := hdr.out
  clear hdr
  have H0 := H.out.drewN (k + 1)
  obtain ⟨w2, hrun, hown2, htn⟩ := World.ownsMap.store (w := W.drewN (k + 1)) HT.out law9 Try.underlying103 hTl (key_str t ht) (val := .pointer (some ⟨b, 0, none⟩)) (d := .lit (.int .i64 b)) (ps := []) rfl
  have hq1 : w2.cell? ⟨bd, 0, none⟩ = some (.pointer (some ⟨d, 0, none⟩)) := (turned_cell htn hbd).trans hd
  have hq2 : w2.cell? ⟨bs, 0, none⟩ = some (.string s) := (turned_cell htn hbs).trans hcs
  have hq3 : w2.cell? ⟨d, 1, none⟩ = some (.map (some m)) := (turned_cell htn hdm).trans hc1
  have hq4 : w2.cell? ⟨bt, 0, none⟩ = some (.string t) := (turned_cell htn hbt).trans hct
  obtain ⟨w3, hrun3, hown3, htn3⟩ := World.ownsMap.drop (w := w2.drew) hown2 law9 Try.underlying103 (key_str s hs) 0
  have hr1 : w3.cell? ⟨bd, 0, none⟩ = some (.pointer (some ⟨d, 0, none⟩)) := (turned_cell htn3 hbd).trans hq1
  have hr2 : w3.cell? ⟨bs, 0, none⟩ = some (.string s) := (turned_cell htn3 hbs).trans hq2
  have hr3 : w3.cell? ⟨d, 1, none⟩ = some (.map (some m)) := (turned_cell htn3 hdm).trans hq3
  have HF := Aside0.mk (rename_fin H.out HG.out HNE.out hown3 (Kp.of_drewN (Kp.turned htn)) (Kp.of_drew (Kp.turned htn3)))
  clear hown2 hown3 htn htn3 H0
  go_wp2_with fail
  go_region_held3 (fun w' => w'.cell? ⟨bd, 0, none⟩ = some (.pointer (some ⟨d, 0, none⟩)) ∧ w'.cell? ⟨bt, 0, none⟩ = some (.string t) ∧ w'.cell? ⟨d, 1, none⟩ = some (.map (some m))) (first | (exact ⟨hq1, hq4, hq3⟩) | go_keep) (fail)
  go_wp2
  go_region_held3 (fun w' => w'.cell? ⟨bd, 0, none⟩ = some (.pointer (some ⟨d, 0, none⟩)) ∧ w'.cell? ⟨bs, 0, none⟩ = some (.string s) ∧ w'.cell? ⟨d, 1, none⟩ = some (.map (some m))) (first | (exact ⟨hr1, hr2, hr3⟩) | go_keep) (fail)
  go_wp2
  go_ret
  exact ⟨_, rfl, rfl, HF.out⟩
set_option maxRecDepth 100000 in
theorem rename0 {W : World} {S : Nat → Prop} {d : Nat} {D : Dsk} {p q : Addr} {bs bt : Nat} {s t : ByteArray} (h : DskAt W S d D) (hs : s.size ≤ maxLen) (ht : t.size ≤ maxLen)
    (hcs : W.cell? ⟨bs, 0, none⟩ = some (.string s)) (hct : W.cell? ⟨bt, 0, none⟩ = some (.string t)) (r0 : Int) (hr : (namedB t = false ∧ r0 = 14) ∨ (namedB t = true ∧ s = t ∧ r0 = 0)) :
    Calls Try.prog 75 #[.pointer (some p), .pointer (some ⟨bt, 0, none⟩), .pointer (some ⟨bs, 0, none⟩), .pointer (some q)] W fun e w' => ∃ r, e = .returned (.int .i64 r) ∧ r = r0 ∧ Kp W w' (WR W S) ∧ DskAt w' (Nw W w' S) d D := by
  have hfin : ∀ k, Kp W (W.drewN k) (WR W S) ∧ DskAt (W.drewN k) (Nw W (W.drewN k) S) d D := fun k => ⟨(Kp.refl _ _).drewN k, (h.step (fun _ _ h => h) (fun _ _ _ => rfl) : DskAt (W.drewN k) S d D).mono (fun _ _ h => .inl h)⟩
  have HF := Aside0.mk hfin
  clear hfin h
  rcases hr with ⟨hN, rfl⟩ | ⟨hN, rfl, rfl⟩
  · go_enter Try.func75, Try.ntmps75
    go_wp2_with fail
    refine (named_calls t ht W).mono ?_
    rintro e w1 ⟨rfl, hdr⟩
    rw [hN]
    obtain ⟨k, rfl⟩ := hdr.out
    go_wp2
    go_ret
    exact ⟨_, rfl, rfl, HF.out k⟩
  · go_enter Try.func75, Try.ntmps75
    go_wp2_with fail
    refine (named_calls s ht W).mono ?_
    rintro e w1 ⟨rfl, hdr⟩
    rw [hN]
    obtain ⟨k, rfl⟩ := hdr.out
    go_wp2
    go_ret
    exact ⟨_, rfl, rfl, HF.out k⟩
set_option maxRecDepth 100000 in
/-- disk.Rename -/
theorem rename_calls {W : World} {S : Nat → Prop} {d : Nat} {D : Dsk} {s t : ByteArray} (h : DskAt W S d D) (hs : s.size ≤ maxLen) (ht : t.size ≤ maxLen) (ok : D.files.length ≤ 1000) :
    Calls Try.prog 31 #[.pointer (some ⟨d, 0, none⟩), .string s, .string t] W fun e w' => e = .returned (.int .i64 (dRename D s t).1) ∧ Kp W w' (WR W S) ∧ DskAt w' (Nw W w' S) d (dRename D s t).2 := by
  have hb1 := below_alloc (Below.refl W.heap.size W) (.cells #[.pointer (some ⟨d, 0, none⟩)] 25 (0, 0))
  have hb2 := below_alloc hb1 (.cells #[.string s] 9 (0, 0))
  have hb3 := below_alloc hb2 (.cells #[.string t] 9 (0, 0))
  have hh := h.below hb3
  obtain ⟨m, own, T, hin, hD, hg⟩ := hh.in_ s.data.toList
  obtain ⟨es, c, hmap⟩ : ∃ es c, W.heap[m]? = some (.map es c) := by
    obtain ⟨m', own', T', ⟨_, _, hh', ht', _⟩, _⟩ := h
    have e : m' = m := by
      have h1 := (hb3.block d (blk_lt hh')).trans hh'
      rw [hin.2.2.1] at h1
      simp at h1
      exact h1.symm
    subst e
    exact ht'.map
  have hml := blk_lt hmap
  have c0 : (((W.alloc (.cells #[.pointer (some ⟨d, 0, none⟩)] 25 (0, 0))).alloc (.cells #[.string s] 9 (0, 0))).alloc (.cells #[.string t] 9 (0, 0))).cell? ⟨W.heap.size, 0, none⟩ = some (.pointer (some ⟨d, 0, none⟩)) := by simp [go_sem]
  have c1 : (((W.alloc (.cells #[.pointer (some ⟨d, 0, none⟩)] 25 (0, 0))).alloc (.cells #[.string s] 9 (0, 0))).alloc (.cells #[.string t] 9 (0, 0))).cell? ⟨W.heap.size + 1, 0, none⟩ = some (.string s) := by simp [go_sem]
  have c2 : (((W.alloc (.cells #[.pointer (some ⟨d, 0, none⟩)] 25 (0, 0))).alloc (.cells #[.string s] 9 (0, 0))).alloc (.cells #[.string t] 9 (0, 0))).cell? ⟨W.heap.size + 2, 0, none⟩ = some (.string t) := by simp [go_sem]
  cases ha : aget s.data.toList D.files with
  | none =>
    have hr : dRename D s t = (8, D) := by unfold dRename; rw [ha]
    rw [hr]
    have hc := gone_rename (caps := #[.pointer (some ⟨W.heap.size + 2, 0, none⟩), .pointer (some ⟨W.heap.size + 1, 0, none⟩), .pointer (some ⟨W.heap.size, 0, none⟩)]) hin hs (tb_none (hg.symm.trans ha))
    have HC := Aside0.mk hc
    have HF := Aside0.mk (lift hb3 ⟨Kp.refl _ _, hh.mono (fun _ _ h => .inl h)⟩)
    clear hr ha hg hD hin hc h hh hb1 hb2 hb3 hmap c0 c1 c2
    go_enter Try.func31, Try.ntmps31
    go_wp2_with fail
    refine HC.out.mono ?_
    rintro e w' ⟨rfl, rfl⟩
    go_wp2
    go_ret
    exact ⟨rfl, HF.out⟩
  | some f =>
    obtain ⟨b, hb⟩ := tb_some (hg.symm.trans ha)
    have hcK : ∃ R, dRename D s t = R ∧ Calls Try.prog 75 (#[.pointer (some ⟨b, 0, none⟩)] ++ #[.pointer (some ⟨W.heap.size + 2, 0, none⟩), .pointer (some ⟨W.heap.size + 1, 0, none⟩), .pointer (some ⟨W.heap.size, 0, none⟩)])
        (((W.alloc (.cells #[.pointer (some ⟨d, 0, none⟩)] 25 (0, 0))).alloc (.cells #[.string s] 9 (0, 0))).alloc (.cells #[.string t] 9 (0, 0))) fun e w' => ∃ r, e = .returned (.int .i64 r) ∧ r = R.1 ∧
          Kp (((W.alloc (.cells #[.pointer (some ⟨d, 0, none⟩)] 25 (0, 0))).alloc (.cells #[.string s] 9 (0, 0))).alloc (.cells #[.string t] 9 (0, 0))) w' (WR (((W.alloc (.cells #[.pointer (some ⟨d, 0, none⟩)] 25 (0, 0))).alloc (.cells #[.string s] 9 (0, 0))).alloc (.cells #[.string t] 9 (0, 0))) S) ∧
          DskAt w' (Nw (((W.alloc (.cells #[.pointer (some ⟨d, 0, none⟩)] 25 (0, 0))).alloc (.cells #[.string s] 9 (0, 0))).alloc (.cells #[.string t] 9 (0, 0))) w' S) d R.2 := by
      by_cases hN : namedB t = false
      · exact ⟨(14, D), by unfold dRename; rw [ha]; simp [hN], by simpa using rename0 (p := ⟨b, 0, none⟩) (q := ⟨W.heap.size, 0, none⟩) hh hs ht c1 c2 14 (.inl ⟨hN, rfl⟩)⟩
      · have hN' : namedB t = true := by simpa using hN
        by_cases he : s = t
        · exact ⟨(0, D), by unfold dRename; rw [ha]; simp [hN', he], by simpa using rename0 (p := ⟨b, 0, none⟩) (q := ⟨W.heap.size, 0, none⟩) hh hs ht c1 c2 0 (.inr ⟨hN', he, rfl⟩)⟩
        · refine ⟨(0, ⟨D.room, aput t.data.toList f (adel s.data.toList D.files)⟩), by unfold dRename; rw [ha]; simp [hN', he], ?_⟩
          have hl : T.length ≤ 1000 := by
            have := congrArg List.length hD
            unfold tfil at this
            rw [amap_len] at this
            omega
          have := rename1 hin hs ht hb c0 c1 c2 (by omega) (by omega) (by omega) hN' he hl
          rw [← hD]
          refine (show Calls Try.prog 75 _ _ _ from this).mono ?_
          rintro e w' ⟨r, rfl, rfl, hk, hd⟩
          exact ⟨_, rfl, rfl, hk, _, _, _, hd, by rw [tfil_put, tfil_del]⟩
    obtain ⟨R, hR, hK⟩ := hcK
    rw [hR]
    have hc := with_rename hin hs hb hK
    have HC := Aside0.mk hc
    have HB := Aside0.mk hb3
    clear ha hg hin hc h hD hb hh hb1 hb2 hb3 hmap hK hR c0 c1 c2
    go_enter Try.func31, Try.ntmps31
    go_wp2_with fail
    refine HC.out.mono ?_
    rintro e w' ⟨r, rfl, rfl, hk, hd⟩
    have HF := Aside0.mk (lift HB.out ⟨hk, hd⟩)
    clear hk hd
    go_wp2
    go_ret
    exact ⟨rfl, HF.out⟩
end Go.Proofs.Ytmmiipnmimjojaa.PS
end
