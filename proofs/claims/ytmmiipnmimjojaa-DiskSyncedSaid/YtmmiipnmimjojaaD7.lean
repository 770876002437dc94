/- disk.Remove, Rename. -/
import Derived.Test.YtmmiipnmimjojaaD6
namespace Go.Proofs.Ytmmiipnmimjojaa.PS
open Go.RowKit Go.Proofs.YtmmiipnmimjojaaW.PrintWords Go.Proofs.YtmmiipnmimjojaaW.PrintLast Go.Proofs.YtmmiipnmimjojaaW.PrintMore
open Go.Maps Go.Proofs.Ytmmiipnmimjojaa.PD
attribute [local go_sem ↓] Go.wp_at_zero Go.wp_at_succ
set_option linter.unusedVariables false
set_option linter.unusedSimpArgs false
section
variable {W W1 : World} {S : Nat → Prop} {d m : Nat} {own : Nat → Nat} {T : Tb} {room : Int} {n : Nm} {b : Nat} {f f' : Fil}
/-- The map alone is turned, to a table of files that were there. -/
theorem DskIn.map_turn {T' : Tb} (h : DskIn W S d m own T room) (hk : Kp W W1 (fun k => k = m)) (ht : Tbl W1 m (tblk T')) (hs : Srt T') (hsub : ∀ n b f, (n, b, f) ∈ T' → ∃ n', (n', b, f) ∈ T) (hnd : (T'.map fun e => e.2.1).Nodup) : DskIn W1 (Nw W W1 S) d m own T' room := by
  obtain ⟨hd, hM, hh, ht0, _, hfs, _⟩ := h
  obtain ⟨es, c, hmap⟩ := ht0.map
  have hdm : d ≠ m := fun e => by subst e; rw [hh] at hmap; cases hmap
  refine ⟨.inl hd, .inl hM, (hk.block d (blk_lt hh) hdm).trans hh, ht, hs, fun n b f hx => ?_, hnd⟩
  obtain ⟨n', hx'⟩ := hsub n b f hx
  refine (hfs _ _ _ hx').step (fun _ _ h => .inl h) (fun _ _ => rfl) (fun x hx hS hxx => hk.block x hx (fun e => ?_))
  subst e
  rcases hxx with e | e | e
  · obtain ⟨cs, hc⟩ := (hfs _ _ _ hx').blk
    rw [← e, hmap] at hc
    cases hc
  · obtain ⟨_, cs, hc⟩ := e
    rw [hmap] at hc
    cases hc
  · exact U8.ne_map hmap e
end
theorem nodup_del {n : Nm} {T : Tb} (h : (T.map fun e => e.2.1).Nodup) : ((adel n T).map fun e => e.2.1).Nodup := h.sublist (List.Sublist.map _ List.filter_sublist)
def dRemove (D : Dsk) (s : ByteArray) : Int × Dsk := match aget s.data.toList D.files with
  | none => (8, D)
  | some _ => (0, ⟨D.room, adel s.data.toList D.files⟩)
theorem turned_cell {w w' : World} {m : Nat} (h : w.mapTurned w' m) {a : Addr} (hm : a.block ≠ m) : w'.cell? a = w.cell? a := by
  obtain ⟨es, c, es', c', hb, rfl⟩ := h
  exact World.cell?_of_block (w := w) (ChangeMaps.heap_setBlock_other hb _ hm)
theorem Kp.turned {w w' : World} {m : Nat} (h : w.mapTurned w' m) : Kp w w' (fun k => k = m) := by
  have hg := h.grown
  exact ⟨hg.os, hg.tape, hg.output, hg.size, fun k hk hn => hg.block k hk (fun e => hn (by injection e))⟩
theorem Kp.of_drew {w w' : World} {P : Nat → Prop} (h : Kp w.drew w' P) : Kp w w' P := ⟨h.os, h.tape, h.output, h.size, h.block⟩
theorem Kp.of_drewN {w w' : World} {k : Nat} {P : Nat → Prop} (h : Kp (w.drewN k) w' P) : Kp w w' P := ⟨h.os, h.tape, h.output, h.size, h.block⟩
theorem wr_m {W : World} {S : Nat → Prop} {d m : Nat} {own : Nat → Nat} {T : Tb} {room : Int} (h : DskIn W S d m own T room) : WR W S m := by
  obtain ⟨es, c, hmap⟩ := h.2.2.2.1.map
  exact ⟨h.2.1, U8.ne_map hmap⟩
set_option maxRecDepth 100000 in
theorem remove1 {W : World} {S : Nat → Prop} {d m : Nat} {own : Nat → Nat} {T : Tb} {room : Int} {bd bs : Nat} {p : Addr} {s : ByteArray} (h : DskIn W S d m own T room) (hs : s.size ≤ maxLen)
    (hd : W.cell? ⟨bd, 0, none⟩ = some (.pointer (some ⟨d, 0, none⟩))) (hn : W.cell? ⟨bs, 0, none⟩ = some (.string s)) (hbd : bd ≠ m) (hbs : bs ≠ m) :
    Calls Try.prog 76 #[.pointer (some p), .pointer (some ⟨bd, 0, none⟩), .pointer (some ⟨bs, 0, none⟩)] W fun e w' => ∃ r, e = .returned (.int .i64 r) ∧ r = 0 ∧ Kp W w' (WR W S) ∧ DskIn w' (Nw W w' S) d m own (adel s.data.toList T) room := by
  obtain ⟨es, c, hmap⟩ := h.2.2.2.1.map
  have hdm : d ≠ m := fun e => by have h1 := h.2.2.1; rw [e, hmap] at h1; cases h1
  have hc1 : W.cell? ⟨d, 1, none⟩ = some (.map (some m)) := blk_cell h.2.2.1 1
  have ht : W.drew.ownsMap Try.prog 9 ptrElem m (tblk T).length (dOf (tblk T)) := h.2.2.2.1
  obtain ⟨w2, hrun, hown2, htn⟩ := World.ownsMap.drop ht law9 Try.underlying103 (key_str s hs) 0
  have hq1 : w2.cell? ⟨bd, 0, none⟩ = some (.pointer (some ⟨d, 0, none⟩)) := (turned_cell htn hbd).trans hd
  have hq2 : w2.cell? ⟨bs, 0, none⟩ = some (.string s) := (turned_cell htn hbs).trans hn
  have hq3 : w2.cell? ⟨d, 1, none⟩ = some (.map (some m)) := (turned_cell htn hdm).trans hc1
  have hkp : Kp W w2 (fun k => k = m) := Kp.of_drew (Kp.turned htn)
  have HF := Aside0.mk (show Kp W w2 (WR W S) ∧ DskIn w2 (Nw W w2 S) d m own (adel s.data.toList T) room from
    ⟨hkp.mono (fun k e => by rw [e]; exact wr_m h), h.map_turn hkp (by rw [tblk_del]; exact Tbl.del_of hown2) (adel_srt h.2.2.2.2.1) (fun n b f hx => ⟨n, (adel_mem.1 hx).1⟩) (nodup_del h.2.2.2.2.2.2)⟩)
  clear hmap h ht hown2 htn hkp
  go_enter Try.func76, Try.ntmps76
  go_wp2_with fail
  go_region_held3 (fun w' => w'.cell? ⟨bd, 0, none⟩ = some (.pointer (some ⟨d, 0, none⟩)) ∧ w'.cell? ⟨bs, 0, none⟩ = some (.string s) ∧ w'.cell? ⟨d, 1, none⟩ = some (.map (some m))) (first | (exact ⟨hq1, hq2, hq3⟩) | go_keep) (fail)
  go_wp2
  go_ret
  exact ⟨_, rfl, rfl, HF.out⟩
theorem Kp.lift {W W2 w' : World} {S : Nat → Prop} (hb : Below W.heap.size W W2) (k : Kp W2 w' (WR W2 S)) : Kp W w' (WR W S) :=
  (Kp.of_below hb (WR W S)).trans k (fun i hi h => ⟨h.1, fun hu => h.2 (hu.of_same (hb.block i hi))⟩)
theorem Nw.lift {W W2 w' : World} {S : Nat → Prop} (hb : Below W.heap.size W W2) {k : Nat} (h : Nw W2 w' S k) : Nw W w' S k := by
  rcases h with h | h
  · exact .inl h
  · exact .inr ⟨Nat.le_trans hb.size h.1, h.2⟩
/-- The same from an earlier world on. -/
theorem lift {W W2 w' : World} {S : Nat → Prop} {d : Nat} {D : Dsk} (hb : Below W.heap.size W W2) (h : Kp W2 w' (WR W2 S) ∧ DskAt w' (Nw W2 w' S) d D) : Kp W w' (WR W S) ∧ DskAt w' (Nw W w' S) d D :=
  ⟨h.1.lift hb, h.2.mono fun k _ hk => hk.lift hb⟩
set_option maxRecDepth 100000 in
/-- disk.Remove -/
theorem remove_calls {W : World} {S : Nat → Prop} {d : Nat} {D : Dsk} {s : ByteArray} (h : DskAt W S d D) (hs : s.size ≤ maxLen) :
    Calls Try.prog 34 #[.pointer (some ⟨d, 0, none⟩), .string s] W fun e w' => e = .returned (.int .i64 (dRemove D s).1) ∧ Kp W w' (WR W S) ∧ DskAt w' (Nw W w' S) d (dRemove D s).2 := by
  have hb1 := below_alloc (Below.refl W.heap.size W) (.cells #[.pointer (some ⟨d, 0, none⟩)] 25 (0, 0))
  have hb2 := below_alloc hb1 (.cells #[.string s] 9 (0, 0))
  have hh := h.below hb2
  obtain ⟨m, own, T, hin, hD, hg⟩ := hh.in_ s.data.toList
  obtain ⟨es, c, hmap⟩ : ∃ es c, W.heap[m]? = some (.map es c) := by
    obtain ⟨m', own', T', ⟨_, _, hh', ht', _⟩, _⟩ := h
    have e : m' = m := by
      have h1 := (hb2.block d (blk_lt hh')).trans hh'
      rw [hin.2.2.1] at h1
      simp at h1
      exact h1.symm
    subst e
    exact ht'.map
  have hml := blk_lt hmap
  cases ha : aget s.data.toList D.files with
  | none =>
    have hr : dRemove D s = (8, D) := by unfold dRemove; rw [ha]
    rw [hr]
    have hc := gone_remove (caps := #[.pointer (some ⟨W.heap.size, 0, none⟩), .pointer (some ⟨W.heap.size + 1, 0, none⟩)]) hin hs (tb_none (hg.symm.trans ha))
    have HC := Aside0.mk hc
    have HF := Aside0.mk (lift hb2 ⟨Kp.refl _ _, hh.mono (fun _ _ h => .inl h)⟩)
    clear hr ha hg hD hin hc h hh hb1 hb2 hmap
    go_enter Try.func34, Try.ntmps34
    go_wp2_with fail
    refine HC.out.mono ?_
    rintro e w' ⟨rfl, rfl⟩
    go_wp2
    go_ret
    exact ⟨rfl, HF.out⟩
  | some f =>
    have hr : dRemove D s = (0, ⟨D.room, adel s.data.toList D.files⟩) := by unfold dRemove; rw [ha]
    rw [hr]
    obtain ⟨b, hb⟩ := tb_some (hg.symm.trans ha)
    have hc := with_remove (caps := #[.pointer (some ⟨W.heap.size, 0, none⟩), .pointer (some ⟨W.heap.size + 1, 0, none⟩)]) hin hs hb
      (by simpa using remove1 (bd := W.heap.size) (bs := W.heap.size + 1) (p := ⟨b, 0, none⟩) hin hs (blk_cell (blk_alloc (blk_new _ _) _) 0) (by simp [go_sem]) (by omega) (by omega))
    rw [← hD]
    have HC := Aside0.mk hc
    have HB := Aside0.mk hb2
    clear hr ha hg hin hc h hD hb hh hb1 hb2 hmap
    go_enter Try.func34, Try.ntmps34
    go_wp2_with fail
    refine HC.out.mono ?_
    rintro e w' ⟨r, rfl, rfl, hk, hd⟩
    have HF := Aside0.mk (lift (d := d) (D := ⟨D.room, adel s.data.toList (tfil T)⟩) HB.out ⟨hk, _, _, _, hd, tfil_del⟩)
    clear hk hd
    go_wp2
    go_ret
    exact ⟨rfl, HF.out⟩
def dRename (D : Dsk) (s t : ByteArray) : Int × Dsk := match aget s.data.toList D.files with
  | none => (8, D)
  | some f => if namedB t = false then (14, D) else if s = t then (0, D) else (0, ⟨D.room, aput t.data.toList f (adel s.data.toList D.files)⟩)
theorem put_del {α : Type} {n k : Nm} {x : α} {T : List (Nm × α)} (h : Srt T) (hne : n ≠ k) : adel k (aput n x T) = aput n x (adel k T) :=
  srt_get (adel_srt (aput_srt h)) (aput_srt (adel_srt h)) fun i => by
    rw [aget_del (aput_srt h), aget_put h, aget_put (adel_srt h), aget_del h]
    by_cases h1 : i = k
    · subst h1
      rw [if_pos rfl, if_neg (fun e => hne e.symm), if_pos rfl]
    · rw [if_neg h1, if_neg h1]
theorem DskIn.drewN {W : World} {S : Nat → Prop} {d m : Nat} {own : Nat → Nat} {T : Tb} {room : Int} (h : DskIn W S d m own T room) (k : Nat) : DskIn (W.drewN k) S d m own T room := by
  obtain ⟨hd, hM, hh, ht, hs, hf, hnd⟩ := h
  exact ⟨hd, hM, hh, ht, hs, fun n b f hx => (hf n b f hx).step (fun _ _ h => h) (fun _ _ => rfl) (fun _ _ _ _ => rfl), hnd⟩
theorem rename_fin {W w2 w3 : World} {S : Nat → Prop} {d m : Nat} {own : Nat → Nat} {T : Tb} {room : Int} {n k : Nm} {b q : Nat} {f : Fil} (h : DskIn W S d m own T room) (hm : (k, b, f) ∈ T) (hne : n ≠ k)
    (ho : w3.ownsMap Try.prog 9 ptrElem m q (((dOf (tblk T)).put (.string n) (.lit (.int .i64 b))).del (.string k))) (h2 : Kp W w2 (fun k => k = m)) (h3 : Kp w2 w3 (fun k => k = m)) :
    Kp W w3 (WR W S) ∧ DskIn w3 (Nw W w3 S) d m own (aput n (b, f) (adel k T)) room := by
  have hk := h2.trans h3 (fun _ _ e => e)
  have hs := h.2.2.2.2.1
  have hnd := h.2.2.2.2.2.2
  refine ⟨hk.mono fun k e => by rw [e]; exact wr_m h, h.map_turn hk ?_ (aput_srt (adel_srt hs)) ?_ ?_⟩
  · rw [dOf_put (L := tblk T) (srt_map _ hs), dOf_del, put_del (T := tblk T) (srt_map _ hs) hne] at ho
    rw [tblk_put, tblk_del]
    exact own_exact ho (by rw [dOf_size]; exact Nat.le_refl _)
  · intro n' b' f' hx
    rcases (aput_mem (adel_srt hs)).1 hx with e | ⟨hx, _⟩
    · cases e; exact ⟨k, hm⟩
    · exact ⟨n', (adel_mem.1 hx).1⟩
  · refine nodup_put (T := T) (adel_srt hs) (nodup_del hnd) (fun n' f0 hx => ?_)
    obtain ⟨hx1, hx2⟩ := adel_mem.1 hx
    have := mem_nodup hnd hx1 hm
    injection this with e _
    exact absurd e hx2
theorem ne_str {s t : ByteArray} (h : s ≠ t) : s.data.toList ≠ t.data.toList := fun e => h (by
  obtain ⟨⟨l⟩⟩ := s
  obtain ⟨⟨r⟩⟩ := t
  simp at e
  rw [e])
set_option maxHeartbeats 1000000 in
set_option maxRecDepth 100000 in
theorem rename1 {W : World} {S : Nat → Prop} {d m : Nat} {own : Nat → Nat} {T : Tb} {room : Int} {bd bs bt b : Nat} {f : Fil} {s t : ByteArray} (h : DskIn W S d m own T room) (hs : s.size ≤ maxLen) (ht : t.size ≤ maxLen)
    (hg : aget s.data.toList T = some (b, f)) (hd : W.cell? ⟨bd, 0, none⟩ = some (.pointer (some ⟨d, 0, none⟩))) (hcs : W.cell? ⟨bs, 0, none⟩ = some (.string s)) (hct : W.cell? ⟨bt, 0, none⟩ = some (.string t)) (hbd : bd ≠ m) (hbs : bs ≠ m) (hbt : bt ≠ m) (hN : namedB t = true) (hne : s ≠ t) (hroom : T.length ≤ 1000) :
    Calls Try.prog 75 #[.pointer (some ⟨b, 0, none⟩), .pointer (some ⟨bt, 0, none⟩), .pointer (some ⟨bs, 0, none⟩), .pointer (some ⟨bd, 0, none⟩)] W fun e w' => ∃ r, e = .returned (.int .i64 r) ∧ r = 0 ∧ Kp W w' (WR W S) ∧ DskIn w' (Nw W w' S) d m own (aput t.data.toList (b, f) (adel s.data.toList T)) room := by
  obtain ⟨es, c, hmap⟩ := h.2.2.2.1.map
  have hdm : d ≠ m := fun e => by have h1 := h.2.2.1; rw [e, hmap] at h1; cases h1
  have hc1 : W.cell? ⟨d, 1, none⟩ = some (.map (some m)) := blk_cell h.2.2.1 1
  have hne1 : (s.toList == t.toList) = false := by
    rw [ByteArray.toList_eq, ByteArray.toList_eq]
    simpa using ne_str hne
  have H := Aside0.mk h
  have HG := Aside0.mk (aget_mem hg)
  have HT := Aside0.mk (show W.ownsMap Try.prog 9 ptrElem m (tblk T).length (dOf (tblk T)) from h.2.2.2.1)
  have HNE := Aside0.mk (ne_str (fun e => hne e.symm) : t.data.toList ≠ s.data.toList)
  have hTl : (tblk T).length < maxLen := by unfold tblk; rw [amap_len]; unfold maxLen; omega
  clear h hg hmap hne
  go_enter Try.func75, Try.ntmps75
  go_wp2_with fail
  refine (named_calls t ht W).mono ?_
  rintro e w1 ⟨rfl, hdr⟩
  rw [hN]
  obtain ⟨k, rfl⟩ := hdr.out
  clear hdr
  have H0 := H.out.drewN (k + 1)
  obtain ⟨w2, hrun, hown2, htn⟩ := World.ownsMap.store (w := W.drewN (k + 1)) HT.out law9 Try.underlying103 hTl (key_str t ht) (val := .pointer (some ⟨b, 0, none⟩)) (d := .lit (.int .i64 b)) (ps := []) rfl
  have hq1 : w2.cell? ⟨bd, 0, none⟩ = some (.pointer (some ⟨d, 0, none⟩)) := (turned_cell htn hbd).trans hd
  have hq2 : w2.cell? ⟨bs, 0, none⟩ = some (.string s) := (turned_cell htn hbs).trans hcs
  have hq3 : w2.cell? ⟨d, 1, none⟩ = some (.map (some m)) := (turned_cell htn hdm).trans hc1
  have hq4 : w2.cell? ⟨bt, 0, none⟩ = some (.string t) := (turned_cell htn hbt).trans hct
  obtain ⟨w3, hrun3, hown3, htn3⟩ := World.ownsMap.drop (w := w2.drew) hown2 law9 Try.underlying103 (key_str s hs) 0
  have hr1 : w3.cell? ⟨bd, 0, none⟩ = some (.pointer (some ⟨d, 0, none⟩)) := (turned_cell htn3 hbd).trans hq1
  have hr2 : w3.cell? ⟨bs, 0, none⟩ = some (.string s) := (turned_cell htn3 hbs).trans hq2
  have hr3 : w3.cell? ⟨d, 1, none⟩ = some (.map (some m)) := (turned_cell htn3 hdm).trans hq3
  have HF := Aside0.mk (rename_fin H.out HG.out HNE.out hown3 (Kp.of_drewN (Kp.turned htn)) (Kp.of_drew (Kp.turned htn3)))
  clear hown2 hown3 htn htn3 H0
  go_wp2_with fail
  go_region_held3 (fun w' => w'.cell? ⟨bd, 0, none⟩ = some (.pointer (some ⟨d, 0, none⟩)) ∧ w'.cell? ⟨bt, 0, none⟩ = some (.string t) ∧ w'.cell? ⟨d, 1, none⟩ = some (.map (some m))) (first | (exact ⟨hq1, hq4, hq3⟩) | go_keep) (fail)
  go_wp2
  go_region_held3 (fun w' => w'.cell? ⟨bd, 0, none⟩ = some (.pointer (some ⟨d, 0, none⟩)) ∧ w'.cell? ⟨bs, 0, none⟩ = some (.string s) ∧ w'.cell? ⟨d, 1, none⟩ = some (.map (some m))) (first | (exact ⟨hr1, hr2, hr3⟩) | go_keep) (fail)
  go_wp2
  go_ret
  exact ⟨_, rfl, rfl, HF.out⟩
set_option maxRecDepth 100000 in
theorem rename0 {W : World} {S : Nat → Prop} {d : Nat} {D : Dsk} {p q : Addr} {bs bt : Nat} {s t : ByteArray} (h : DskAt W S d D) (hs : s.size ≤ maxLen) (ht : t.size ≤ maxLen)
    (hcs : W.cell? ⟨bs, 0, none⟩ = some (.string s)) (hct : W.cell? ⟨bt, 0, none⟩ = some (.string t)) (r0 : Int) (hr : (namedB t = false ∧ r0 = 14) ∨ (namedB t = true ∧ s = t ∧ r0 = 0)) :
    Calls Try.prog 75 #[.pointer (some p), .pointer (some ⟨bt, 0, none⟩), .pointer (some ⟨bs, 0, none⟩), .pointer (some q)] W fun e w' => ∃ r, e = .returned (.int .i64 r) ∧ r = r0 ∧ Kp W w' (WR W S) ∧ DskAt w' (Nw W w' S) d D := by
  have hfin : ∀ k, Kp W (W.drewN k) (WR W S) ∧ DskAt (W.drewN k) (Nw W (W.drewN k) S) d D := fun k => ⟨(Kp.refl _ _).drewN k, (h.step (fun _ _ h => h) (fun _ _ _ => rfl) : DskAt (W.drewN k) S d D).mono (fun _ _ h => .inl h)⟩
  have HF := Aside0.mk hfin
  clear hfin h
  rcases hr with ⟨hN, rfl⟩ | ⟨hN, rfl, rfl⟩
  · go_enter Try.func75, Try.ntmps75
    go_wp2_with fail
    refine (named_calls t ht W).mono ?_
    rintro e w1 ⟨rfl, hdr⟩
    rw [hN]
    obtain ⟨k, rfl⟩ := hdr.out
    go_wp2
    go_ret
    exact ⟨_, rfl, rfl, HF.out k⟩
  · go_enter Try.func75, Try.ntmps75
    go_wp2_with fail
    refine (named_calls s ht W).mono ?_
    rintro e w1 ⟨rfl, hdr⟩
    rw [hN]
    obtain ⟨k, rfl⟩ := hdr.out
    go_wp2
    go_ret
    exact ⟨_, rfl, rfl, HF.out k⟩
set_option maxRecDepth 100000 in
/-- disk.Rename -/
theorem rename_calls {W : World} {S : Nat → Prop} {d : Nat} {D : Dsk} {s t : ByteArray} (h : DskAt W S d D) (hs : s.size ≤ maxLen) (ht : t.size ≤ maxLen) (ok : D.files.length ≤ 1000) :
    Calls Try.prog 31 #[.pointer (some ⟨d, 0, none⟩), .string s, .string t] W fun e w' => e = .returned (.int .i64 (dRename D s t).1) ∧ Kp W w' (WR W S) ∧ DskAt w' (Nw W w' S) d (dRename D s t).2 := by
  have hb1 := below_alloc (Below.refl W.heap.size W) (.cells #[.pointer (some ⟨d, 0, none⟩)] 25 (0, 0))
  have hb2 := below_alloc hb1 (.cells #[.string s] 9 (0, 0))
  have hb3 := below_alloc hb2 (.cells #[.string t] 9 (0, 0))
  have hh := h.below hb3
  obtain ⟨m, own, T, hin, hD, hg⟩ := hh.in_ s.data.toList
  obtain ⟨es, c, hmap⟩ : ∃ es c, W.heap[m]? = some (.map es c) := by
    obtain ⟨m', own', T', ⟨_, _, hh', ht', _⟩, _⟩ := h
    have e : m' = m := by
      have h1 := (hb3.block d (blk_lt hh')).trans hh'
      rw [hin.2.2.1] at h1
      simp at h1
      exact h1.symm
    subst e
    exact ht'.map
  have hml := blk_lt hmap
  have c0 : (((W.alloc (.cells #[.pointer (some ⟨d, 0, none⟩)] 25 (0, 0))).alloc (.cells #[.string s] 9 (0, 0))).alloc (.cells #[.string t] 9 (0, 0))).cell? ⟨W.heap.size, 0, none⟩ = some (.pointer (some ⟨d, 0, none⟩)) := by simp [go_sem]
  have c1 : (((W.alloc (.cells #[.pointer (some ⟨d, 0, none⟩)] 25 (0, 0))).alloc (.cells #[.string s] 9 (0, 0))).alloc (.cells #[.string t] 9 (0, 0))).cell? ⟨W.heap.size + 1, 0, none⟩ = some (.string s) := by simp [go_sem]
  have c2 : (((W.alloc (.cells #[.pointer (some ⟨d, 0, none⟩)] 25 (0, 0))).alloc (.cells #[.string s] 9 (0, 0))).alloc (.cells #[.string t] 9 (0, 0))).cell? ⟨W.heap.size + 2, 0, none⟩ = some (.string t) := by simp [go_sem]
  cases ha : aget s.data.toList D.files with
  | none =>
    have hr : dRename D s t = (8, D) := by unfold dRename; rw [ha]
    rw [hr]
    have hc := gone_rename (caps := #[.pointer (some ⟨W.heap.size + 2, 0, none⟩), .pointer (some ⟨W.heap.size + 1, 0, none⟩), .pointer (some ⟨W.heap.size, 0, none⟩)]) hin hs (tb_none (hg.symm.trans ha))
    have HC := Aside0.mk hc
    have HF := Aside0.mk (lift hb3 ⟨Kp.refl _ _, hh.mono (fun _ _ h => .inl h)⟩)
    clear hr ha hg hD hin hc h hh hb1 hb2 hb3 hmap c0 c1 c2
    go_enter Try.func31, Try.ntmps31
    go_wp2_with fail
    refine HC.out.mono ?_
    rintro e w' ⟨rfl, rfl⟩
    go_wp2
    go_ret
    exact ⟨rfl, HF.out⟩
  | some f =>
    obtain ⟨b, hb⟩ := tb_some (hg.symm.trans ha)
    have hcK : ∃ R, dRename D s t = R ∧ Calls Try.prog 75 (#[.pointer (some ⟨b, 0, none⟩)] ++ #[.pointer (some ⟨W.heap.size + 2, 0, none⟩), .pointer (some ⟨W.heap.size + 1, 0, none⟩), .pointer (some ⟨W.heap.size, 0, none⟩)])
        (((W.alloc (.cells #[.pointer (some ⟨d, 0, none⟩)] 25 (0, 0))).alloc (.cells #[.string s] 9 (0, 0))).alloc (.cells #[.string t] 9 (0, 0))) fun e w' => ∃ r, e = .returned (.int .i64 r) ∧ r = R.1 ∧
          Kp (((W.alloc (.cells #[.pointer (some ⟨d, 0, none⟩)] 25 (0, 0))).alloc (.cells #[.string s] 9 (0, 0))).alloc (.cells #[.string t] 9 (0, 0))) w' (WR (((W.alloc (.cells #[.pointer (some ⟨d, 0, none⟩)] 25 (0, 0))).alloc (.cells #[.string s] 9 (0, 0))).alloc (.cells #[.string t] 9 (0, 0))) S) ∧
          DskAt w' (Nw (((W.alloc (.cells #[.pointer (some ⟨d, 0, none⟩)] 25 (0, 0))).alloc (.cells #[.string s] 9 (0, 0))).alloc (.cells #[.string t] 9 (0, 0))) w' S) d R.2 := by
      by_cases hN : namedB t = false
      · exact ⟨(14, D), by unfold dRename; rw [ha]; simp [hN], by simpa using rename0 (p := ⟨b, 0, none⟩) (q := ⟨W.heap.size, 0, none⟩) hh hs ht c1 c2 14 (.inl ⟨hN, rfl⟩)⟩
      · have hN' : namedB t = true := by simpa using hN
        by_cases he : s = t
        · exact ⟨(0, D), by unfold dRename; rw [ha]; simp [hN', he], by simpa using rename0 (p := ⟨b, 0, none⟩) (q := ⟨W.heap.size, 0, none⟩) hh hs ht c1 c2 0 (.inr ⟨hN', he, rfl⟩)⟩
        · refine ⟨(0, ⟨D.room, aput t.data.toList f (adel s.data.toList D.files)⟩), by unfold dRename; rw [ha]; simp [hN', he], ?_⟩
          have hl : T.length ≤ 1000 := by
            have := congrArg List.length hD
            unfold tfil at this
            rw [amap_len] at this
            omega
          have := rename1 hin hs ht hb c0 c1 c2 (by omega) (by omega) (by omega) hN' he hl
          rw [← hD]
          refine (show Calls Try.prog 75 _ _ _ from this).mono ?_
          rintro e w' ⟨r, rfl, rfl, hk, hd⟩
          exact ⟨_, rfl, rfl, hk, _, _, _, hd, by rw [tfil_put, tfil_del]⟩
    obtain ⟨R, hR, hK⟩ := hcK
    rw [hR]
    have hc := with_rename hin hs hb hK
    have HC := Aside0.mk hc
    have HB := Aside0.mk hb3
    clear ha hg hin hc h hD hb hh hb1 hb2 hb3 hmap hK hR c0 c1 c2
    go_enter Try.func31, Try.ntmps31
    go_wp2_with fail
    refine HC.out.mono ?_
    rintro e w' ⟨r, rfl, rfl, hk, hd⟩
    have HF := Aside0.mk (lift HB.out ⟨hk, hd⟩)
    clear hk hd
    go_wp2
    go_ret
    exact ⟨rfl, HF.out⟩
end Go.Proofs.Ytmmiipnmimjojaa.PS
