/- The texts of this claim's seat, joined: part 7. -/
import Derived.Test.YtmmiipnmimjojaaJ6
section
namespace Go.Proofs.Ytmmiipnmimjojaa.PS
open Go.RowKit Go.Proofs.YtmmiipnmimjojaaW.PrintWords Go.Proofs.YtmmiipnmimjojaaW.PrintLast Go.Proofs.YtmmiipnmimjojaaW.PrintMore
open Go.Maps Go.Proofs.Ytmmiipnmimjojaa.PD
set_option linter.unusedVariables false
set_option linter.unusedSimpArgs false
def moreB (f : Fil) (at_ : Int) (b : List Int) : Int := max 0 (at_ + b.length - f.f0.length)
def wFil (f : Fil) (at_ : Int) (b : List Int) : Fil := ⟨layL f.f0 at_.toNat b, f.f1, f.f2, f.f3 ++ [⟨false, 0, at_, b⟩]⟩
def dW2 (D : Dsk) (s : ByteArray) (there : Bool) (f : Fil) (at_ : Int) (b : List Int) : Int × Dsk :=
  if at_ < 0 ∨ (f.f0.length : Int) < at_ then (2, D) else
    if (there = false ∧ 16 ≤ D.files.length) ∨ 262144 < (f.f0.length : Int) + moreB f at_ b then (6, D) else
      if D.room < (usedB D.files : Int) + moreB f at_ b then (9, D) else (0, ⟨D.room, aput s.data.toList (wFil f at_ b) D.files⟩)
def dWrite (D : Dsk) (s : ByteArray) (at_ : Int) (b : List Int) : Int × Dsk :=
  if namedB s = false then (14, D) else dW2 D s (aget s.data.toList D.files).isSome ((aget s.data.toList D.files).getD z110) at_ b
/-- The disk with the file that is written: there it is one of the table's; else it is new, and none's. -/
structure Wr (W w' : World) (S : Nat → Prop) (d m : Nat) (own : Nat → Nat) (T : Tb) (room : Int) (n : Nm) (g : Nat) (f : Fil) (there : Bool) : Prop where
  below : Below W.heap.size W w'
  disk : DskIn w' (Nw W w' S) d m own T room
  file : FilAt w' (Nw W w' S) own g f
  yes : there = true → (n, g, f) ∈ T
  no : there = false → aget n T = none ∧ ∀ n' f', (n', g, f') ∉ T
theorem DskIn.below {W W1 : World} {S : Nat → Prop} {d m : Nat} {own : Nat → Nat} {T : Tb} {room : Int} (h : DskIn W S d m own T room) (hb : Below W.heap.size W W1) : DskIn W1 (Nw W W1 S) d m own T room := by
  obtain ⟨hd, hM, hh, ht, hs, hf, hnd⟩ := h
  obtain ⟨es, c, hmap⟩ := ht.map
  exact ⟨.inl hd, .inl hM, (hb.block d (blk_lt hh)).trans hh, ht.step (hb.block m (blk_lt hmap)), hs, fun n b f hx => (hf n b f hx).step (fun _ _ h => .inl h) (fun _ _ => rfl) (fun k hk _ _ => hb.block k hk), hnd⟩
theorem wr_there {W w1 : World} {S : Nat → Prop} {d m : Nat} {own : Nat → Nat} {T : Tb} {room : Int} {n : Nm} {b : Nat} {f : Fil} (h : DskIn W S d m own T room) (hg : aget n T = some (b, f)) (hb : Below W.heap.size W w1) : Wr W w1 S d m own T room n b f true :=
  ⟨hb, h.below hb, (h.2.2.2.2.2.1 _ _ _ (aget_mem hg)).step (fun _ _ h => .inl h) (fun _ _ => rfl) (fun k hk _ _ => hb.block k hk), fun _ => aget_mem hg, fun h => by cases h⟩
theorem wr_new {W w1 : World} {S : Nat → Prop} {d m : Nat} {own : Nat → Nat} {T : Tb} {room : Int} {n : Nm} (h : DskIn W S d m own T room) (hg : aget n T = none) (hb : Below W.heap.size W w1) (hn : w1.heap[W.heap.size]? = some (.cells #[.slice none 0 0, .slice none 0 0, .bool false, .slice none 0 0] 110 (0, 0))) :
    Wr W w1 S d m (ownN W own W.heap.size) T room n W.heap.size z110 false := by
  have h1 := h.below hb
  have hlt := blk_lt hn
  refine ⟨hb, ?_, ⟨.inr ⟨Nat.le_refl _, hlt⟩, by unfold ownN; rw [if_neg (by omega)], _, _, _, hn, Kd.V_nil _ _ _ _ _, Kd.V_nil _ _ _ _ _, Kd.N_nil _ _ _ _ _, (fun k hk => by cases hk)⟩, (fun h => by cases h), fun _ => ⟨hg, fun n' f' hx => ?_⟩⟩
  · obtain ⟨hd, hM, hh, ht, hs, hf, hnd⟩ := h
    obtain ⟨es, c, hmap⟩ := ht.map
    exact ⟨.inl hd, .inl hM, (hb.block d (blk_lt hh)).trans hh, ht.step (hb.block m (blk_lt hmap)), hs, fun n b f hx => (hf n b f hx).step (fun _ _ h => .inl h) (fun k hk => by unfold ownN; rw [if_pos hk]) (fun k hk _ _ => hb.block k hk), hnd⟩
  · have := (h.2.2.2.2.2.1 _ _ _ hx).lt
    omega
/-- What a call that changed nothing of the disk leaves. -/
theorem wr_still {W w1 : World} {S : Nat → Prop} {d : Nat} {D : Dsk} (h : DskAt W S d D) (hb : Below W.heap.size W w1) : Kp W w1 (WR W S) ∧ DskAt w1 (Nw W w1 S) d D := ⟨Kp.of_below hb _, (h.below hb).mono fun _ _ h => .inl h⟩
theorem Wr.step {W w1 w2 : World} {S : Nat → Prop} {d m : Nat} {own : Nat → Nat} {T : Tb} {room : Int} {n : Nm} {g : Nat} {f : Fil} {th : Bool} (h : Wr W w1 S d m own T room n g f th) (hb : Below w1.heap.size w1 w2) : Wr W w2 S d m own T room n g f th := by
  have hsz := h.below.size
  have hnw : ∀ k, k < w1.heap.size → Nw W w1 S k → Nw W w2 S k := fun k hk hx => by
    rcases hx with hx | hx
    · exact .inl hx
    · exact .inr ⟨hx.1, by have := hb.size; omega⟩
  refine ⟨below_step h.below hb, ?_, h.file.step hnw (fun _ _ => rfl) (fun k hk _ _ => hb.block k hk), h.yes, h.no⟩
  obtain ⟨hd, hM, hh, ht, hs, hf, hnd⟩ := h.disk
  obtain ⟨es, c, hmap⟩ := ht.map
  exact ⟨hnw _ (blk_lt hh) hd, hnw _ (blk_lt hmap) hM, (hb.block d (blk_lt hh)).trans hh, ht.step (hb.block m (blk_lt hmap)), hs, fun n b f hx => (hf n b f hx).step hnw (fun _ _ => rfl) (fun k hk _ _ => hb.block k hk), hnd⟩
theorem aput_adel {n : Nm} {x : Nat × Fil} {T : Tb} (h : Srt T) : aput n x (adel n T) = aput n x T :=
  srt_get (aput_srt (adel_srt h)) (aput_srt h) fun i => by rw [aget_put (adel_srt h), aget_put h, aget_del h]; split <;> rfl
/-- What writing leaves: W: at the call; w2: ahead of the file's turning; W1: ahead of the append; w1: behind it; wf: the file turned; w6: the table too. -/
theorem write_fin {W w2 W1 w1 wf w6 : World} {S : Nat → Prop} {d m q : Nat} {own : Nat → Nat} {T : Tb} {room : Int} {n : Nm} {g : Nat} {f : Fil} {th : Bool} {vn vs vc vn1 v1 : Value} {x0 : S114} {cs : List Value} {rows : List (List Value)} {now1 : List Int}
    (wr : Wr W w2 S d m own T room n g f th) (hh : w2.heap[g]? = some (.cells #[vn, vs, .bool f.f2, vc] 110 (0, 0))) (hs : Kd.V k8 5 w2 0 (RO w2 (Nw W w2 S)) vs f.f1) (hown : ∀ k, vc.ownBlock = some k → Nw W w2 S k ∧ own k = g)
    (hc : Kd.N k114 114 w2 0 (fun k => RO w2 (Nw W w2 S) k ∨ some k = vc.ownBlock) vc f.f3) (hlr : rows.length = f.f3.length)
    (hfk : ∀ (j : Nat) (x : S114) (c : List Value), f.f3[j]? = some x → rows[j]? = some c → Kd.FK k114 w2 (RO w2 (Nw W w2 S)) x c)
    (k1 : Kp w2 W1 (fun k => k = g)) (hg : W1.grownBy w1 vc.ownBlock) (hat : v1.ownBlock = vc.ownBlock ∨ ∃ b, v1.ownBlock = some b ∧ W1.heap.size ≤ b) (hr : (Kd.raw 4).R 114 w1 0 (fun _ => True) v1 (rows ++ [cs])) (ho : OnlyB w1 wf g) (hf : wf.heap[g]? = some (.cells #[vn1, vs, .bool f.f2, v1] 110 (0, 0)))
    (hn1 : Kd.V k8 5 wf 0 (RO wf (Nw w2 wf (Nw W w2 S))) vn1 now1) (hp : Kd.FK k114 wf (RO wf (Nw w2 wf (Nw W w2 S))) x0 cs)
    (hm6 : w6.ownsMap Try.prog 9 ptrElem m q ((dOf (tblk T)).put (.string n) (.lit (.int .i64 g)))) (k6 : Kp wf w6 (fun k => k = m)) :
    Kp W w6 (WR W S) ∧ DskAt w6 (Nw W w6 S) d ⟨room, aput n ⟨now1, f.f1, f.f2, f.f3 ++ [x0]⟩ (tfil T)⟩ := by
  obtain ⟨hd, hM, hhd, ht, hsr, hfs, hnd⟩ := wr.disk
  obtain ⟨es, c, hmap⟩ := ht.map
  have hty := Kd.N_typed hc
  have hgl := blk_lt hh
  have hnodup : ∀ n' f', (n', g, f') ∉ adel n T := fun n' f' hx => by
    obtain ⟨hx1, hx2⟩ := adel_mem.1 hx
    cases th with
    | true =>
      have := mem_nodup hnd hx1 (wr.yes rfl)
      injection this with e _
      exact hx2 e
    | false => exact (wr.no rfl).2 _ _ hx1
  have kf : Kp w2 wf (fun k => k = g ∨ vc.ownBlock = some k) := by
    have k2 : Kp w2 w1 (fun k => k = g ∨ vc.ownBlock = some k) := (k1.mono fun k e => .inl e).grown hg (fun k e => .inl (.inr e))
    exact k2.trans (S2 := fun k => k = g) ⟨ho.os, ho.tape, ho.output, by rw [ho.size]; exact Nat.le_refl _, fun k _ hn => ho.block k hn⟩ (fun k _ e => .inl e)
  have hne : ∀ {x : Nat} {o : Obj}, w2.heap[x]? = some o → (∀ cs, o ≠ .cells cs 110 (0, 0)) → (∀ cs, o ≠ .cells cs 114 (0, 0)) → ¬ (x = g ∨ vc.ownBlock = some x) := by
    intro x o hx h1 h2 he
    rcases he with rfl | he
    · rw [hh] at hx; cases hx; exact h1 _ rfl
    · obtain ⟨cs, hcs⟩ := hty x he
      rw [hcs] at hx; cases hx; exact h2 _ rfl
  have nd := hne hhd (fun _ h => by cases h) (fun _ h => by cases h)
  have nm := hne hmap (fun _ h => by cases h) (fun _ h => by cases h)
  have hu8 : ∀ k, k < w2.heap.size → Nw W w2 S k → U8 w2 k → wf.heap[k]? = w2.heap[k]? := fun k hk hS hu => kf.block k hk (fun e => by
    rcases e with e | e
    · rw [e] at hu; exact U8.ne hh (by decide) hu
    · obtain ⟨cells, hcl⟩ := hty k e
      exact U8.ne hcl (by decide) hu)
  have hv1 : ∀ k, v1.ownBlock = some k → k ≠ g := fun k hk e => by
    subst e
    have hbW1 : W1.heap.size ≤ k ∨ vc.ownBlock = some k := by
      rcases hat with e | ⟨q, hq, hle⟩
      · exact .inr (e.symm.trans hk)
      · rw [hk] at hq; cases hq; exact .inl hle
    rcases hbW1 with e | e
    · have := k1.size; omega
    · obtain ⟨cells', hcl'⟩ := hty k e
      rw [hh] at hcl'; cases hcl'
  have hr' : (Kd.raw 4).R 114 wf 0 (fun _ => True) v1 (rows ++ [cs]) := Kd.R_mono (Kd.R_move (Kd.raw_tight hr) (fun k hk => ho.block k (hv1 k hk.symm))) (fun _ _ => trivial)
  have hfile : FilAt wf (Nw w2 wf (Nw W w2 S)) (ownN w2 own g) g ⟨now1, f.f1, f.f2, f.f3 ++ [x0]⟩ := by
    refine ⟨.inl wr.file.1, by unfold ownN; rw [if_pos hgl]; exact wr.file.2.1, _, _, _, hf, hn1, V_old hs hu8, N_push hlr (fun k hk => hk.2) (fun j x c hx hc => FK_old (hfk j x c hx hc) hu8) hp hr', fun k hk => ?_⟩
    have hlt := Kd.R_lt hr' k hk
    rcases hat with e | ⟨q, hq, hle⟩
    · have hk' := e.symm.trans hk
      have hlt' := Kd.N_lt hc k hk'
      exact ⟨.inl (hown k hk').1, by unfold ownN; rw [if_pos hlt']; exact (hown k hk').2⟩
    · rw [hk] at hq
      cases hq
      have := k1.size
      exact ⟨.inr ⟨by omega, hlt⟩, by unfold ownN; rw [if_neg (by omega)]⟩
  have hothers : ∀ n' b' f', (n', b', f') ∈ adel n T → FilAt wf (Nw w2 wf (Nw W w2 S)) (ownN w2 own g) b' f' := fun n' b' f' hx => by
    have hxT := (adel_mem.1 hx).1
    have hbb : b' ≠ g := fun e => hnodup n' f' (e ▸ hx)
    refine (hfs _ _ _ hxT).step (fun _ _ h => .inl h) (fun x hx => by unfold ownN; rw [if_pos hx]) (fun x hx hS hxx => kf.block x hx (fun he => ?_))
    rcases he with rfl | he
    · rcases hxx with h | ⟨h, _⟩ | h
      · exact hbb h.symm
      · exact hbb (h.symm.trans wr.file.2.1)
      · exact U8.ne hh (by decide) h
    · obtain ⟨cs, hcs⟩ := hty x he
      rcases hxx with h | ⟨h, _⟩ | h
      · subst h
        obtain ⟨cs', hh'⟩ := (hfs _ _ _ hxT).blk
        rw [hcs] at hh'
        cases hh'
      · exact hbb (h.symm.trans (hown x he).2)
      · exact U8.ne hcs (by decide) h
  have hmapf : wf.heap[m]? = some (.map es c) := (kf.block m (blk_lt hmap) nm).trans hmap
  have hsz := kf.size
  have hsz6 := k6.size
  have hszW := wr.below.size
  have hS6 : ∀ k, k < wf.heap.size → Nw w2 wf (Nw W w2 S) k → Nw W w6 S k := fun k hk hx => by
    rcases hx with (hx | hx) | hx
    · exact .inl hx
    · exact .inr ⟨hx.1, by omega⟩
    · exact .inr ⟨by omega, by omega⟩
  have hstep : ∀ {b' : Nat} {f' : Fil}, FilAt wf (Nw w2 wf (Nw W w2 S)) (ownN w2 own g) b' f' → FilAt w6 (Nw W w6 S) (ownN w2 own g) b' f' := fun {b' f'} hx => by
    obtain ⟨cs', hh'⟩ := hx.blk
    refine hx.step hS6 (fun _ _ => rfl) (fun x hxl hS hxx => k6.block x hxl (fun e => ?_))
    subst e
    rcases hxx with h | ⟨_, cs, h⟩ | h
    · rw [← h, hmapf] at hh'; cases hh'
    · rw [hmapf] at h; cases h
    · exact U8.ne_map hmapf h
  have hdm : d ≠ m := fun e => by rw [e, hmap] at hhd; cases hhd
  refine ⟨?_, m, ownN w2 own g, aput n (g, ⟨now1, f.f1, f.f2, f.f3 ++ [x0]⟩) T, ⟨?_, ?_, ?_, ?_, aput_srt hsr, ?_, ?_⟩, tfil_put⟩
  · have ka : Kp W wf (WR W S) := (Kp.of_below wr.below (WR W S)).trans kf (fun k hk e => ?_)
    refine ka.trans k6 (fun k hk e => ?_)
    · subst e
      rcases hM with h | h
      · exact ⟨h, fun hu => U8.ne_map hmap (hu.of_same (wr.below.block _ hk))⟩
      · omega
    · rcases e with rfl | e
      · rcases wr.file.1 with h | h
        · exact ⟨h, fun hu => U8.ne hh (by decide) (hu.of_same (wr.below.block _ hk))⟩
        · omega
      · obtain ⟨cells, hcl⟩ := hty k e
        rcases (hown k e).1 with h | h
        · exact ⟨h, fun hu => U8.ne hcl (by decide) (hu.of_same (wr.below.block _ hk))⟩
        · omega
  · rcases hd with h | h
    · exact .inl h
    · exact .inr ⟨h.1, by omega⟩
  · rcases hM with h | h
    · exact .inl h
    · exact .inr ⟨h.1, by omega⟩
  · exact (k6.block d (by have := blk_lt hhd; omega) hdm).trans ((kf.block d (blk_lt hhd) nd).trans hhd)
  · rw [tblk_put]
    exact Tbl.put_of (srt_map _ hsr) hm6
  · intro n' b' f' hx
    rw [← aput_adel hsr] at hx
    rcases (aput_mem (adel_srt hsr)).1 hx with e | ⟨hx, _⟩
    · cases e; exact hstep hfile
    · exact hstep (hothers _ _ _ hx)
  · rw [← aput_adel hsr]
    exact nodup_put (T := T) (adel_srt hsr) (nodup_del hnd) (fun n' f0 hx => absurd hx (hnodup n' f0))
theorem write_kf {w2 W1 w1 wf : World} {g : Nat} {vc : Value} (k1 : Kp w2 W1 (fun k => k = g)) (hg : W1.grownBy w1 vc.ownBlock) (ho : OnlyB w1 wf g) : Kp w2 wf (fun k => k = g ∨ vc.ownBlock = some k) := by
  have k2 : Kp w2 w1 (fun k => k = g ∨ vc.ownBlock = some k) := (k1.mono fun k e => .inl e).grown hg (fun k e => .inl (.inr e))
  exact k2.trans (S2 := fun k => k = g) ⟨ho.os, ho.tape, ho.output, by rw [ho.size]; exact Nat.le_refl _, fun k _ hn => ho.block k hn⟩ (fun k _ e => .inl e)
/-- The disk's own blocks behind the file's turning. -/
theorem write_mid {W w2 wf : World} {S : Nat → Prop} {d m : Nat} {own : Nat → Nat} {T : Tb} {room : Int} {n : Nm} {g : Nat} {f : Fil} {th : Bool} {vn vs vc : Value}
    (wr : Wr W w2 S d m own T room n g f th) (hh : w2.heap[g]? = some (.cells #[vn, vs, .bool f.f2, vc] 110 (0, 0))) (hty : ∀ k, vc.ownBlock = some k → ∃ cs, w2.heap[k]? = some (.cells cs 114 (0, 0))) (kf : Kp w2 wf (fun k => k = g ∨ vc.ownBlock = some k)) :
    wf.ownsMap Try.prog 9 ptrElem m (tblk T).length (dOf (tblk T)) ∧ wf.cell? ⟨d, 1, none⟩ = some (.map (some m)) := by
  obtain ⟨hd, hM, hhd, ht, hsr, hfs, hnd⟩ := wr.disk
  obtain ⟨es, c, hmap⟩ := ht.map
  have hne : ∀ {x : Nat} {o : Obj}, w2.heap[x]? = some o → (∀ cs, o ≠ .cells cs 110 (0, 0)) → (∀ cs, o ≠ .cells cs 114 (0, 0)) → ¬ (x = g ∨ vc.ownBlock = some x) := by
    intro x o hx h1 h2 he
    rcases he with rfl | he
    · rw [hh] at hx; cases hx; exact h1 _ rfl
    · obtain ⟨cs, hcs⟩ := hty x he
      rw [hcs] at hx; cases hx; exact h2 _ rfl
  have nd := hne hhd (fun _ h => by cases h) (fun _ h => by cases h)
  have nm := hne hmap (fun _ h => by cases h) (fun _ h => by cases h)
  exact ⟨ht.step (kf.block m (blk_lt hmap) nm), blk_cell ((kf.block d (blk_lt hhd) nd).trans hhd) 1⟩
theorem Wr.ne {W w1 : World} {S : Nat → Prop} {d m : Nat} {own : Nat → Nat} {T : Tb} {room : Int} {n : Nm} {g : Nat} {f : Fil} {th : Bool} (wr : Wr W w1 S d m own T room n g f th) {A : Option Addr} {l : List Int}
    (hr : k8.C W A l.length l) (hA : ∀ ad, A = some ad → 0 < l.length → ¬ WR W S ad.block) : ∀ ad, A = some ad → 0 < l.length → ad.block ≠ g := fun ad e hn he => by
  subst e
  have hlt := Kd.C_lt hr hn (by decide)
  rcases wr.file.1 with h | h
  · obtain ⟨cs, hh⟩ := wr.file.blk
    refine hA ad rfl hn ⟨he ▸ h, fun hu => ?_⟩
    rw [he] at hu
    exact U8.ne hh (by decide) (hu.of_same (wr.below.block _ (he ▸ hlt)))
  · omega
/-- The end of Write: w3: the new text made; W1: it is the file's; w4: the bytes cloned; w1: behind the append. -/
theorem write_end {W w2 w3 W1 w4 w1 w6 : World} {S : Nat → Prop} {d m q : Nat} {own : Nat → Nat} {T : Tb} {room : Int} {n : Nm} {g : Nat} {f : Fil} {th : Bool} {vn vs vc v3 v1 : Value} {A5 : Option Addr} {c5 : Nat} {rows : List (List Value)} {at_ : Int} {l : List Int}
    (wr : Wr W w2 S d m own T room n g f th) (hh : w2.heap[g]? = some (.cells #[vn, vs, .bool f.f2, vc] 110 (0, 0))) (hs : Kd.V k8 5 w2 0 (RO w2 (Nw W w2 S)) vs f.f1) (hown : ∀ k, vc.ownBlock = some k → Nw W w2 S k ∧ own k = g)
    (hc : Kd.N k114 114 w2 0 (fun k => RO w2 (Nw W w2 S) k ∨ some k = vc.ownBlock) vc f.f3) (hlr : rows.length = f.f3.length)
    (hfk : ∀ (j : Nat) (x : S114) (c : List Value), f.f3[j]? = some x → rows[j]? = some c → Kd.FK k114 w2 (RO w2 (Nw W w2 S)) x c)
    (hb3 : Below w2.heap.size w2 w3) (hr3 : k8.R 5 w3 w2.heap.size (fun _ => True) v3 (layL f.f0 at_.toNat l)) (hW1 : W1 = w3.setCell ⟨g, 0, none⟩ v3)
    (hb4 : Below W1.heap.size W1 w4) (hr5 : k8.R 5 w4 W1.heap.size (fun _ => True) (.slice A5 l.length c5) l)
    (hg : w4.grownBy w1 vc.ownBlock) (hat : v1.ownBlock = vc.ownBlock ∨ ∃ b, v1.ownBlock = some b ∧ w4.heap.size ≤ b) (hr : (Kd.raw 4).R 114 w1 0 (fun _ => True) v1 (rows ++ [[.bool false, .int .i64 0, .int .i64 at_, .slice A5 l.length c5]]))
    (hm6 : w6.ownsMap Try.prog 9 ptrElem m q ((dOf (tblk T)).put (.string n) (.lit (.int .i64 g)))) (k6 : Kp (w1.setCell ⟨g, 3, none⟩ v1) w6 (fun k => k = m)) :
    Kp W w6 (WR W S) ∧ DskAt w6 (Nw W w6 S) d ⟨room, aput n (wFil f at_ l) (tfil T)⟩ := by
  have hgl := blk_lt hh
  have k1 : Kp w2 W1 (fun k => k = g) := by rw [hW1]; exact (Kp.of_below hb3 (fun k => k = g)).setCell (p := ⟨g, 0, none⟩) (.inl rfl) _
  have k4 : Kp w2 w4 (fun k => k = g) := k1.then_below hb4
  have hty := Kd.N_typed hc
  have hsz1 : W1.heap.size = w3.heap.size := by rw [hW1]; exact set_size
  have hb1 : W1.heap[g]? = some (.cells #[v3, vs, .bool f.f2, vc] 110 (0, 0)) := by rw [hW1]; exact blk_set ((hb3.block _ hgl).trans hh) 0 _
  have hng : ∀ k, vc.ownBlock = some k → k ≠ g := fun k hk e => by
    obtain ⟨cells, hcl⟩ := hty k hk
    rw [e, hh] at hcl; cases hcl
  have s1 := k1.size
  have s4 := hb4.size
  have s3 := hb3.size
  have sg := hg.size
  have hbw : w1.heap[g]? = some (.cells #[v3, vs, .bool f.f2, vc] 110 (0, 0)) := (hg.block g (by omega) (fun e => hng g e.symm rfl)).trans ((hb4.block g (by omega)).trans hb1)
  have ho : OnlyB w1 (w1.setCell ⟨g, 3, none⟩ v1) g := (OnlyB.refl w1 g).set 3 v1
  have hkk : ∀ k, w2.heap.size ≤ k → k < w4.heap.size → (w1.setCell ⟨g, 3, none⟩ v1).heap[k]? = w4.heap[k]? := fun k hk1 hk2 => by
    rw [ho.block k (by omega), hg.block k hk2 (fun e => by have := Kd.N_lt hc k e.symm; omega)]
  refine write_fin (x0 := ⟨false, 0, at_, l⟩) wr hh hs hown hc hlr hfk k4 hg hat hr ho (blk_set hbw 3 v1) ?_ ?_ hm6 k6
  · refine V_new hr3 (fun k h1 h2 => ?_) (by rw [ho.size]; omega)
    rw [hkk k h1 (by omega), hb4.block k (by omega), hW1]
    exact set_ne (by omega)
  · have hv := V_new (S := Nw W w2 S) hr5 (wf := w1.setCell ⟨g, 3, none⟩ v1) (fun k h1 h2 => hkk k (by omega) h2) (by rw [ho.size]; omega)
    obtain ⟨_, hle, hF⟩ := Kd.V_at hv
    refine k114_mkF _ _ ⟨false, 0, at_, l⟩ hle (Kd.F_mono hF (fun k hk => ⟨?_, hk.2⟩))
    rcases hk.1 with h | h
    · exact .inl h
    · exact .inr ⟨by omega, h.2⟩
end Go.Proofs.Ytmmiipnmimjojaa.PS
end
section
namespace Go.Proofs.Ytmmiipnmimjojaa.PS
open Go.RowKit Go.Proofs.YtmmiipnmimjojaaW.PrintWords Go.Proofs.YtmmiipnmimjojaaW.PrintLast Go.Proofs.YtmmiipnmimjojaaW.PrintMore
open Go.Maps Go.Proofs.Ytmmiipnmimjojaa.PD
set_option linter.unusedVariables false
set_option linter.unusedSimpArgs false
set_option maxHeartbeats 1000000 in
set_option maxRecDepth 100000 in
theorem write_calls {W : World} {S : Nat → Prop} {d : Nat} {D : Dsk} {s : ByteArray} {at_ : Int} {A : Option Addr} {c : Nat} {l : List Int} (h : DskAt W S d D) (hs : s.size ≤ maxLen) (ok : DskOk D) (hu : usedB D.files ≤ 1000000000) (hr : k8.C W A l.length l) (hc : l.length ≤ c) (hl : l.length ≤ 140737488355328) (hA : ∀ ad, A = some ad → 0 < l.length → ¬ WR W S ad.block) :
    Calls Try.prog 20 #[.pointer (some ⟨d, 0, none⟩), .string s, .int .i64 at_, .slice A l.length c] W fun e w' => e = .returned (.int .i64 (dWrite D s at_ l).1) ∧ Kp W w' (WR W S) ∧ DskAt w' (Nw W w' S) d (dWrite D s at_ l).2 := by
  have hs' : s.size ≤ 9223372036854775807 := by have e : maxLen = 9223372036854775807 := by decide
                                                omega
  obtain ⟨nb, hnb⟩ : ∃ nb, namedB s = nb := ⟨_, rfl⟩
  cases nb with
  | false =>
    have hD : dWrite D s at_ l = (14, D) := by unfold dWrite; rw [if_pos hnb]
    rw [hD]
    have HF := Aside0.mk (fun k => wr_still h (pw_below_drewN (Below.refl W.heap.size W) k))
    clear h hD hr ok
    go_enter Try.func20, Try.ntmps20
    go_wp2_with fail
    refine (named_calls s hs' W).mono ?_
    rintro e w1 ⟨rfl, hdr⟩
    rw [hnb]
    obtain ⟨k, rfl⟩ := hdr.out
    go_wp2
    go_ret
    exact ⟨rfl, HF.out k⟩
  | true =>
    obtain ⟨m, own, T, hin, hDf, hg⟩ := h.in_ s.data.toList
    have HR := Aside0.mk hr
    have H := Aside0.mk h
    have HOK := Aside0.mk ok
    have HAW := Aside0.mk hA
    clear h hr ok hA
    cases ha : aget s.data.toList T with
    | some e =>
      obtain ⟨g, f⟩ := e
      have hof : aget s.data.toList D.files = some f := hg.trans (by rw [ha]; rfl)
      have hDW : dWrite D s at_ l = dW2 D s true f at_ l := by unfold dWrite; rw [if_neg (by rw [hnb]; decide), hof]; rfl
      rw [hDW]
      have HI := Aside0.mk hin
      have HA := Aside0.mk ha
      have hc1 : W.cell? ⟨d, 1, none⟩ = some (.map (some m)) := blk_cell hin.2.2.1 1
      have hlk : ∀ k, (Instr.lookup 103 (.map (some m)) (.string s) true).run Try.prog (W.drewN k) = .ok (.tuple #[.pointer (some ⟨g, 0, none⟩), .bool true]) (W.drewN k) := fun k =>
        (hin.drewN k).2.2.2.1.look s hs (some g) (by rw [hin.get, ha]; rfl)
      have hfok := mem_ok HOK.out hof
      have HDF1 := Aside0.mk hDf
      clear hin ha hg hof hDW
      go_enter Try.func20, Try.ntmps20
      go_wp2_with fail
      refine (named_calls s hs' W).mono ?_
      rintro e w1 ⟨rfl, hdr⟩
      rw [hnb]
      obtain ⟨k, rfl⟩ := hdr.out
      clear hdr
      have hlk1 := hlk k
      clear hlk
      go_upto_region 8 with (fail)
      have wr := wr_there HI.out HA.out (pw_below_drewN (Below.refl W.heap.size W) k)
      generalize W.drewN k = w1 at *
      clear hlk1 hc1
      obtain ⟨hSb, hob, vn, vs, vc, hh, hn, hs2, hcN, hown⟩ := wr.file
      obtain ⟨An, cn, rfl⟩ := Kd.V_slice hn
      obtain ⟨Ac, cc, rfl⟩ := Kd.N_slice hcN
      have hle := (Kd.V_reads' hn).2.1
      have q0 : w1.cell? ⟨g, 0, none⟩ = some (.slice An f.f0.length cn) := blk_cell hh 0
      have q3 : w1.cell? ⟨g, 3, none⟩ = some (.slice Ac f.f3.length cc) := blk_cell hh 3
      have fz0 := blk_frozen hh 0
      have hd0 : w1.cell? ⟨d, 0, none⟩ = some (.int .i64 D.room) := blk_cell wr.disk.2.2.1 0
      have hd1 : w1.cell? ⟨d, 1, none⟩ = some (.map (some m)) := blk_cell wr.disk.2.2.1 1
      have hmlen : ∀ ty, (Builtin.len_ #[103] ty #[.map (some m)]).run Try.prog w1 = .ok (.int .i64 T.length) w1 := fun ty => by
        have := wr.disk.2.2.2.1.len ty
        unfold tblk at this
        rwa [amap_len] at this
      have hTl : T.length = D.files.length := by rw [← hDf]; unfold tfil; rw [amap_len]
      have HH := Aside0.mk hh
      have HN := Aside0.mk hn
      have HS2 := Aside0.mk hs2
      have HC := Aside0.mk hcN
      have HO := Aside0.mk hown
      have HWR := Aside0.mk wr
      have HTL := Aside0.mk hTl
      have HTLN := Aside0.mk (show T.length ≤ 1000 by have := HOK.out.2.1; omega)
      have HSTILL := Aside0.mk (wr_still H.out wr.below)
      clear hh hn hs2 hcN hown wr hTl
      by_cases hbad : at_ < 0 ∨ (f.f0.length : Int) < at_
      · have hD : dW2 D s true f at_ l = (2, D) := by unfold dW2; rw [if_pos hbad]
        have HDV := Aside0.mk hD
        clear hD
        by_cases h0 : at_ < 0
        · clear hbad
          go_wp2
          go_ret
          rw [HDV.out]
          exact ⟨rfl, HSTILL.out⟩
        · have h1 : (f.f0.length : Int) < at_ := by omega
          clear hbad
          go_wp2
          go_ret
          rw [HDV.out]
          exact ⟨rfl, HSTILL.out⟩
      · have h0 : ¬ at_ < 0 := by omega
        have h1 : ¬ (f.f0.length : Int) < at_ := by omega
        have hb8 : (at_ : Int) ≤ 1000000 := by have := hfok.1; omega
        have hb9 : (f.f0.length : Int) ≤ 1000000 := by have := hfok.1; omega
        have hb10 : 0 ≤ at_ := by omega
        have hb11 : (l.length : Int) ≤ 140737488355328 := by omega
        have HBAD := Aside0.mk hbad
        clear hbad
        go_upto_region 11 with (fail)
        obtain ⟨M, hM⟩ : ∃ M, max 0 (at_ + (l.length : Int) - (f.f0.length : Int)) = M := ⟨_, rfl⟩
        rw [hM]
        have hM0 : 0 ≤ M := by omega
        have hM1 : M ≤ 140737489355328 := by omega
        have HM := Aside0.mk hM
        clear hM
        by_cases hlim : 262144 < (f.f0.length : Int) + M
        · have hD : dW2 D s true f at_ l = (6, D) := by unfold dW2 moreB; rw [if_neg HBAD.out, HM.out, if_pos (.inr hlim)]
          have HDV := Aside0.mk hD
          clear hD
          go_wp2
          go_ret
          rw [HDV.out]
          exact ⟨rfl, HSTILL.out⟩
        · obtain ⟨U, hU⟩ : ∃ U, usedB D.files = U := ⟨_, rfl⟩
          have hDF : dW2 D s true f at_ l = if D.room < (U : Int) + M then (9, D) else (0, ⟨D.room, aput s.data.toList (wFil f at_ l) D.files⟩) := by
            unfold dW2
            rw [if_neg HBAD.out, hU]
            unfold moreB
            rw [HM.out, if_neg (by rintro (⟨h, h'⟩ | h); (first | cases h | omega); exact hlim h)]
          have HDF := Aside0.mk hDF
          have hU1 : (U : Int) ≤ 1000000000 := by omega
          have hused : ∀ W', Below w1.heap.size w1 W' → Calls Try.prog 45 #[.pointer (some ⟨d, 0, none⟩)] W' fun e w' => e = .returned (.int .i64 U) ∧ w'.cell? ⟨d, 0, none⟩ = some (.int .i64 D.room) ∧ Aside0 (Below w1.heap.size w1 w') := fun W' hW => by
            refine (used_calls (HSTILL.out.2.below hW) hu).mono ?_
            rintro e w' ⟨rfl, hb⟩
            have hb2 := below_step hW hb
            exact ⟨by rw [hU], (hb2.cell (World.block_lt_of_cell? w1 _ hd0)).trans hd0, ⟨hb2⟩⟩
          have HU := Aside0.mk hused
          clear hused hDF hU
          have hsum : IntKind.i64.wrap ((U : Int) + M) = (U : Int) + M := IntWalk.i64_in _ ⟨by omega, by omega⟩
          by_cases hfull : D.room < (U : Int) + M
          · have hdc : decide (D.room < (U : Int) + M) = true := decide_eq_true hfull
            go_wp2_with fail
            go_region_held3 (fun w' => w'.cell? ⟨d, 0, none⟩ = some (.int .i64 D.room)) (first | assumption | go_keep)
              ((go_at_call 45; refine (HU.out _ (below_drew1 (Below.refl _ _))).mono ?_; rintro e w2 ⟨rfl, hq, hx⟩))
            go_wp2
            go_ret
            rw [HDF.out, if_pos hfull]
            exact ⟨rfl, wr_still H.out (below_step HWR.out.below hx.out)⟩
          · have hdc : decide (D.room < (U : Int) + M) = false := decide_eq_false hfull
            have HFU := Aside0.mk hfull
            clear hfull
            go_wp2_with fail
            go_region_held3 (fun w' => w'.cell? ⟨d, 0, none⟩ = some (.int .i64 D.room)) (first | assumption | go_keep)
              ((go_at_call 45; refine (HU.out _ (below_drew1 (Below.refl _ _))).mono ?_; rintro e w2 ⟨rfl, hq, hx⟩))
            have wr := HWR.out.step hx.out
            have HWR2 := Aside0.mk wr
            have hlB : (f.f0.length : Int) + l.length ≤ 1262144 := by have := HM.out; omega
            have HLB := Aside0.mk hlB
            clear HN HS2 HC HO HH HWR q0 q3 fz0 hd0 hd1 hmlen hq hle hlB
            obtain ⟨hSb, hob, vn, vs, vc, hh, hn, hs2, hcN, hown⟩ := wr.file
            obtain ⟨An2, cn2, rfl⟩ := Kd.V_slice hn
            obtain ⟨Ac2, cc2, rfl⟩ := Kd.N_slice hcN
            have q0 : w2.cell? ⟨g, 0, none⟩ = some (.slice An2 f.f0.length cn2) := blk_cell hh 0
            have HH := Aside0.mk hh
            have HN := Aside0.mk hn
            have HS2 := Aside0.mk hs2
            have HC := Aside0.mk hcN
            have HO := Aside0.mk hown
            have HR2 := Aside0.mk (Kd.C_below HR.out HWR2.out.below)
            clear hh hn hs2 hcN hown wr
            go_wp2_with fail
            refine (lay_calls An2 cn2 f.f0 at_ A c l w2 (Kd.V_reads' HN.out).2.2 HR2.out hc (by omega) (by omega) (by have := HLB.out; omega)).mono ?_
            rintro e w3 ⟨v3, rfl, hr3, hb3⟩
            obtain ⟨A3, c3, rfl⟩ := Kd.R_slice hr3
            have hh3 : w3.heap[g]? = some (.cells #[.slice An2 f.f0.length cn2, vs, .bool f.f2, .slice Ac2 f.f3.length cc2] 110 (0, 0)) := (hb3.block _ (blk_lt HH.out)).trans HH.out
            have p0 : w3.cell? ⟨g, 0, none⟩ = some (.slice An2 f.f0.length cn2) := blk_cell hh3 0
            have z0 := blk_frozen hh3 0
            have HH3 := Aside0.mk hh3
            have HB3 := Aside0.mk hb3
            have HR3 := Aside0.mk hr3
            clear hh3 hb3 hr3 q0
            go_wp2_with fail
            have hb1 : (w3.setCell ⟨g, 0, none⟩ (.slice A3 (layL f.f0 at_.toNat l).length c3)).heap[g]? = some (.cells #[.slice A3 (layL f.f0 at_.toNat l).length c3, vs, .bool f.f2, .slice Ac2 f.f3.length cc2] 110 (0, 0)) := blk_set HH3.out 0 _
            have hC3 : k8.C (w3.setCell ⟨g, 0, none⟩ (.slice A3 (layL f.f0 at_.toNat l).length c3)) A l.length l :=
              Kd.C_foot_ne (g := g) (fun h => h) (Kd.C_below HR2.out HB3.out) (HWR2.out.ne HR.out HAW.out) _ ((KeepBut.refl w3 g none).set_ 0 _)
            obtain ⟨W1, hW1⟩ : ∃ W1, W1 = w3.setCell ⟨g, 0, none⟩ (.slice A3 (layL f.f0 at_.toNat l).length c3) := ⟨_, rfl⟩
            rw [← hW1] at hb1 hC3 ⊢
            have HW1 := Aside0.mk hW1
            have k1 : Kp w2 W1 (fun k => k = g) := by rw [hW1]; exact (Kp.of_below HB3.out (fun k => k = g)).setCell (p := ⟨g, 0, none⟩) (.inl rfl) _
            clear hW1 p0 z0
            have q3 : W1.cell? ⟨g, 3, none⟩ = some (.slice Ac2 f.f3.length cc2) := blk_cell hb1 3
            have fz3 := blk_frozen hb1 3
            obtain ⟨rows, hlr, hR, hfk⟩ := N_parts HC.out
            have hLn : (rows.length + 1) * 48 ≤ 140737488355328 := by have := hfok.2.2.1; omega
            have HLN := Aside0.mk hLn
            have hHCL : ∀ W', Below W1.heap.size W1 W' → Calls Try.prog 59 #[.slice A l.length c] W' fun e w' => ∃ A5 c5, e = .returned (.slice A5 l.length c5) ∧ w'.cell? ⟨g, 3, none⟩ = some (.slice Ac2 f.f3.length cc2) ∧ w'.frozen? ⟨g, 3, none⟩ = false ∧
                (w'.alloc (.cells #[.bool false, .int .i64 0, .int .i64 at_, .slice A5 l.length c5] 114 (0, 0))).cell? ⟨g, 3, none⟩ = some (.slice Ac2 f.f3.length cc2) ∧
                Aside0 (k8.R 5 w' W1.heap.size (fun _ => True) (.slice A5 l.length c5) l ∧ Below W1.heap.size W1 w' ∧
                  (Kd.raw 4).R 114 w' 0 (fun _ => True) (.slice Ac2 f.f3.length cc2) rows ∧
                  (∀ w1, w'.grownBy w1 (Value.slice Ac2 f.f3.length cc2).ownBlock → w1.heap[g]? = some (.cells #[.slice A3 (layL f.f0 at_.toNat l).length c3, vs, .bool f.f2, .slice Ac2 f.f3.length cc2] 110 (0, 0)))) := fun W' hW => by
              refine (clone8 A c l W' (Kd.C_below hC3 hW) hl).mono ?_
              rintro e w' ⟨v1, rfl, hr, hb⟩
              obtain ⟨A5, c5, rfl⟩ := Kd.R_slice hr
              have hb2 := below_step hW hb
              have hbg := (hb2.block g (blk_lt hb1)).trans hb1
              have hr' : k8.R 5 w' W1.heap.size (fun _ => True) (.slice A5 l.length c5) l := Kd.R_lower hr hW.size
              refine ⟨A5, c5, rfl, blk_cell hbg 3, blk_frozen hbg 3, blk_cell (((below_alloc (Below.refl _ w') _).block g (blk_lt hbg)).trans hbg) 3, ⟨hr', hb2, ?_, fun w1 hg => (hg.block g (blk_lt hbg) (fun e => ?_)).trans hbg⟩⟩
              · refine Kd.R_mono (Kd.R_step (Kd.raw_tight hR) (fun k hk hlt => (hb2.block k (by have := k1.size; omega)).trans (k1.block k hlt (fun e => ?_)))) (fun _ _ => trivial)
                obtain ⟨cells, hcl⟩ := Kd.N_typed HC.out k hk.symm
                rw [e, HH.out] at hcl; cases hcl
              · obtain ⟨cells, hcl⟩ := Kd.N_typed HC.out g e.symm
                rw [HH.out] at hcl; cases hcl
            have HCL := Aside0.mk hHCL
            have hM : ∀ W A5 c5, (Kd.raw 4).M W 0 (fun _ => False) [.bool false, .int .i64 0, .int .i64 at_, .slice A5 l.length c5] [.bool false, .int .i64 0, .int .i64 at_, .slice A5 l.length c5] := fun W A5 c5 => ⟨rfl, rfl, fun u hu => by
              simp only [List.mem_cons, List.not_mem_nil, or_false] at hu
              rcases hu with rfl | rfl | rfl | rfl <;> rfl⟩
            have HM4 := Aside0.mk hM
            have HB1 := Aside0.mk hb1
            have HC3 := Aside0.mk hC3
            have HK1 := Aside0.mk k1
            have HLR := Aside0.mk hlr
            have HRW := Aside0.mk hR
            have HFK := Aside0.mk hfk
            clear hHCL hM hb1 hC3 k1 hlr hR hfk hLn
            go_region_law (first
              | (go_simp; go_at_call 59; refine (HCL.out _ (below_drew1 (Below.refl _ _))).mono ?_; rintro e w4 ⟨A5, c5, rfl, hq3, hz3, hqa, hx4⟩)
              | (refine Kd.R_append_step (Kd.raw 4) (w0 := w4) 0 (by rfl) (.tmp 95) (.tmp 100) 108 114 (.agg #[.bool false, .int .i64 0, .int .i64 0, .slice none 0 0]) 48 (by rfl) Try.underlying108 info114 (by rfl) (by decide) (by decide) (.slice Ac2 f.f3.length cc2) rows [.bool false, .int .i64 0, .int .i64 at_, .slice A5 l.length c5] [.bool false, .int .i64 0, .int .i64 at_, .slice A5 l.length c5] (fun _ => True) (fun _ => False) (by rfl) (by rfl) (HM4.out _ _ _) (fun _ hk => hk.elim) (fun _ _ => trivial) hx4.out.2.2.1 ((Below.refl 0 w4).mono (Nat.zero_le _)) (Nat.zero_le _) HLN.out ?_; intro v1 w1 hr hb2 hg hat; obtain ⟨A1, c1, rfl⟩ := Kd.R_slice hr; have hbw := Aside0.mk (hx4.out.2.2.2 _ hg); have c3w : w1.cell? ⟨g, 3, none⟩ = some (.slice Ac2 f.f3.length cc2) := blk_cell hbw.out 3; have f3w := blk_frozen hbw.out 3)
              | fail)
            all_goals
              rw [show (rows ++ [[Value.bool false, Value.int .i64 0, Value.int .i64 at_, Value.slice A5 l.length c5]]).length = rows.length + 1 from by simp] at hat hr
              have hmid := write_mid (wf := w1.setCell ⟨g, 3, none⟩ (.slice A1 (rows.length + 1) c1)) HWR2.out HH.out (Kd.N_typed HC.out) (write_kf (W1 := w4) (HK1.out.then_below hx4.out.2.1) hg ((OnlyB.refl _ _).set 3 _))
              obtain ⟨hmp, hcd⟩ := hmid
              obtain ⟨w6, hrun, hm6, htn⟩ := World.ownsMap.store (w := w1.setCell ⟨g, 3, none⟩ (.slice A1 (rows.length + 1) c1)) hmp law9 Try.underlying103 (by have := HTLN.out; unfold tblk; rw [amap_len]; unfold maxLen; omega) (key_str s hs) (val := .pointer (some ⟨g, 0, none⟩)) (d := .lit (.int .i64 g)) (ps := []) rfl
              have HM6 := Aside0.mk hm6
              have HT6 := Aside0.mk htn
              have HG := Aside0.mk hg
              have HAT := Aside0.mk hat
              have HR1 := Aside0.mk hr
              clear hm6 htn hg hat hr hmp
              go_wp2
              go_ret
              rw [HDF.out, if_neg (by have := HFU.out; omega)]
              refine ⟨rfl, ?_⟩
              rw [← HDF1.out]
              exact write_end HWR2.out HH.out HS2.out HO.out HC.out HLR.out HFK.out HB3.out HR3.out HW1.out hx4.out.2.1 hx4.out.1 HG.out HAT.out HR1.out HM6.out (Kp.turned HT6.out)
    | none =>
      obtain ⟨f, hf⟩ : ∃ f, z110 = f := ⟨_, rfl⟩
      have hof : aget s.data.toList D.files = none := hg.trans (by rw [ha]; rfl)
      have hDW : dWrite D s at_ l = dW2 D s false f at_ l := by unfold dWrite; rw [if_neg (by rw [hnb]; decide), hof, ← hf]; rfl
      rw [hDW]
      have HI := Aside0.mk hin
      have HA := Aside0.mk ha
      have HF0 := Aside0.mk hf
      have hc1 : W.cell? ⟨d, 1, none⟩ = some (.map (some m)) := blk_cell hin.2.2.1 1
      have hlk : ∀ k, (Instr.lookup 103 (.map (some m)) (.string s) true).run Try.prog (W.drewN k) = .ok (.tuple #[.pointer none, .bool false]) (W.drewN k) := fun k =>
        (hin.drewN k).2.2.2.1.look s hs none (by rw [hin.get, ha]; rfl)
      have HDF1 := Aside0.mk hDf
      have hfok : FilOk f := by rw [← hf]; exact ⟨by decide, by decide, by decide, fun c hc => by cases hc⟩
      clear hin ha hg hof hDW hf
      go_enter Try.func20, Try.ntmps20
      go_wp2_with fail
      refine (named_calls s hs' W).mono ?_
      rintro e w1 ⟨rfl, hdr⟩
      rw [hnb]
      obtain ⟨k, rfl⟩ := hdr.out
      clear hdr
      have hlk1 := hlk k
      clear hlk
      go_upto_region 8 with (fail)
      have hbb := below_alloc (pw_below_drewN (Below.refl W.heap.size W) k) (.cells #[.slice none 0 0, .slice none 0 0, .bool false, .slice none 0 0] 110 (0, 0))
      have wr := wr_new HI.out HA.out hbb (blk_new (W.drewN k) _)
      generalize (W.drewN k).alloc (.cells #[.slice none 0 0, .slice none 0 0, .bool false, .slice none 0 0] 110 (0, 0)) = w1 at *
      rw [HF0.out] at wr
      clear hlk1 hc1 hbb
      obtain ⟨g, hgW⟩ : ∃ g, W.heap.size = g := ⟨_, rfl⟩
      rw [hgW] at wr ⊢
      have HGW := Aside0.mk hgW
      clear hgW
      obtain ⟨hSb, hob, vn, vs, vc, hh, hn, hs2, hcN, hown⟩ := wr.file
      obtain ⟨An, cn, rfl⟩ := Kd.V_slice hn
      obtain ⟨Ac, cc, rfl⟩ := Kd.N_slice hcN
      have hle := (Kd.V_reads' hn).2.1
      have q0 : w1.cell? ⟨g, 0, none⟩ = some (.slice An f.f0.length cn) := blk_cell hh 0
      have q3 : w1.cell? ⟨g, 3, none⟩ = some (.slice Ac f.f3.length cc) := blk_cell hh 3
      have fz0 := blk_frozen hh 0
      have hd0 : w1.cell? ⟨d, 0, none⟩ = some (.int .i64 D.room) := blk_cell wr.disk.2.2.1 0
      have hd1 : w1.cell? ⟨d, 1, none⟩ = some (.map (some m)) := blk_cell wr.disk.2.2.1 1
      have hmlen : ∀ ty, (Builtin.len_ #[103] ty #[.map (some m)]).run Try.prog w1 = .ok (.int .i64 T.length) w1 := fun ty => by
        have := wr.disk.2.2.2.1.len ty
        unfold tblk at this
        rwa [amap_len] at this
      have hTl : T.length = D.files.length := by rw [← hDf]; unfold tfil; rw [amap_len]
      have HH := Aside0.mk hh
      have HN := Aside0.mk hn
      have HS2 := Aside0.mk hs2
      have HC := Aside0.mk hcN
      have HO := Aside0.mk hown
      have HWR := Aside0.mk wr
      have HTL := Aside0.mk hTl
      have HTLN := Aside0.mk (show T.length ≤ 1000 by have := HOK.out.2.1; omega)
      have HSTILL := Aside0.mk (wr_still H.out wr.below)
      clear hh hn hs2 hcN hown wr hTl
      by_cases hbad : at_ < 0 ∨ (f.f0.length : Int) < at_
      · have hD : dW2 D s false f at_ l = (2, D) := by unfold dW2; rw [if_pos hbad]
        have HDV := Aside0.mk hD
        clear hD
        by_cases h0 : at_ < 0
        · clear hbad
          go_wp2
          go_ret
          rw [HDV.out]
          exact ⟨rfl, HSTILL.out⟩
        · have h1 : (f.f0.length : Int) < at_ := by omega
          clear hbad
          go_wp2
          go_ret
          rw [HDV.out]
          exact ⟨rfl, HSTILL.out⟩
      · have h0 : ¬ at_ < 0 := by omega
        have h1 : ¬ (f.f0.length : Int) < at_ := by omega
        have hb8 : (at_ : Int) ≤ 1000000 := by have := hfok.1; omega
        have hb9 : (f.f0.length : Int) ≤ 1000000 := by have := hfok.1; omega
        have hb10 : 0 ≤ at_ := by omega
        have hb11 : (l.length : Int) ≤ 140737488355328 := by omega
        have HBAD := Aside0.mk hbad
        clear hbad
        go_upto_region 11 with (fail)
        obtain ⟨M, hM⟩ : ∃ M, max 0 (at_ + (l.length : Int) - (f.f0.length : Int)) = M := ⟨_, rfl⟩
        rw [hM]
        have hM0 : 0 ≤ M := by omega
        have hM1 : M ≤ 140737489355328 := by omega
        have HM := Aside0.mk hM
        clear hM
        by_cases hlim : 262144 < (f.f0.length : Int) + M
        · have hD : dW2 D s false f at_ l = (6, D) := by unfold dW2 moreB; rw [if_neg HBAD.out, HM.out, if_pos (.inr hlim)]
          have HDV := Aside0.mk hD
          clear hD
          by_cases h16 : (16 : Int) ≤ (T.length : Int)
          · go_wp2
            go_ret
            rw [HDV.out]
            exact ⟨rfl, HSTILL.out⟩
          · go_wp2
            go_ret
            rw [HDV.out]
            exact ⟨rfl, HSTILL.out⟩
        · by_cases h16 : (16 : Int) ≤ (T.length : Int)
          · have hD : dW2 D s false f at_ l = (6, D) := by unfold dW2 moreB; rw [if_neg HBAD.out, HM.out, if_pos (.inl ⟨rfl, by have := HTL.out; omega⟩)]
            have HDV := Aside0.mk hD
            clear hD
            go_wp2
            go_ret
            rw [HDV.out]
            exact ⟨rfl, HSTILL.out⟩
          · obtain ⟨U, hU⟩ : ∃ U, usedB D.files = U := ⟨_, rfl⟩
            have hDF : dW2 D s false f at_ l = if D.room < (U : Int) + M then (9, D) else (0, ⟨D.room, aput s.data.toList (wFil f at_ l) D.files⟩) := by
              unfold dW2
              rw [if_neg HBAD.out, hU]
              unfold moreB
              rw [HM.out, if_neg (by rintro (⟨h, h'⟩ | h); (have := HTL.out; omega); exact hlim h)]
            have HDF := Aside0.mk hDF
            have hU1 : (U : Int) ≤ 1000000000 := by omega
            have hused : ∀ W', Below w1.heap.size w1 W' → Calls Try.prog 45 #[.pointer (some ⟨d, 0, none⟩)] W' fun e w' => e = .returned (.int .i64 U) ∧ w'.cell? ⟨d, 0, none⟩ = some (.int .i64 D.room) ∧ Aside0 (Below w1.heap.size w1 w') := fun W' hW => by
              refine (used_calls (HSTILL.out.2.below hW) hu).mono ?_
              rintro e w' ⟨rfl, hb⟩
              have hb2 := below_step hW hb
              exact ⟨by rw [hU], (hb2.cell (World.block_lt_of_cell? w1 _ hd0)).trans hd0, ⟨hb2⟩⟩
            have HU := Aside0.mk hused
            clear hused hDF hU
            have hsum : IntKind.i64.wrap ((U : Int) + M) = (U : Int) + M := IntWalk.i64_in _ ⟨by omega, by omega⟩
            by_cases hfull : D.room < (U : Int) + M
            · have hdc : decide (D.room < (U : Int) + M) = true := decide_eq_true hfull
              go_wp2_with fail
              go_region_held3 (fun w' => w'.cell? ⟨d, 0, none⟩ = some (.int .i64 D.room)) (first | assumption | go_keep)
                ((go_at_call 45; refine (HU.out _ (below_drew1 (Below.refl _ _))).mono ?_; rintro e w2 ⟨rfl, hq, hx⟩))
              go_wp2
              go_ret
              rw [HDF.out, if_pos hfull]
              exact ⟨rfl, wr_still H.out (below_step HWR.out.below hx.out)⟩
            · have hdc : decide (D.room < (U : Int) + M) = false := decide_eq_false hfull
              have HFU := Aside0.mk hfull
              clear hfull
              go_wp2_with fail
              go_region_held3 (fun w' => w'.cell? ⟨d, 0, none⟩ = some (.int .i64 D.room)) (first | assumption | go_keep)
                ((go_at_call 45; refine (HU.out _ (below_drew1 (Below.refl _ _))).mono ?_; rintro e w2 ⟨rfl, hq, hx⟩))
              have wr := HWR.out.step hx.out
              have HWR2 := Aside0.mk wr
              have hlB : (f.f0.length : Int) + l.length ≤ 1262144 := by have := HM.out; omega
              have HLB := Aside0.mk hlB
              clear HN HS2 HC HO HH HWR q0 q3 fz0 hd0 hd1 hmlen hq hle hlB
              obtain ⟨hSb, hob, vn, vs, vc, hh, hn, hs2, hcN, hown⟩ := wr.file
              obtain ⟨An2, cn2, rfl⟩ := Kd.V_slice hn
              obtain ⟨Ac2, cc2, rfl⟩ := Kd.N_slice hcN
              have q0 : w2.cell? ⟨g, 0, none⟩ = some (.slice An2 f.f0.length cn2) := blk_cell hh 0
              have HH := Aside0.mk hh
              have HN := Aside0.mk hn
              have HS2 := Aside0.mk hs2
              have HC := Aside0.mk hcN
              have HO := Aside0.mk hown
              have HR2 := Aside0.mk (Kd.C_below HR.out HWR2.out.below)
              clear hh hn hs2 hcN hown wr
              go_wp2_with fail
              refine (lay_calls An2 cn2 f.f0 at_ A c l w2 (Kd.V_reads' HN.out).2.2 HR2.out hc (by omega) (by omega) (by have := HLB.out; omega)).mono ?_
              rintro e w3 ⟨v3, rfl, hr3, hb3⟩
              obtain ⟨A3, c3, rfl⟩ := Kd.R_slice hr3
              have hh3 : w3.heap[g]? = some (.cells #[.slice An2 f.f0.length cn2, vs, .bool f.f2, .slice Ac2 f.f3.length cc2] 110 (0, 0)) := (hb3.block _ (blk_lt HH.out)).trans HH.out
              have p0 : w3.cell? ⟨g, 0, none⟩ = some (.slice An2 f.f0.length cn2) := blk_cell hh3 0
              have z0 := blk_frozen hh3 0
              have HH3 := Aside0.mk hh3
              have HB3 := Aside0.mk hb3
              have HR3 := Aside0.mk hr3
              clear hh3 hb3 hr3 q0
              go_wp2_with fail
              have hb1 : (w3.setCell ⟨g, 0, none⟩ (.slice A3 (layL f.f0 at_.toNat l).length c3)).heap[g]? = some (.cells #[.slice A3 (layL f.f0 at_.toNat l).length c3, vs, .bool f.f2, .slice Ac2 f.f3.length cc2] 110 (0, 0)) := blk_set HH3.out 0 _
              have hC3 : k8.C (w3.setCell ⟨g, 0, none⟩ (.slice A3 (layL f.f0 at_.toNat l).length c3)) A l.length l :=
                Kd.C_foot_ne (g := g) (fun h => h) (Kd.C_below HR2.out HB3.out) (HWR2.out.ne HR.out HAW.out) _ ((KeepBut.refl w3 g none).set_ 0 _)
              obtain ⟨W1, hW1⟩ : ∃ W1, W1 = w3.setCell ⟨g, 0, none⟩ (.slice A3 (layL f.f0 at_.toNat l).length c3) := ⟨_, rfl⟩
              rw [← hW1] at hb1 hC3 ⊢
              have HW1 := Aside0.mk hW1
              have k1 : Kp w2 W1 (fun k => k = g) := by rw [hW1]; exact (Kp.of_below HB3.out (fun k => k = g)).setCell (p := ⟨g, 0, none⟩) (.inl rfl) _
              clear hW1 p0 z0
              have q3 : W1.cell? ⟨g, 3, none⟩ = some (.slice Ac2 f.f3.length cc2) := blk_cell hb1 3
              have fz3 := blk_frozen hb1 3
              obtain ⟨rows, hlr, hR, hfk⟩ := N_parts HC.out
              have hLn : (rows.length + 1) * 48 ≤ 140737488355328 := by have := hfok.2.2.1; omega
              have HLN := Aside0.mk hLn
              have hHCL : ∀ W', Below W1.heap.size W1 W' → Calls Try.prog 59 #[.slice A l.length c] W' fun e w' => ∃ A5 c5, e = .returned (.slice A5 l.length c5) ∧ w'.cell? ⟨g, 3, none⟩ = some (.slice Ac2 f.f3.length cc2) ∧ w'.frozen? ⟨g, 3, none⟩ = false ∧
                  (w'.alloc (.cells #[.bool false, .int .i64 0, .int .i64 at_, .slice A5 l.length c5] 114 (0, 0))).cell? ⟨g, 3, none⟩ = some (.slice Ac2 f.f3.length cc2) ∧
                  Aside0 (k8.R 5 w' W1.heap.size (fun _ => True) (.slice A5 l.length c5) l ∧ Below W1.heap.size W1 w' ∧
                    (Kd.raw 4).R 114 w' 0 (fun _ => True) (.slice Ac2 f.f3.length cc2) rows ∧
                    (∀ w1, w'.grownBy w1 (Value.slice Ac2 f.f3.length cc2).ownBlock → w1.heap[g]? = some (.cells #[.slice A3 (layL f.f0 at_.toNat l).length c3, vs, .bool f.f2, .slice Ac2 f.f3.length cc2] 110 (0, 0)))) := fun W' hW => by
                refine (clone8 A c l W' (Kd.C_below hC3 hW) hl).mono ?_
                rintro e w' ⟨v1, rfl, hr, hb⟩
                obtain ⟨A5, c5, rfl⟩ := Kd.R_slice hr
                have hb2 := below_step hW hb
                have hbg := (hb2.block g (blk_lt hb1)).trans hb1
                have hr' : k8.R 5 w' W1.heap.size (fun _ => True) (.slice A5 l.length c5) l := Kd.R_lower hr hW.size
                refine ⟨A5, c5, rfl, blk_cell hbg 3, blk_frozen hbg 3, blk_cell (((below_alloc (Below.refl _ w') _).block g (blk_lt hbg)).trans hbg) 3, ⟨hr', hb2, ?_, fun w1 hg => (hg.block g (blk_lt hbg) (fun e => ?_)).trans hbg⟩⟩
                · refine Kd.R_mono (Kd.R_step (Kd.raw_tight hR) (fun k hk hlt => (hb2.block k (by have := k1.size; omega)).trans (k1.block k hlt (fun e => ?_)))) (fun _ _ => trivial)
                  obtain ⟨cells, hcl⟩ := Kd.N_typed HC.out k hk.symm
                  rw [e, HH.out] at hcl; cases hcl
                · obtain ⟨cells, hcl⟩ := Kd.N_typed HC.out g e.symm
                  rw [HH.out] at hcl; cases hcl
              have HCL := Aside0.mk hHCL
              have hM : ∀ W A5 c5, (Kd.raw 4).M W 0 (fun _ => False) [.bool false, .int .i64 0, .int .i64 at_, .slice A5 l.length c5] [.bool false, .int .i64 0, .int .i64 at_, .slice A5 l.length c5] := fun W A5 c5 => ⟨rfl, rfl, fun u hu => by
                simp only [List.mem_cons, List.not_mem_nil, or_false] at hu
                rcases hu with rfl | rfl | rfl | rfl <;> rfl⟩
              have HM4 := Aside0.mk hM
              have HB1 := Aside0.mk hb1
              have HC3 := Aside0.mk hC3
              have HK1 := Aside0.mk k1
              have HLR := Aside0.mk hlr
              have HRW := Aside0.mk hR
              have HFK := Aside0.mk hfk
              clear hHCL hM hb1 hC3 k1 hlr hR hfk hLn
              go_region_law (first
                | (go_simp; go_at_call 59; refine (HCL.out _ (below_drew1 (Below.refl _ _))).mono ?_; rintro e w4 ⟨A5, c5, rfl, hq3, hz3, hqa, hx4⟩)
                | (refine Kd.R_append_step (Kd.raw 4) (w0 := w4) 0 (by rfl) (.tmp 95) (.tmp 100) 108 114 (.agg #[.bool false, .int .i64 0, .int .i64 0, .slice none 0 0]) 48 (by rfl) Try.underlying108 info114 (by rfl) (by decide) (by decide) (.slice Ac2 f.f3.length cc2) rows [.bool false, .int .i64 0, .int .i64 at_, .slice A5 l.length c5] [.bool false, .int .i64 0, .int .i64 at_, .slice A5 l.length c5] (fun _ => True) (fun _ => False) (by rfl) (by rfl) (HM4.out _ _ _) (fun _ hk => hk.elim) (fun _ _ => trivial) hx4.out.2.2.1 ((Below.refl 0 w4).mono (Nat.zero_le _)) (Nat.zero_le _) HLN.out ?_; intro v1 w1 hr hb2 hg hat; obtain ⟨A1, c1, rfl⟩ := Kd.R_slice hr; have hbw := Aside0.mk (hx4.out.2.2.2 _ hg); have c3w : w1.cell? ⟨g, 3, none⟩ = some (.slice Ac2 f.f3.length cc2) := blk_cell hbw.out 3; have f3w := blk_frozen hbw.out 3)
                | fail)
              all_goals
                rw [show (rows ++ [[Value.bool false, Value.int .i64 0, Value.int .i64 at_, Value.slice A5 l.length c5]]).length = rows.length + 1 from by simp] at hat hr
                have hmid := write_mid (wf := w1.setCell ⟨g, 3, none⟩ (.slice A1 (rows.length + 1) c1)) HWR2.out HH.out (Kd.N_typed HC.out) (write_kf (W1 := w4) (HK1.out.then_below hx4.out.2.1) hg ((OnlyB.refl _ _).set 3 _))
                obtain ⟨hmp, hcd⟩ := hmid
                obtain ⟨w6, hrun, hm6, htn⟩ := World.ownsMap.store (w := w1.setCell ⟨g, 3, none⟩ (.slice A1 (rows.length + 1) c1)) hmp law9 Try.underlying103 (by have := HTLN.out; unfold tblk; rw [amap_len]; unfold maxLen; omega) (key_str s hs) (val := .pointer (some ⟨g, 0, none⟩)) (d := .lit (.int .i64 g)) (ps := []) rfl
                have HM6 := Aside0.mk hm6
                have HT6 := Aside0.mk htn
                have HG := Aside0.mk hg
                have HAT := Aside0.mk hat
                have HR1 := Aside0.mk hr
                clear hm6 htn hg hat hr hmp
                go_wp2
                go_ret
                rw [HDF.out, if_neg (by have := HFU.out; omega)]
                refine ⟨rfl, ?_⟩
                rw [← HDF1.out]
                exact write_end HWR2.out HH.out HS2.out HO.out HC.out HLR.out HFK.out HB3.out HR3.out HW1.out hx4.out.2.1 hx4.out.1 HG.out HAT.out HR1.out HM6.out (Kp.turned HT6.out)
end Go.Proofs.Ytmmiipnmimjojaa.PS
end
