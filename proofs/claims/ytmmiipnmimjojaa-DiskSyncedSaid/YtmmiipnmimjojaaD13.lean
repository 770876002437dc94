/- disk.Crash. -/
import Derived.Test.YtmmiipnmimjojaaD12
namespace Go.Proofs.Ytmmiipnmimjojaa.PS
open Go.RowKit Go.Proofs.YtmmiipnmimjojaaW.PrintWords Go.Proofs.YtmmiipnmimjojaaW.PrintLast Go.Proofs.YtmmiipnmimjojaaW.PrintMore
open Go.Maps Go.Proofs.Ytmmiipnmimjojaa.PD
set_option linter.unusedVariables false
set_option linter.unusedSimpArgs false
def kOf (keep : List Int) (i : Nat) : Int := if i < keep.length then max 0 (keep.getD i 0) else 0
def crF (f : Fil) (k : Int) : Option Fil := if f.f2 = false ∧ (aft k f.f3 (f.f1, 0)).2 = 0 then none else some ⟨(aft k f.f3 (f.f1, 0)).1, (aft k f.f3 (f.f1, 0)).1, true, []⟩
def crL (keep : List Int) : Nat → List (Nm × Fil) → List (Nm × Fil)
  | _, [] => []
  | i, (n, f) :: l => match crF f (kOf keep i) with
    | none => crL keep (i + 1) l
    | some f' => (n, f') :: crL keep (i + 1) l
def dCrash (D : Dsk) (keep : List Int) : Dsk := ⟨D.room, crL keep 0 D.files⟩
/-- What a crash asks of a disk. -/
def DskCk (D : Dsk) : Prop := ∀ p ∈ D.files, p.1.length ≤ 64 ∧ ChOk p.2.f3 p.2.f1
section
variable {α : Type} {n : Nm} {x y : α} {l r : List (Nm × α)}
theorem srt_mid (h : Srt (l ++ (n, x) :: r)) : (∀ p ∈ l, p.1 ≠ n) ∧ ∀ p ∈ r, p.1 ≠ n := by
  obtain ⟨_, h2, h3⟩ := List.pairwise_append.1 h
  obtain ⟨h4, _⟩ := List.pairwise_cons.1 h2
  exact ⟨fun p hp => nlt_ne (h3 p hp _ (.head _)), fun p hp e => nlt_ne (h4 p hp) e.symm⟩
theorem aget_mid (h : Srt (l ++ (n, x) :: r)) : aget n (l ++ (n, x) :: r) = some x := aget_of_mem h (List.mem_append_right _ (.head _))
theorem adel_mid (h : Srt (l ++ (n, x) :: r)) : adel n (l ++ (n, x) :: r) = l ++ r := by
  obtain ⟨h1, h2⟩ := srt_mid h
  have e1 : adel n l = l := adel_none (aget_none.2 h1)
  have e2 : adel n r = r := adel_none (aget_none.2 h2)
  unfold adel at *
  rw [List.filter_append, List.filter_cons, e1, e2]
  simp
theorem aput_mid (h : Srt (l ++ (n, x) :: r)) : aput n y (l ++ (n, x) :: r) = l ++ (n, y) :: r := by
  obtain ⟨h1, h2⟩ := srt_mid h
  have hs : Srt (l ++ (n, y) :: r) := srt_keys h (by simp)
  refine srt_ext (aput_srt h) hs (fun p => ?_)
  rw [aput_mem h]
  simp only [List.mem_append, List.mem_cons]
  constructor
  · rintro (rfl | ⟨hp | rfl | hp, hne⟩)
    · exact .inr (.inl rfl)
    · exact .inl hp
    · exact absurd rfl hne
    · exact .inr (.inr hp)
  · rintro (hp | rfl | hp)
    · exact .inr ⟨.inl hp, h1 p hp⟩
    · exact .inl rfl
    · exact .inr ⟨.inr (.inr hp), h2 p hp⟩
end
theorem aft_len (k : Int) : ∀ (cs : List S114) (out : List Int) (u : Int), u ≤ k → out.length ≤ 2000000 → (u = k ∨ ChOk cs out) → (aft k cs (out, u)).1.length ≤ 2000000
  | [], out, u, _, hl, _ => hl
  | c :: cs, out, u, hu, hl, h => by
    have hc := chN_0 c
    have hm : u + min (chN c) (k - u) ≤ k := by omega
    refine aft_len k cs _ _ hm ?_ ?_
    · show (ap1 c out (min (chN c) (k - u))).length ≤ 2000000
      rcases h with rfl | h
      · rw [show min (chN c) (u - u) = 0 by omega, ap1_zero]; exact hl
      · obtain ⟨a1, a2, a3, a4, a5⟩ := h
        unfold ap1
        split
        · exact hl
        · split
          · rw [List.length_take]; omega
          · next h0 => 
            have := a3 (by simpa using h0)
            rw [layL_len _ _ _ (by omega), List.length_take]; omega
    · show u + min (chN c) (k - u) = k ∨ ChOk cs (ap1 c out (min (chN c) (k - u)))
      rcases h with rfl | h
      · exact .inl (by omega)
      · by_cases hh : chN c ≤ k - u
        · rw [Int.min_eq_left hh]; exact .inr h.2.2.2.2
        · exact .inl (by omega)
/-- Two steps are one. -/
theorem chain {W w1 w2 : World} {S : Nat → Prop} {d : Nat} {D : Dsk} (k : Kp W w1 (WR W S)) (h : Kp w1 w2 (WR w1 (Nw W w1 S)) ∧ DskAt w2 (Nw w1 w2 (Nw W w1 S)) d D) : Kp W w2 (WR W S) ∧ DskAt w2 (Nw W w2 S) d D := by
  have s1 := k.size
  have s2 := h.1.size
  refine ⟨k.trans h.1 (fun i hi hx => ?_), h.2.mono fun i _ hx => ?_⟩
  · obtain ⟨h1, h2⟩ := hx
    refine ⟨h1.elim id (fun h => by omega), fun hu => h2 (hu.of_same (k.block i hi (fun hw => hw.2 hu)))⟩
  · rcases hx with (hx | hx) | hx
    · exact .inl hx
    · exact .inr ⟨hx.1, by omega⟩
    · exact .inr ⟨by omega, hx.2⟩
theorem R_str_keep {W wf : World} {base : Nat} {v : Value} {xs : List ByteArray} {P : Nat → Prop} (hR : Kd.R Kd.string 9 W base (fun _ => True) v xs) (k : Kp W wf P) (hP : ∀ x cs, P x → W.heap[x]? ≠ some (.cells cs 9 (0, 0))) : Kd.R Kd.string 9 wf base (fun _ => True) v xs :=
  Kd.R_mono (Kd.R_step (Kd.R_tight rfl hR) (fun x hx hlt => k.block x hlt (fun hp => by
    obtain ⟨cs, hc⟩ := Kd.R_typed hR x hx.symm
    exact hP x cs hp hc))) (fun _ _ => trivial)
theorem crash_set {W w2 w3 wf : World} {S : Nat → Prop} {d m : Nat} {own : Nat → Nat} {T : Tb} {room : Int} {n : Nm} {b : Nat} {f : Fil} {vn vs vc v8 v1 : Value} {out : List Int} (h : DskIn W S d m own T room) (hm : (n, b, f) ∈ T)
    (hh : W.heap[b]? = some (.cells #[vn, vs, .bool f.f2, vc] 110 (0, 0))) (hc : ∀ k, vc.ownBlock = some k → own k = b ∧ ∃ cs, W.heap[k]? = some (.cells cs 114 (0, 0)))
    (hb2 : Below W.heap.size W w2) (h8 : NV W w2 v8 out) (hb3 : Below w2.heap.size w2 w3) (hr : k8.R 5 w3 w2.heap.size (fun _ => True) v1 out) (hf : wf.heap[b]? = some (.cells #[v8, v1, .bool true, .slice none 0 0] 110 (0, 0))) (ho : OnlyB w3 wf b) :
    Kp W wf (WR W S) ∧ DskIn wf (Nw W wf S) d m (ownN W own b) (aput n (b, ⟨out, out, true, []⟩) T) room := by
  have hfl := h.2.2.2.2.2.1 _ _ _ hm
  have hb := below_step hb2 hb3
  have k1 := ho.kp hb
  have hbl := blk_lt hh
  have s2 := hb2.size
  have s3 := hb3.size
  have sf := ho.size
  refine ⟨k1.mono (fun k e => by rw [e]; exact wr_b hfl), h.turn hm hh hc (k1.mono fun k e => .inl e) ?_⟩
  refine ⟨.inl hfl.1, by unfold ownN; rw [if_pos hbl]; exact hfl.2.1, _, _, _, hf, ?_, ?_, Kd.N_nil _ _ _ _ _, fun k hk => by cases hk⟩
  · have h9 : NV W w3 v8 out := h8.below s2 hb3
    have h10 := V_old (W := w3) (S := Nw W w3 (fun _ => False)) (wf := wf) h9 (fun k hk hS hu => ho.block k (fun e => by
      have hhb := (hb.block b hbl).trans hh
      rw [e] at hu; exact U8.ne hhb (by decide) hu))
    refine Kd.V_mono h10 (fun k hk => ⟨?_, hk.2⟩)
    rcases hk.1 with (h | h) | h
    · exact h.elim
    · exact .inr ⟨h.1, by omega⟩
    · exact .inr ⟨by omega, h.2⟩
  · exact V_new (Kd.R_lower hr s2) (fun k h1 h2 => ho.block k (by omega)) (by omega)
theorem crash_del {W w2 w6 : World} {S : Nat → Prop} {d m : Nat} {own : Nat → Nat} {T : Tb} {room : Int} {s : ByteArray} {j : Nat} (h : DskIn W S d m own T room) (hb2 : Below W.heap.size W w2)
    (hm6 : w6.ownsMap Try.prog 9 ptrElem m j ((dOf (tblk T)).del (.string s.data.toList))) (k6 : Kp w2 w6 (fun k => k = m)) :
    Kp W w6 (WR W S) ∧ DskIn w6 (Nw W w6 S) d m own (adel s.data.toList T) room := by
  have hk : Kp W w6 (fun k => k = m) := (Kp.of_below hb2 (fun k => k = m)).trans k6 (fun _ _ h => h)
  exact ⟨hk.mono (fun k e => by rw [e]; exact wr_m h), h.map_turn hk (by rw [tblk_del]; exact Tbl.del_of hm6) (adel_srt h.2.2.2.2.1) (fun n b f hx => ⟨n, (adel_mem.1 hx).1⟩) (nodup_del h.2.2.2.2.2.2)⟩
theorem dskAt_srt {W : World} {S : Nat → Prop} {d : Nat} {D : Dsk} (h : DskAt W S d D) : Srt D.files := by
  obtain ⟨m, own, T, hin, hD⟩ := h
  rw [← hD]
  exact srt_map _ hin.2.2.2.2.1
theorem kOf_in {keep : List Int} {i : Int} (h0 : 0 ≤ i) (h : i < (keep.length : Int)) : kOf keep i.toNat = max 0 (keep.getD i.toNat 0) := by unfold kOf; rw [if_pos (by omega)]
theorem kOf_out {keep : List Int} {i : Int} (h : ¬ i < (keep.length : Int)) : kOf keep i.toNat = 0 := by unfold kOf; rw [if_neg (by omega)]
theorem names_drop {l : List (Nm × Fil)} {i : Int} {n : Nm} {f : Fil} {r : List (Nm × Fil)} (h0 : 0 ≤ i) (h : l.drop i.toNat = (n, f) :: r) : (namesB l).getD i.toNat default = str n ∧ l.drop (i + 1).toNat = r ∧ (n, f) ∈ l := by
  have hl : i.toNat < l.length := by
    by_cases hh : i.toNat < l.length
    · exact hh
    · rw [List.drop_eq_nil_of_le (by omega)] at h; cases h
  rw [List.drop_eq_getElem_cons hl] at h
  injection h with h1 h2
  refine ⟨?_, by rw [show (i + 1).toNat = i.toNat + 1 by omega]; exact h2, h1 ▸ List.getElem_mem hl⟩
  unfold namesB
  rw [List.getD_eq_getElem?_getD, List.getElem?_map, List.getElem?_eq_getElem hl, h1]
  rfl
set_option maxHeartbeats 1000000 in
set_option maxRecDepth 100000 in
theorem crash_calls {W : World} {S : Nat → Prop} {d : Nat} {D : Dsk} {Ak : Option Addr} {ck : Nat} {keep : List Int} (h : DskAt W S d D) (ok : DskOk D) (hck : DskCk D) (hk : (Kd.int .i64).C W Ak keep.length keep)
    (hK : ∀ ad, Ak = some ad → 0 < keep.length → ¬ WR W S ad.block) (hkb : ∀ z ∈ keep, z ≤ 9223372036854775807) :
    Calls Try.prog 22 #[.pointer (some ⟨d, 0, none⟩), .slice Ak keep.length ck] W fun e w' => e = .returned (.tuple #[]) ∧ Kp W w' (WR W S) ∧ DskAt w' (Nw W w' S) d (dCrash D keep) := by
  have H := Aside0.mk h
  have HOK := Aside0.mk ok
  have HCK := Aside0.mk hck
  have HKC := Aside0.mk hk
  have HKA := Aside0.mk hK
  have HKB := Aside0.mk hkb
  clear h ok hck hk hK hkb
  go_enter Try.func22, Try.ntmps22
  go_wp2_with fail
  refine (names_calls H.out (by have := HOK.out.2.1; omega)).mono ?_
  rintro e w1 ⟨v, rfl, hr, hb⟩
  obtain ⟨An, cn, rfl⟩ := Kd.R_slice hr
  have hnl : (namesB D.files).length = D.files.length := by unfold namesB; rw [List.length_map]
  rw [hnl] at hr ⊢
  have HN := Aside0.mk hr
  have HB := Aside0.mk hb
  have HL := Aside0.mk (show D.files.length ≤ 100 from HOK.out.2.1)
  clear hr hb
  go_wp2_with fail
  go_loopg [13] D.files.length (fun kq v13 w' => ∃ (i : Int) (done : List (Nm × Fil)), v13 = .int .i64 i ∧ 0 ≤ i ∧ i + kq = D.files.length ∧
    Aside0 (done ++ crL keep i.toNat (D.files.drop i.toNat) = crL keep 0 D.files) ∧ Aside0 (Kp W w' (WR W S) ∧ DskAt w' (Nw W w' S) d ⟨D.room, done ++ D.files.drop i.toNat⟩) ∧ Aside0 (Kd.R Kd.string 9 w' W.heap.size (fun _ => True) (.slice An D.files.length cn) (namesB D.files)))
  case atStart => exact ⟨0, [], rfl, by omega, by omega, ⟨rfl⟩, ⟨Kp.of_below HB.out _, (H.out.below HB.out).mono (fun _ _ h => .inl h)⟩, HN⟩
  case round =>
    obtain ⟨i, done, rfl, i0, i1, HD, HS, HNN⟩ := hrel
    by_cases h6 : i < (D.files.length : Int)
    · have c6 : decide (i < (D.files.length : Int)) = true := decide_eq_true h6
      obtain ⟨n, f, r, hdrop⟩ : ∃ n f r, D.files.drop i.toNat = (n, f) :: r := ⟨_, _, _, List.drop_eq_getElem_cons (by omega)⟩
      obtain ⟨hnm, hdr, hmem⟩ := names_drop i0 hdrop
      rw [hdrop] at HD HS
      have hsz : (str n).size ≤ maxLen := by
        have : n.length ≤ 64 := (HCK.out _ hmem).1
        show n.toArray.size ≤ maxLen
        unfold maxLen
        simp; omega
      obtain ⟨m, own, T, hin, hDf, hg⟩ := HS.out.2.in_ (str n).data.toList
      have hsrt := dskAt_srt HS.out.2
      have hag : aget (str n).data.toList (done ++ (n, f) :: r) = some f := aget_mid hsrt
      obtain ⟨g, hgT⟩ := tb_some (hg.symm.trans hag)
      have hfil := hin.2.2.2.2.2.1 _ _ _ (aget_mem hgT)
      have hcf := (HCK.out _ hmem).2
      have hff := HOK.out.2.2 _ hmem
      obtain ⟨ad, c, e1, _, hcs, hx0⟩ := Kd.C_get (Kd.R_reads' HNN.out).2.2 default i i0 (by rw [hnl]; exact h6)
      cases e1
      rw [show c = [.string ((namesB D.files).getD i.toNat default)] from hcs, hnm] at hx0
      have hx : wr.cell? (ad.add i.toNat) = some (.string (str n)) := by have := hx0 0 _ rfl; rwa [Nat.add_zero, show i.toNat * Kd.string.sz = i.toNat from Nat.mul_one _] at this
      have hlk := hin.2.2.2.1.look1 (str n) hsz g (by rw [hin.get, hgT]; rfl)
      have hc1 : wr.cell? ⟨d, 1, none⟩ = some (.map (some m)) := blk_cell hin.2.2.1 1
      have HX := Aside0.mk hin
      have HFI := Aside0.mk hfil
      have HGT := Aside0.mk (aget_mem hgT)
      have HCF := Aside0.mk hcf
      have HFF := Aside0.mk hff
      have HDF := Aside0.mk hDf
      have HSR := Aside0.mk hsrt
      have HDR := Aside0.mk hdr
      have p0 := eq_true i0
      have p1 := eq_true h6
      have hnx : IntKind.i64.wrap (i + 1) = i + 1 := IntWalk.i64_in _ ⟨by omega, by have := HL.out; omega⟩
      obtain ⟨K, hK⟩ : ∃ K, kOf keep i.toNat = K := ⟨_, rfl⟩
      have HKK := Aside0.mk hK
      clear hin hfil hgT hg hag hcf hff hDf hsrt hdr hmem hnm hx0 hcs hdrop
      by_cases hki : i < (keep.length : Int)
      · have c7 : decide (i < (keep.length : Int)) = true := decide_eq_true hki
        have hK1 := hK.symm.trans (kOf_in i0 hki)
        obtain ⟨adk, ckk, ek, _, hcs, hx0⟩ := Kd.C_get HKC.out 0 i i0 hki
        subst ek
        have hz := HKB.out (keep.getD i.toNat 0) (by rw [List.getD_eq_getElem?_getD, List.getElem?_eq_getElem (by omega)]; exact List.getElem_mem _)
        rw [show ckk = [.int .i64 (keep.getD i.toNat 0)] from hcs] at hx0
        obtain ⟨z, hzz⟩ : ∃ z, keep.getD i.toNat 0 = z := ⟨_, rfl⟩
        rw [hzz] at hx0 hz hK1
        have hxk : W.cell? (adk.add i.toNat) = some (.int .i64 z) := by have := hx0 0 _ rfl; rwa [Nat.add_zero, show i.toNat * (Kd.int .i64).sz = i.toNat from Nat.mul_one _] at this
        have hxk2 : wr.cell? (adk.add i.toNat) = some (.int .i64 z) := (HS.out.1.cell (World.block_lt_of_cell? W _ hxk) (by rw [add_block]; exact HKA.out adk rfl (by omega))).trans hxk
        have hmx : max 0 z = K := hK1.symm
        have hK0 : 0 ≤ K := by omega
        have hK2 : K ≤ 9223372036854775807 := by omega
        have p2 := eq_true hki
        clear hx0 hcs hxk hK hK1 hz hzz
        go_wp2_with fail
        refine (after_calls HFI.out HFF.out.2.1 HFF.out.2.2.1 HCF.out (by omega) (by omega)).mono ?_
        rintro e w2 ⟨v8, rfl, h8, hb2⟩
        obtain ⟨out, hout⟩ : ∃ out, (aft K f.f3 (f.f1, 0)).1 = out := ⟨_, rfl⟩
        obtain ⟨un, hun⟩ : ∃ un, (aft K f.f3 (f.f1, 0)).2 = un := ⟨_, rfl⟩
        have hol := aft_len K f.f3 f.f1 0 (by omega) (by have := HFF.out.2.1; omega) (.inr HCF.out)
        rw [hout] at h8 hol
        rw [hun]
        have hcr : crF f (kOf keep i.toNat) = if f.f2 = false ∧ un = 0 then none else some ⟨out, out, true, []⟩ := by rw [HKK.out]; unfold crF; rw [hout, hun]
        obtain ⟨A8, c8, rfl⟩ := Kd.V_slice h8
        obtain ⟨hSb, hob, vn, vs, vc, hh, hn, hs, hcN, hown⟩ := HFI.out
        have hh2 := (hb2.block _ (blk_lt hh)).trans hh
        have g2 : w2.cell? ⟨g, 2, none⟩ = some (.bool f.f2) := blk_cell hh2 2
        have hd2 : w2.heap[d]? = some (.cells #[.int .i64 D.room, .map (some m)] 105 (0, 0)) := (hb2.block _ (blk_lt HX.out.2.2.1)).trans HX.out.2.2.1
        have hdc : w2.cell? ⟨d, 1, none⟩ = some (.map (some m)) := blk_cell hd2 1
        have H8 := Aside0.mk h8
        have HB2 := Aside0.mk hb2
        have HOL := Aside0.mk hol
        have HCR := Aside0.mk hcr
        have HH := Aside0.mk hh
        have HOW := Aside0.mk hown
        have HCN := Aside0.mk hcN
        clear h8 hb2 hout hun hol hcr hh hn hs hcN hown hlk hc1 hd2
        by_cases hdel : f.f2 = false ∧ un = 0
        · obtain ⟨hf2, rfl⟩ := hdel
          have htb2 : w2.ownsMap Try.prog 9 ptrElem m (tblk T).length (dOf (tblk T)) := by
            obtain ⟨es, cl, hmm⟩ := HX.out.2.2.2.1.map
            exact HX.out.2.2.2.1.step (HB2.out.block m (blk_lt hmm))
          obtain ⟨w6, hrun, hm6, htn⟩ := World.ownsMap.drop htb2 law9 Try.underlying103 (key_str (str n) hsz) 0
          have k6 := Kp.turned htn
          have hdl := crash_del HX.out HB2.out hm6 k6
          have hnext := chain HS.out.1 (D := ⟨D.room, done ++ r⟩) ⟨hdl.1, m, own, _, hdl.2, by rw [tfil_del, HDF.out]; exact adel_mid HSR.out⟩
          have hnames : Kd.R Kd.string 9 w6 W.heap.size (fun _ => True) (.slice (some ad) D.files.length cn) (namesB D.files) :=
            R_str_keep (Kd.R_below HNN.out HB2.out) k6 (fun x cs e hx => by
              obtain ⟨es, cl, hmm⟩ := HX.out.2.2.2.1.map
              rw [e, HB2.out.block m (blk_lt hmm), hmm] at hx
              cases hx)
          have HNX := Aside0.mk hnext
          have HNM := Aside0.mk hnames
          rw [hf2] at g2
          have HF2 := Aside0.mk hf2
          clear htb2 hm6 htn k6 hdl hnext hnames hf2
          go_wp2_with fail
          go_roundg (gk - 1)
          case measure => omega
          case rel =>
            refine ⟨i + 1, done, rfl, by omega, by omega, ⟨?_⟩, ⟨?_⟩, HNM⟩
            · rw [HDR.out, show (i + 1).toNat = i.toNat + 1 by omega]
              have h := HD.out
              rw [show crL keep i.toNat ((n, f) :: r) = match crF f (kOf keep i.toNat) with | none => crL keep (i.toNat + 1) r | some f' => (n, f') :: crL keep (i.toNat + 1) r from rfl, HCR.out, if_pos ⟨HF2.out, by simp⟩] at h
              exact h
            · rw [HDR.out]; exact HNX.out
        · have HND := Aside0.mk hdel
          have hgo : f.f2 = true ∨ (f.f2 = false ∧ decide (un = 0) = false ∧ ¬ un = 0) := by
            cases h2 : f.f2
            · exact .inr ⟨rfl, decide_eq_false (fun e => hdel ⟨h2, e⟩), fun e => hdel ⟨h2, e⟩⟩
            · exact .inl rfl
          clear hdel
          rcases hgo with hf2 | ⟨hf2, hu0, hu1⟩
          all_goals
            rw [hf2] at g2
            clear hf2
            go_wp2_with fail
            refine (clone8 A8 c8 out w2 (Kd.V_reads' H8.out).2.2 (by have := HOL.out; omega)).mono ?_
            rintro e w3 ⟨v9, rfl, hr9, hb3⟩
            obtain ⟨A9, c9, rfl⟩ := Kd.R_slice hr9
            have hh3 : w3.heap[g]? = some (.cells #[vn, vs, .bool f.f2, vc] 110 (0, 0)) := (hb3.block _ (by have := (HB2.out).size; have := blk_lt HH.out; omega)).trans ((HB2.out.block _ (blk_lt HH.out)).trans HH.out)
            have t0 : w3.cell? ⟨g, 0, none⟩ = some vn := blk_cell hh3 0
            have t1 : w3.cell? ⟨g, 1, none⟩ = some vs := blk_cell hh3 1
            have t2 : w3.cell? ⟨g, 2, none⟩ = some (.bool f.f2) := blk_cell hh3 2
            have t3 : w3.cell? ⟨g, 3, none⟩ = some vc := blk_cell hh3 3
            have z0 := blk_frozen hh3 0
            have z1 := blk_frozen hh3 1
            have z2 := blk_frozen hh3 2
            have z3 := blk_frozen hh3 3
            have HR9 := Aside0.mk hr9
            have HB3 := Aside0.mk hb3
            have HH3 := Aside0.mk hh3
            clear hr9 hb3 hh3 g2 hdc
            go_wp2_with fail
            go_roundg (gk - 1)
            case measure => omega
            case rel =>
              have ho := ((((OnlyB.refl w3 g).set 0 (.slice A8 out.length c8)).set 1 (.slice A9 out.length c9)).set 2 (.bool true)).set 3 (.slice none 0 0)
              have hst := crash_set HX.out HGT.out HH.out (fun k hk => ⟨(HOW.out k hk).2, Kd.N_typed HCN.out k hk⟩) HB2.out H8.out HB3.out HR9.out (blk_set (blk_set (blk_set (blk_set HH3.out 0 _) 1 _) 2 _) 3 _) ho
              have hnext := chain HS.out.1 (D := ⟨D.room, (done ++ [(n, ⟨out, out, true, []⟩)]) ++ r⟩) ⟨hst.1, m, _, _, hst.2, by rw [tfil_put, HDF.out]; exact (aput_mid HSR.out).trans (by simp)⟩
              refine ⟨i + 1, done ++ [(n, ⟨out, out, true, []⟩)], rfl, by omega, by omega, ⟨?_⟩, ⟨?_⟩, ⟨?_⟩⟩
              · rw [HDR.out, show (i + 1).toNat = i.toNat + 1 by omega]
                have h := HD.out
                rw [show crL keep i.toNat ((n, f) :: r) = match crF f (kOf keep i.toNat) with | none => crL keep (i.toNat + 1) r | some f' => (n, f') :: crL keep (i.toNat + 1) r from rfl, HCR.out, if_neg HND.out] at h
                rw [List.append_assoc]
                exact h
              · rw [HDR.out]; exact hnext
              · exact R_str_keep (Kd.R_below (Kd.R_below HNN.out HB2.out) HB3.out) (ho.kp (Below.refl _ _)) (fun x cs e hx => by
                  rw [e, HH3.out] at hx
                  cases hx)
      · have c7 : decide (i < (keep.length : Int)) = false := decide_eq_false hki
        have hK0 : K = 0 := hK.symm.trans (kOf_out hki)
        subst hK0
        clear hK
        go_wp2_with fail
        refine (after_calls HFI.out HFF.out.2.1 HFF.out.2.2.1 HCF.out (by omega) (by omega)).mono ?_
        rintro e w2 ⟨v8, rfl, h8, hb2⟩
        obtain ⟨out, hout⟩ : ∃ out, (aft 0 f.f3 (f.f1, 0)).1 = out := ⟨_, rfl⟩
        obtain ⟨un, hun⟩ : ∃ un, (aft 0 f.f3 (f.f1, 0)).2 = un := ⟨_, rfl⟩
        have hol := aft_len 0 f.f3 f.f1 0 (by omega) (by have := HFF.out.2.1; omega) (.inr HCF.out)
        rw [hout] at h8 hol
        rw [hun]
        have hcr : crF f (kOf keep i.toNat) = if f.f2 = false ∧ un = 0 then none else some ⟨out, out, true, []⟩ := by rw [HKK.out]; unfold crF; rw [hout, hun]
        obtain ⟨A8, c8, rfl⟩ := Kd.V_slice h8
        obtain ⟨hSb, hob, vn, vs, vc, hh, hn, hs, hcN, hown⟩ := HFI.out
        have hh2 := (hb2.block _ (blk_lt hh)).trans hh
        have g2 : w2.cell? ⟨g, 2, none⟩ = some (.bool f.f2) := blk_cell hh2 2
        have hd2 : w2.heap[d]? = some (.cells #[.int .i64 D.room, .map (some m)] 105 (0, 0)) := (hb2.block _ (blk_lt HX.out.2.2.1)).trans HX.out.2.2.1
        have hdc : w2.cell? ⟨d, 1, none⟩ = some (.map (some m)) := blk_cell hd2 1
        have H8 := Aside0.mk h8
        have HB2 := Aside0.mk hb2
        have HOL := Aside0.mk hol
        have HCR := Aside0.mk hcr
        have HH := Aside0.mk hh
        have HOW := Aside0.mk hown
        have HCN := Aside0.mk hcN
        clear h8 hb2 hout hun hol hcr hh hn hs hcN hown hlk hc1 hd2
        by_cases hdel : f.f2 = false ∧ un = 0
        · obtain ⟨hf2, rfl⟩ := hdel
          have htb2 : w2.ownsMap Try.prog 9 ptrElem m (tblk T).length (dOf (tblk T)) := by
            obtain ⟨es, cl, hmm⟩ := HX.out.2.2.2.1.map
            exact HX.out.2.2.2.1.step (HB2.out.block m (blk_lt hmm))
          obtain ⟨w6, hrun, hm6, htn⟩ := World.ownsMap.drop htb2 law9 Try.underlying103 (key_str (str n) hsz) 0
          have k6 := Kp.turned htn
          have hdl := crash_del HX.out HB2.out hm6 k6
          have hnext := chain HS.out.1 (D := ⟨D.room, done ++ r⟩) ⟨hdl.1, m, own, _, hdl.2, by rw [tfil_del, HDF.out]; exact adel_mid HSR.out⟩
          have hnames : Kd.R Kd.string 9 w6 W.heap.size (fun _ => True) (.slice (some ad) D.files.length cn) (namesB D.files) :=
            R_str_keep (Kd.R_below HNN.out HB2.out) k6 (fun x cs e hx => by
              obtain ⟨es, cl, hmm⟩ := HX.out.2.2.2.1.map
              rw [e, HB2.out.block m (blk_lt hmm), hmm] at hx
              cases hx)
          have HNX := Aside0.mk hnext
          have HNM := Aside0.mk hnames
          rw [hf2] at g2
          have HF2 := Aside0.mk hf2
          clear htb2 hm6 htn k6 hdl hnext hnames hf2
          go_wp2_with fail
          go_roundg (gk - 1)
          case measure => omega
          case rel =>
            refine ⟨i + 1, done, rfl, by omega, by omega, ⟨?_⟩, ⟨?_⟩, HNM⟩
            · rw [HDR.out, show (i + 1).toNat = i.toNat + 1 by omega]
              have h := HD.out
              rw [show crL keep i.toNat ((n, f) :: r) = match crF f (kOf keep i.toNat) with | none => crL keep (i.toNat + 1) r | some f' => (n, f') :: crL keep (i.toNat + 1) r from rfl, HCR.out, if_pos ⟨HF2.out, by simp⟩] at h
              exact h
            · rw [HDR.out]; exact HNX.out
        · have HND := Aside0.mk hdel
          have hgo : f.f2 = true ∨ (f.f2 = false ∧ decide (un = 0) = false ∧ ¬ un = 0) := by
            cases h2 : f.f2
            · exact .inr ⟨rfl, decide_eq_false (fun e => hdel ⟨h2, e⟩), fun e => hdel ⟨h2, e⟩⟩
            · exact .inl rfl
          clear hdel
          rcases hgo with hf2 | ⟨hf2, hu0, hu1⟩
          all_goals
            rw [hf2] at g2
            clear hf2
            go_wp2_with fail
            refine (clone8 A8 c8 out w2 (Kd.V_reads' H8.out).2.2 (by have := HOL.out; omega)).mono ?_
            rintro e w3 ⟨v9, rfl, hr9, hb3⟩
            obtain ⟨A9, c9, rfl⟩ := Kd.R_slice hr9
            have hh3 : w3.heap[g]? = some (.cells #[vn, vs, .bool f.f2, vc] 110 (0, 0)) := (hb3.block _ (by have := (HB2.out).size; have := blk_lt HH.out; omega)).trans ((HB2.out.block _ (blk_lt HH.out)).trans HH.out)
            have t0 : w3.cell? ⟨g, 0, none⟩ = some vn := blk_cell hh3 0
            have t1 : w3.cell? ⟨g, 1, none⟩ = some vs := blk_cell hh3 1
            have t2 : w3.cell? ⟨g, 2, none⟩ = some (.bool f.f2) := blk_cell hh3 2
            have t3 : w3.cell? ⟨g, 3, none⟩ = some vc := blk_cell hh3 3
            have z0 := blk_frozen hh3 0
            have z1 := blk_frozen hh3 1
            have z2 := blk_frozen hh3 2
            have z3 := blk_frozen hh3 3
            have HR9 := Aside0.mk hr9
            have HB3 := Aside0.mk hb3
            have HH3 := Aside0.mk hh3
            clear hr9 hb3 hh3 g2 hdc
            go_wp2_with fail
            go_roundg (gk - 1)
            case measure => omega
            case rel =>
              have ho := ((((OnlyB.refl w3 g).set 0 (.slice A8 out.length c8)).set 1 (.slice A9 out.length c9)).set 2 (.bool true)).set 3 (.slice none 0 0)
              have hst := crash_set HX.out HGT.out HH.out (fun k hk => ⟨(HOW.out k hk).2, Kd.N_typed HCN.out k hk⟩) HB2.out H8.out HB3.out HR9.out (blk_set (blk_set (blk_set (blk_set HH3.out 0 _) 1 _) 2 _) 3 _) ho
              have hnext := chain HS.out.1 (D := ⟨D.room, (done ++ [(n, ⟨out, out, true, []⟩)]) ++ r⟩) ⟨hst.1, m, _, _, hst.2, by rw [tfil_put, HDF.out]; exact (aput_mid HSR.out).trans (by simp)⟩
              refine ⟨i + 1, done ++ [(n, ⟨out, out, true, []⟩)], rfl, by omega, by omega, ⟨?_⟩, ⟨?_⟩, ⟨?_⟩⟩
              · rw [HDR.out, show (i + 1).toNat = i.toNat + 1 by omega]
                have h := HD.out
                rw [show crL keep i.toNat ((n, f) :: r) = match crF f (kOf keep i.toNat) with | none => crL keep (i.toNat + 1) r | some f' => (n, f') :: crL keep (i.toNat + 1) r from rfl, HCR.out, if_neg HND.out] at h
                rw [List.append_assoc]
                exact h
              · rw [HDR.out]; exact hnext
              · exact R_str_keep (Kd.R_below (Kd.R_below HNN.out HB2.out) HB3.out) (ho.kp (Below.refl _ _)) (fun x cs e hx => by
                  rw [e, HH3.out] at hx
                  cases hx)
    · have c6 : decide (i < (D.files.length : Int)) = false := decide_eq_false h6
      have hR := HD.out
      have hF := HS.out
      rw [List.drop_eq_nil_of_le (by omega)] at hR hF
      rw [show crL keep i.toNat [] = [] from by unfold crL; rfl, List.append_nil] at hR
      rw [List.append_nil, hR] at hF
      have HF := Aside0.mk hF
      clear hR hF
      go_wp2
      go_end0
      exact ⟨rfl, HF.out⟩
end Go.Proofs.Ytmmiipnmimjojaa.PS
