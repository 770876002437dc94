/- The texts of this claim's seat, joined: part 18. -/
import Derived.Test.YtmmiipnmimjojaaJ17
section
namespace Go.Proofs.Ytmmiipnmimjojaa.PS
open Go.RowKit Go.Proofs.YtmmiipnmimjojaaW.PrintWords Go.Proofs.YtmmiipnmimjojaaW.PrintLast Go.Proofs.YtmmiipnmimjojaaW.PrintMore
open Go.Maps Go.Proofs.Ytmmiipnmimjojaa.PD
set_option linter.unusedVariables false
set_option linter.unusedSimpArgs false
theorem Fk.ne {W w : World} {S : Nat → Prop} {r0 k : Nat} (h : Fk W S r0 w k) (hr : W.heap.size ≤ r0) : k ≠ r0 := by
  rcases h with h | h
  · exact h.2
  · have := h.2.lt; omega
theorem DskIn.fstep {W w wx : World} {S : Nat → Prop} {r0 d' m' : Nat} {own' : Nat → Nat} {T' : Tb} {room : Int} (h : DskIn w (Fk W S r0 w) d' m' own' T' room) (hr : W.heap.size ≤ r0) (hsz : w.heap.size ≤ wx.heap.size) (hk : ∀ k, k < w.heap.size → k ≠ r0 → wx.heap[k]? = w.heap[k]?) : DskIn wx (Fk W S r0 wx) d' m' own' T' room := by
  obtain ⟨hd, hM, hh, ht, hs, hfs, hnd⟩ := h
  obtain ⟨es, c, hmap⟩ := ht.map
  exact ⟨hd.mono hsz, hM.mono hsz, (hk d' (blk_lt hh) (hd.ne hr)).trans hh, ht.step (hk m' (blk_lt hmap) (hM.ne hr)), hs, fun n b f hx => (hfs n b f hx).step (fun k _ hS => hS.mono hsz) (fun _ _ => rfl) (fun k hk' hS _ => hk k hk' (hS.ne hr)), hnd⟩
theorem ranges_step {w w' : World} {m r n cnt : Nat} {D : DataW Unit} {left : Lit → Bool} (h : w.ranges Try.prog 9 ptrElem m r n D left cnt) (e1 : w'.heap[m]? = w.heap[m]?) (e2 : w'.heap[r]? = w.heap[r]?) : w'.ranges Try.prog 9 ptrElem m r n D left cnt := by
  obtain ⟨es, clock, since, seen, c0, h1, h2, h3, h4, h5, h6⟩ := h
  exact ⟨es, clock, since, seen, c0, e1.trans h1, h2, h3, h4, e2.trans h5, h6⟩
theorem V_fk {W wa v1 wg : World} {S : Nat → Prop} {r0 : Nat} {v : Value} {xs : List Int} (h : k8.R 5 v1 wa.heap.size (fun _ => True) v xs) (hk : ∀ k, wa.heap.size ≤ k → k < v1.heap.size → wg.heap[k]? = v1.heap[k]?) (hsz : v1.heap.size ≤ wg.heap.size) (hW : W.heap.size ≤ wa.heap.size) (hr : r0 < wa.heap.size) : Kd.V k8 5 wg 0 (RO wg (Fk W S r0 wg)) v xs := by
  have h1 := Kd.R_step (Kd.R_bound h) (w1 := wg) (fun k ho hlt => hk k ho.2.1 hlt)
  refine Kd.R_V (Kd.R_mono (Kd.R_lower h1 (Nat.zero_le _)) (fun k ho => ?_))
  obtain ⟨_, hb, hlt, q, hq, cs, hc⟩ := ho
  refine ⟨.inl ⟨⟨by omega, by omega⟩, by omega⟩, cs, (0, 0), ?_⟩
  rw [hk k hb hlt, hc]
  rcases List.mem_cons.1 hq with rfl | hq
  · rfl
  · cases hq
theorem N_fk {W wa wg : World} {S : Nat → Prop} {r0 : Nat} {v : Value} {rows : List (List Value)} {xs : List S114} (hl : rows.length = xs.length) (hr : (Kd.raw 4).R 114 wg wa.heap.size (fun _ => True) v rows) (hf : ∀ (j : Nat) (x : S114) (c : List Value), xs[j]? = some x → rows[j]? = some c → Kd.FK k114 W (RO W S) x c) (hb : Below W.heap.size W wg) (hW : W.heap.size ≤ wa.heap.size) :
    Kd.N k114 114 wg 0 (fun k => RO wg (Fk W S r0 wg) k ∨ some k = v.ownBlock) v xs := by
  refine ⟨fun k hk => .inr hk.symm, rows, hl, Kd.raw_tight (Kd.R_lower hr (Nat.zero_le _)), fun j x c hx hc => ?_⟩
  refine Kd.FK_mono (Kd.FK_step (hf j x c hx hc) (fun k hk hlt => hb.block k hlt)) (fun k hk => ⟨.inl ⟨.inr hk, hk.2.of_same (hb.block k hk.2.lt)⟩, fun e => ?_⟩)
  have := Kd.R_base hr k e.symm
  have := hk.2.lt
  omega
def ForkP (W : World) (S : Nat → Prop) (D : Dsk) (e : Ending) (w' : World) : Prop := ∃ d' S', e = .returned (.pointer (some ⟨d', 0, none⟩)) ∧ Below W.heap.size W w' ∧ DskAt w' S' d' ⟨max 0 D.room, D.files⟩ ∧ ∀ k, S' k → (W.heap.size ≤ k ∧ k < w'.heap.size) ∨ RO W S k
set_option maxHeartbeats 4000000 in
set_option maxRecDepth 100000 in
theorem fork_calls {W : World} {S : Nat → Prop} {d : Nat} {D : Dsk} (h : DskAt W S d D) (ok : DskOk D) (hfw : D.files.length ≤ 16) :
    Calls Try.prog 43 #[.pointer (some ⟨d, 0, none⟩)] W (ForkP W S D) := by
  obtain ⟨m, own, T, ⟨hd, hM, hh, ht, hs, hf, hnd⟩, hD⟩ := h
  obtain ⟨room, hroom⟩ : ∃ room, D.room = room := ⟨_, rfl⟩
  have HRM := Aside0.mk hroom
  rw [hroom] at hh
  have HDT := Aside0.mk hD
  have HOK := Aside0.mk ok
  have HH := Aside0.mk hh
  have HF := Aside0.mk hf
  have HS := Aside0.mk hs
  have hc0 : W.cell? ⟨d, 0, none⟩ = some (.int .i64 room) := blk_cell hh 0
  have HT := Aside0.mk ht
  have HLN := Aside0.mk hfw
  clear hh hf hs hnd ht hD ok hroom hfw
  go_enter Try.func43, Try.ntmps43
  go_wp2_with fail
  refine (new_calls room W).mono ?_
  rintro e w1 ⟨g, rfl, hd1, hb1⟩
  obtain ⟨m', own', T', hin, hT'⟩ := hd1
  have hT0 : T' = [] := by
    cases T' with
    | nil => rfl
    | cons e T' => cases hT'
  subst hT0
  have HIN := Aside0.mk hin
  have HB1 := Aside0.mk hb1
  have HT1 := Aside0.mk (show Tbl w1 m (tblk T) from by obtain ⟨es, c, hmap⟩ := HT.out.map; exact HT.out.step (hb1.block m (blk_lt hmap)))
  have hc1 : w1.cell? ⟨d, 1, none⟩ = some (.map (some m)) := blk_cell ((hb1.block d (blk_lt HH.out)).trans HH.out) 1
  clear hin hb1 hT' hc0
  go_wp2_with (first
    | (at_range; refine wpList_range_own _ rfl _ 103 rfl 9 106 law9 Try.underlying103 ptrElem m (tblk T).length (dOf (tblk T)) rfl HT1.out ?_; intro w0 hrg0 hg0 hs0)
    | fail)
  go_frame
  obtain ⟨r0, hr0⟩ : ∃ r0, w1.heap.size = r0 := ⟨_, rfl⟩
  rw [hr0] at hrg0 hs0 ⊢
  have hrW : W.heap.size ≤ r0 := by have := HB1.out.size; omega
  have HB0 := Aside0.mk (show Below W.heap.size W w0 from HB1.out.grown hg0 HB1.out.size (fun j hj => by cases hj))
  have HI0 := Aside0.mk (show DskIn w0 (Fk W S r0 w0) g m' own' [] (max 0 room) from by
    have h1 := HIN.out
    obtain ⟨a1, a2, a3, a4, a5, a6, a7⟩ := h1
    obtain ⟨es, c, hmap⟩ := a4.map
    have hk : ∀ k, k < w1.heap.size → w0.heap[k]? = w1.heap[k]? := fun k hk => hg0.block k hk (fun e => by cases e)
    have hn : ∀ k, Nw W w1 (fun _ => False) k → k < w1.heap.size → Fk W S r0 w0 k := fun k hk hlt => by
      rcases hk with hk | hk
      · exact hk.elim
      · exact .inl ⟨⟨hk.1, by omega⟩, by omega⟩
    exact ⟨hn _ a1 (blk_lt a3), hn _ a2 (blk_lt hmap), (hk _ (blk_lt a3)).trans a3, a4.step (hk _ (blk_lt hmap)), a5, fun _ _ _ h => (List.not_mem_nil h).elim, a7⟩)
  have HP0 := Aside0.mk (show Part T [] (has (dOf (tblk T))) from fun n => by
    rw [dOf_has]
    unfold tblk tfil
    rw [aget_map, aget_map, aget_map]
    cases aget n T with
    | none => rfl
    | some e => rfl)
  have hlt0 : r0 < w0.heap.size := by omega
  clear hg0 hs0 hr0 hc1 HT1
  go_loopw [4] (fun s wr => ∃ (left : Lit → Bool) (cnt : Nat) (own' : Nat → Nat) (T' : Tb) (sv : Value), sv = s ∧ wr.ranges Try.prog 9 ptrElem m r0 (tblk T).length (dOf (tblk T)) left cnt ∧ r0 < wr.heap.size ∧ Aside0 (Below W.heap.size W wr ∧ DskIn wr (Fk W S r0 wr) g m' own' T' (max 0 room) ∧ Part T T' left ∧ T'.length + cnt ≤ T.length))
    (fun _ wr => wr.rangeLeft m r0)
  case atStart => exact ⟨_, _, own', [], _, rfl, hrg0, hlt0, ⟨HB0.out, HI0.out, HP0.out, by rw [dOf_size]; unfold tblk; rw [amap_len]; simp⟩⟩
  case round =>
    obtain ⟨left, cnt, own1, T1, sv, rfl, hrg, hlt1, HX⟩ := hrel
    clear hrg0 hlt0 HB0 HI0 HP0 HIN
    go_wp2_with (first
      | (at_next; refine wpList_next_ranges _ rfl _ rfl 9 law9 ptrElem (Value.string) (Value.pointer) (fun key kl h => by obtain ⟨s, e, _⟩ := key9_inv h; exact ⟨s, e⟩) (fun v y h => ptr_inv h) m r0 (tblk T).length _ _ _ rfl hrg ?_ ?_)
      | fail)
    · intro _ hl0
      have hfin := HX.out.2.2.1.done HS.out HX.out.2.1.2.2.2.2.1 hl0
      have HFIN := Aside0.mk hfin
      clear hfin
      go_wp2
      go_ret
      exact ⟨g, Fk W S r0 wr, rfl, HX.out.1, ⟨m', own1, T1, by rw [HRM.out]; exact HX.out.2.1, by rw [HFIN.out]; exact HDT.out⟩, fun k hk => hk.elim (fun h => .inl h.1) .inr⟩
    · intro x c kl y ps wx cnt1 hkx hlx hvc hat hrg1 hlt hg1 hs1 hen
      obtain ⟨s, hse, rfl⟩ := key9_inv hkx
      cases hse
      obtain ⟨b, hb, hy⟩ := dOf_hit hat
      subst hy
      have hce := ptrElem_some hvc
      cases hce
      have hb' : aget x.data.toList T = some (b, (((aget x.data.toList T).getD (0, z110)).2)) := by
        unfold tblk at hb
        rw [aget_map] at hb
        obtain ⟨e, he, hee⟩ := Option.map_eq_some_iff.1 hb
        rw [he, ← hee]; rfl
      generalize ((aget x.data.toList T).getD (0, z110)).2 = f at hb'
      obtain ⟨hSb, hob, vn, vs, vc, hhb, hvn, hvs, hvc3, hown⟩ := HF.out _ _ _ (aget_mem hb')
      have hfok : FilOk f := mem_ok HOK.out (by rw [← HDT.out]; unfold tfil; rw [aget_map, hb']; rfl)
      obtain ⟨An, cn, rfl⟩ := Kd.V_slice hvn
      obtain ⟨As, cs, rfl⟩ := Kd.V_slice hvs
      obtain ⟨Ac, cc, rfl⟩ := Kd.N_slice hvc3
      have hlt2 : r0 < wx.heap.size := by have := hg1.size; omega
      have HBX := Aside0.mk (HX.out.1.grown hg1 HX.out.1.size (fun j hj => by cases hj; exact hrW))
      have HIX := Aside0.mk (HX.out.2.1.fstep hrW hg1.size (fun k hk hne => hg1.block k hk (fun e => by cases e; exact hne rfl)))
      have HPX := Aside0.mk (fun G => HX.out.2.2.1.more (G := G) HX.out.2.1.2.2.2.2.1 hlx hb')
      have hcn := HX.out.2.2.2
      have hTl : T.length ≤ 16 := by have h1 := HLN.out; rw [← HDT.out] at h1; unfold tfil at h1; rw [amap_len] at h1; exact h1
      have hbl := blk_lt hhb
      have hhx := (HBX.out.block b hbl).trans hhb
      have HHX := Aside0.mk hhx
      have y0 : wx.cell? ⟨b, 0, none⟩ = some (.slice An f.f0.length cn) := blk_cell hhx 0
      have y1 : wx.cell? ⟨b, 1, none⟩ = some (.slice As f.f1.length cs) := blk_cell hhx 1
      have y2 : wx.cell? ⟨b, 2, none⟩ = some (.bool f.f2) := blk_cell hhx 2
      have y3 : wx.cell? ⟨b, 3, none⟩ = some (.slice Ac f.f3.length cc) := blk_cell hhx 3
      have HVN := Aside0.mk hvn
      have HVS := Aside0.mk hvs
      obtain ⟨rows, hlr, hR, hfk⟩ := N_parts hvc3
      rw [← hlr] at y3
      have HLR := Aside0.mk hlr
      have HRW := Aside0.mk hR
      have HFK := Aside0.mk hfk
      have HTY := Aside0.mk (Kd.N_typed hvc3)
      rw [← hlr] at HHX
      clear hlr hR hfk
      have HFO := Aside0.mk hfok
      have HKX := Aside0.mk hkx
      have HRG := Aside0.mk hrg1
      have HRG0 := Aside0.mk hrg
      have HLT := Aside0.mk hlt
      clear hb hat hvc hkx hg1 hs1 hhx hhb hvn hvs hvc3 hfok hown hSb hob hb' hrg1 hrg hlt hlx
      go_upto_region 8 with (fail)
      obtain ⟨G, hG⟩ : ∃ G, wx.heap.size = G := ⟨_, rfl⟩
      obtain ⟨wa, hwa⟩ : ∃ wa, wa = wx.alloc (.cells #[.slice An f.f0.length cn, .slice As f.f1.length cs, .bool f.f2, .slice Ac rows.length cc] 110) := ⟨_, rfl⟩
      have hba : Below wx.heap.size wx wa := by rw [hwa]; exact below_alloc (Below.refl _ _) _
      have hka : wa.heap[G]? = some (.cells #[.slice An f.f0.length cn, .slice As f.f1.length cs, .bool f.f2, .slice Ac rows.length cc] 110 (0, 0)) := by rw [hwa, ← hG]; exact blk_new wx _
      have hbG : b ≠ G := by have := HBX.out.size; omega
      have hGb : G ≠ b := hbG.symm
      have hbwa := (hba.block b (by have := HBX.out.size; omega)).trans HHX.out
      have HBA := Aside0.mk (below_step HBX.out hba)
      have HGS := Aside0.mk hG
      have HKA := Aside0.mk hka
      have HBB := Aside0.mk hbwa
      have HBAX := Aside0.mk hba
      have z0 : wa.cell? ⟨b, 0, none⟩ = some (.slice An f.f0.length cn) := blk_cell hbwa 0
      have z1 : wa.cell? ⟨b, 1, none⟩ = some (.slice As f.f1.length cs) := blk_cell hbwa 1
      have z3 : wa.cell? ⟨b, 3, none⟩ = some (.slice Ac rows.length cc) := blk_cell hbwa 3
      have HC1 := Aside0.mk (show ∀ X, Below wa.heap.size wa X → Calls Try.prog 59 #[.slice An f.f0.length cn] X fun e w' => ∃ A c, e = .returned (.slice A f.f0.length c) ∧ (w'.cell? ⟨b, 0, none⟩ = some (.slice An f.f0.length cn) ∧ w'.cell? ⟨b, 1, none⟩ = some (.slice As f.f1.length cs) ∧ w'.cell? ⟨b, 3, none⟩ = some (.slice Ac rows.length cc)) ∧ Aside0 (k8.R 5 w' wa.heap.size (fun _ => True) (.slice A f.f0.length c) f.f0 ∧ Below wa.heap.size wa w' ∧ Below X.heap.size X w') from fun X hX => by
        refine (clone8 An cn f.f0 X (Kd.C_below (Kd.C_below (Kd.V_reads' HVN.out).2.2 HBA.out) hX) (by have := HFO.out.1; omega)).mono ?_
        rintro e w' ⟨v1, rfl, hr, hb⟩
        obtain ⟨A5, c5, rfl⟩ := Kd.R_slice hr
        have hb2 := below_step hX hb
        have hbg := (hb2.block b (blk_lt HBB.out)).trans HBB.out
        exact ⟨A5, c5, rfl, ⟨blk_cell hbg 0, blk_cell hbg 1, blk_cell hbg 3⟩, ⟨Kd.R_lower hr hX.size, hb2, hb⟩⟩)
      have HC2 := Aside0.mk (show ∀ X, Below wa.heap.size wa X → Calls Try.prog 59 #[.slice As f.f1.length cs] X fun e w' => ∃ A c, e = .returned (.slice A f.f1.length c) ∧ (w'.cell? ⟨b, 0, none⟩ = some (.slice An f.f0.length cn) ∧ w'.cell? ⟨b, 1, none⟩ = some (.slice As f.f1.length cs) ∧ w'.cell? ⟨b, 3, none⟩ = some (.slice Ac rows.length cc)) ∧ Aside0 (k8.R 5 w' wa.heap.size (fun _ => True) (.slice A f.f1.length c) f.f1 ∧ Below wa.heap.size wa w' ∧ Below X.heap.size X w') from fun X hX => by
        refine (clone8 As cs f.f1 X (Kd.C_below (Kd.C_below (Kd.V_reads' HVS.out).2.2 HBA.out) hX) (by have := HFO.out.2.1; omega)).mono ?_
        rintro e w' ⟨v1, rfl, hr, hb⟩
        obtain ⟨A5, c5, rfl⟩ := Kd.R_slice hr
        have hb2 := below_step hX hb
        have hbg := (hb2.block b (blk_lt HBB.out)).trans HBB.out
        exact ⟨A5, c5, rfl, ⟨blk_cell hbg 0, blk_cell hbg 1, blk_cell hbg 3⟩, ⟨Kd.R_lower hr hX.size, hb2, hb⟩⟩)
      have HC3 := Aside0.mk (show ∀ X, Below wa.heap.size wa X → Calls Try.prog 90 #[.slice Ac rows.length cc] X fun e w' => ∃ A c, e = .returned (.slice A rows.length c) ∧ (w'.cell? ⟨b, 0, none⟩ = some (.slice An f.f0.length cn) ∧ w'.cell? ⟨b, 1, none⟩ = some (.slice As f.f1.length cs) ∧ w'.cell? ⟨b, 3, none⟩ = some (.slice Ac rows.length cc)) ∧ (w'.cell? ⟨G, 0, none⟩ = some (.slice An f.f0.length cn) ∧ w'.cell? ⟨G, 1, none⟩ = some (.slice As f.f1.length cs) ∧ w'.cell? ⟨G, 3, none⟩ = some (.slice Ac rows.length cc) ∧ w'.frozen? ⟨G, 0, none⟩ = false ∧ w'.frozen? ⟨G, 1, none⟩ = false ∧ w'.frozen? ⟨G, 3, none⟩ = false) ∧ Aside0 ((Kd.raw 4).R 114 w' wa.heap.size (fun _ => True) (.slice A rows.length c) rows ∧ Below wa.heap.size wa w' ∧ Below X.heap.size X w') from fun X hX => by
        have hrw := HRW.out
        rw [← HLR.out] at hrw
        refine (cloneC Ac cc rows X (Kd.C_below (Kd.C_below (Kd.R_reads' hrw).2.2 HBA.out) hX) (by have := HFO.out.2.2.1; have := HLR.out; omega)).mono ?_
        rintro e w' ⟨v1, rfl, hr, hb⟩
        obtain ⟨A5, c5, rfl⟩ := Kd.R_slice hr
        have hb2 := below_step hX hb
        have hbg := (hb2.block b (blk_lt HBB.out)).trans HBB.out
        have hgg := (hb2.block G (blk_lt HKA.out)).trans HKA.out
        exact ⟨A5, c5, rfl, ⟨blk_cell hbg 0, blk_cell hbg 1, blk_cell hbg 3⟩, ⟨blk_cell hgg 0, blk_cell hgg 1, blk_cell hgg 3, blk_frozen hgg 0, blk_frozen hgg 1, blk_frozen hgg 3⟩, ⟨Kd.R_lower hr hX.size, hb2, hb⟩⟩)
      rw [hG, ← hwa]
      clear hba hka hbwa hwa hG y0 y1 y2 y3 hen
      go_region_held3 (fun w' => w'.cell? ⟨b, 0, none⟩ = some (.slice An f.f0.length cn) ∧ w'.cell? ⟨b, 1, none⟩ = some (.slice As f.f1.length cs) ∧ w'.cell? ⟨b, 3, none⟩ = some (.slice Ac rows.length cc)) (first | assumption | go_keep | (refine ⟨setCell_ne ?_ hbG, setCell_ne ?_ hbG, setCell_ne ?_ hbG⟩ <;> go_keep)) (first
        | (go_at_call 59; refine (HC1.out _ (by first | exact below_drew1 (Below.refl _ _) | exact hx2.out.2.1)).mono ?_; rintro e1 v1 ⟨A1, c1, rfl, hq1, hx1⟩)
        | (go_at_call 59; refine (HC2.out _ (by first | exact below_drew1 (Below.refl _ _) | exact hx1.out.2.1)).mono ?_; rintro e1 v2 ⟨A2, c2, rfl, hq2, hx2⟩)
        | (go_at_call 90; refine (HC3.out _ (by first | exact hx2.out.2.1 | exact hx1.out.2.1)).mono ?_; rintro e1 v3 ⟨A3, c3, rfl, hq3, ⟨g0, g1, g3, z0', z1', z3'⟩, hx3⟩))
      obtain ⟨wg, hwg⟩ : ∃ wg, wg = ((v3.setCell ⟨G, 0, none⟩ (.slice A1 f.f0.length c1)).setCell ⟨G, 1, none⟩ (.slice A2 f.f1.length c2)).setCell ⟨G, 3, none⟩ (.slice A3 rows.length c3) := ⟨_, rfl⟩
      have hgg := (hx3.out.2.1.block G (blk_lt HKA.out)).trans HKA.out
      have hggx : wg.heap[G]? = some (.cells #[.slice A1 f.f0.length c1, .slice A2 f.f1.length c2, .bool f.f2, .slice A3 rows.length c3] 110 (0, 0)) := by
        rw [hwg]
        exact blk_set (blk_set (blk_set hgg 0 _) 1 _) 3 _
      have hob3 : OnlyB v3 wg G := by rw [hwg]; exact (((OnlyB.refl v3 G).set 0 _).set 1 _).set 3 _
      have hbxv : Below wx.heap.size wx v3 := below_step HBAX.out hx3.out.2.1
      have hsz3 := hob3.size
      have hxsz := hbxv.size
      have hbxg : Below wx.heap.size wx wg := ⟨hob3.os.trans hbxv.os, hob3.tape.trans hbxv.tape, hob3.output.trans hbxv.output, by omega, fun k hk => (hob3.block k (by have := HGS.out; omega)).trans (hbxv.block k hk)⟩
      rw [← hwg]
      have HGG := Aside0.mk hggx
      have HOB := Aside0.mk hob3
      have HBXG := Aside0.mk hbxg
      obtain ⟨j1, j2, j3, j4, j5, j6, j7⟩ := HIX.out
      obtain ⟨es, cm, hmap⟩ := j4.map
      have hcd : wg.cell? ⟨g, 1, none⟩ = some (.map (some m')) := blk_cell ((hbxg.block g (blk_lt j3)).trans j3) 1
      obtain ⟨w6, hrun, hm6, htn⟩ := World.ownsMap.store (w := wg) (j4.step (hbxg.block m' (blk_lt hmap))) law9 Try.underlying103 (by unfold tblk; rw [amap_len]; unfold maxLen; omega) HKX.out (val := .pointer (some ⟨G, 0, none⟩)) (d := .lit (.int .i64 G)) (ps := []) rfl
      have HM6 := Aside0.mk hm6
      have HT6 := Aside0.mk htn
      clear hwg hgg hggx hob3 hbxv hbxg j1 j2 j3 j4 j5 j6 j7 hmap hm6 htn hq1 hq2 hq3 g0 g1 g3 z0 z1 z3 z0' z1' z3' hsz3 hxsz
      go_wp2_with fail
      have k6 := Kp.turned HT6.out
      have s6 := k6.size
      have sx := HBXG.out.size
      have sa := HBAX.out.size
      have hGlt := blk_lt HKA.out
      have hGW : W.heap.size ≤ G := by have := HBX.out.size; have := HGS.out; omega
      have hGx := HGS.out
      have hm'W : m' ≠ m ∧ m' ≠ r0 := by
        obtain ⟨es, cm, hmap⟩ := HIX.out.2.2.2.1.map
        refine ⟨fun e => ?_, HIX.out.2.1.ne hrW⟩
        obtain ⟨es2, c2, hm2⟩ := HT.out.map
        rcases HIX.out.2.1 with h | h
        · have := blk_lt hm2; omega
        · rw [e] at h; exact U8.ne_map hm2 h.2
      have hbW6 : Below W.heap.size W wg := HBX.out.trans (HBXG.out.mono HBX.out.size)
      have hob := HOB.out
      have hvv : ∀ k, wa.heap.size ≤ k → k < v3.heap.size → wg.heap[k]? = v3.heap[k]? := fun k h1 h2 => hob.block k (by omega)
      have hv32 := hx3.out.2.2
      have hv21 := hx2.out.2.2
      have q32 := hv32.size
      have q21 := hv21.size
      have q1 := hx1.out.2.1.size
      have hsz3 := hob.size
      have hfil : FilAt wg (Fk W S r0 wg) (ownN wx own1 G) G f := by
        refine ⟨.inl ⟨⟨hGW, by omega⟩, by omega⟩, by unfold ownN; rw [if_neg (by omega)], _, _, _, HGG.out, ?_, ?_, ?_, fun k hk => ?_⟩
        · exact V_fk hx1.out.1 (fun k h1 h2 => (hvv k h1 (by omega)).trans ((hv32.block k (by omega)).trans (hv21.block k h2))) (by omega) (by omega) (by omega)
        · exact V_fk hx2.out.1 (fun k h1 h2 => (hvv k h1 (by omega)).trans (hv32.block k h2)) (by omega) (by omega) (by omega)
        · exact N_fk HLR.out (Kd.R_step (Kd.R_bound hx3.out.1) (fun k hk hlt => hvv k hk.2.1 hlt) |> fun h => Kd.R_mono h (fun _ _ => trivial)) HFK.out hbW6 (by omega)
        · have h1 := Kd.R_base hx3.out.1 k hk
          have h2 := Kd.R_lt hx3.out.1 k hk
          exact ⟨.inl ⟨⟨by omega, by omega⟩, by omega⟩, by unfold ownN; rw [if_neg (by omega)]⟩
      have hput := fork_put HIX.out HBXG.out (by omega) hfil HM6.out k6
      have hrg6 := ranges_step HRG.out ((k6.block m (by have := blk_lt HH.out; obtain ⟨es2, c2, hm2⟩ := HT.out.map; have := blk_lt hm2; have := HBX.out.size; omega) hm'W.1.symm).trans (HBXG.out.block m (by obtain ⟨es2, c2, hm2⟩ := HT.out.map; have := blk_lt hm2; have := HBX.out.size; omega))) ((k6.block r0 (by omega) hm'W.2.symm).trans (HBXG.out.block r0 hlt2))
      have hlen : (aput x.data.toList (G, f) T1).length ≤ T1.length + 1 := by rw [aput_len HX.out.2.1.2.2.2.2.1]; split <;> omega
      have hltc := HLT.out
      have HFIN := Aside0.mk hput
      have HFR := Aside0.mk hrg6
      have HW6 := Aside0.mk (show Below W.heap.size W w6 from hbW6.trans (k6.below (B := W.heap.size) (fun k e _ => by
        rw [e]
        rcases HIX.out.2.1 with h | h
        · exact h.1.1
        · obtain ⟨es, cm, hmap⟩ := HIX.out.2.2.2.1.map
          have h9 := h.2.lt
          rw [HBX.out.block m' h9] at hmap
          exact absurd h.2 (U8.ne_map hmap)) hbW6.size))
      go_roundw
      case rel => exact ⟨_, _, _, _, _, rfl, HFR.out, by omega, ⟨HW6.out, HFIN.out, HPX.out G, by omega⟩⟩
      case measure => rw [HFR.out.left_eq, HRG0.out.left_eq]; exact hltc
end Go.Proofs.Ytmmiipnmimjojaa.PS
end
section
namespace Go.Proofs.Ytmmiipnmimjojaa.PS
open Go.RowKit Go.Proofs.YtmmiipnmimjojaaW.PrintWords Go.Proofs.YtmmiipnmimjojaaW.PrintLast Go.Proofs.YtmmiipnmimjojaaW.PrintMore
open Go.Maps Go.Proofs.Ytmmiipnmimjojaa.PD
set_option linter.unusedVariables false
set_option linter.unusedSimpArgs false
/-- Blocks of P, and what is new since w. -/
def Pn (w : World) (P : Nat → Prop) (k : Nat) : Prop := (P k ∧ k < w.heap.size) ∨ w.heap.size ≤ k
end Go.Proofs.Ytmmiipnmimjojaa.PS
end
section
namespace Go.Proofs.Ytmmiipnmimjojaa.PS
open Go.RowKit Go.Proofs.YtmmiipnmimjojaaW.PrintWords Go.Proofs.YtmmiipnmimjojaaW.PrintLast Go.Proofs.YtmmiipnmimjojaaW.PrintMore
open Go.Maps Go.Proofs.Ytmmiipnmimjojaa.PD
set_option linter.unusedVariables false
set_option linter.unusedSimpArgs false
def RForkP (W : World) (R : Nat → Prop) (r : Nat) (room : Int) (l : List S144) (e : Ending) (w' : World) : Prop := ∃ r' R', e = .returned (.pointer (some ⟨r', 0, none⟩)) ∧ RefAt w' R' r' room l ∧ Below W.heap.size W w' ∧ W.heap.size ≤ r' ∧ ∀ k, R' k → (R k ∧ k ≠ r) ∨ W.heap.size ≤ k
theorem rfork_fin {W w1 : World} {R : Nat → Prop} {r : Nat} {room : Int} {l : List S144} {A : Option Addr} {c : Nat} (hb : Below W.heap.size W w1) (hn : Kd.N k144 144 w1 W.heap.size (Pn W (fun k => R k ∧ k ≠ r)) (.slice A l.length c) l) :
    RForkP W R r room l (.returned (.pointer (some ⟨w1.heap.size, 0, none⟩))) (w1.alloc (.cells #[.int .i64 room, .slice A l.length c] 140)) := by
  have hba := below_alloc (Below.refl w1.heap.size w1) (.cells #[.int .i64 room, .slice A l.length c] 140)
  refine ⟨w1.heap.size, fun k => (Pn W (fun k => R k ∧ k ≠ r) k ∧ k < w1.heap.size) ∨ k = w1.heap.size, rfl, ⟨.inr rfl, fun k hk => ?_, A, c, blk_new w1 _, ?_⟩, below_alloc hb _, hb.size, fun k hk => ?_⟩
  · rw [World.size_alloc]
    rcases hk with hk | hk <;> omega
  · have h1 := Kd.N_F (Kd.N_bound (Kd.N_below hn hba))
    refine ⟨A, c, rfl, (Kd.N_reads' hn).2.1, Kd.F_mono (Kd.F_below (Kd.N_F (Kd.N_bound hn)) hba) (fun k hk => ⟨.inl hk, by omega⟩)⟩
  · rcases hk with hk | hk
    · rcases hk.1 with h | h
      · exact .inl h.1
      · exact .inr h
    · have := hb.size; exact .inr (by omega)
theorem lit_nilN (w : World) (ok : Nat → Prop) (hok : ok w.heap.size) : Kd.N k144 144 (w.alloc (.cells #[] 144)) w.heap.size ok (.slice (some ⟨w.heap.size, 0, none⟩) 0 0) [] := by
  refine Kd.R_N ⟨fun k hk => ?_, [], ?_, Reps.none _ _⟩
  · have : w.heap.size = k := by simpa [Value.ownBlock] using hk
    rw [← this]; exact hok
  · have h2 := World.ownsRow_lit (base := w.heap.size) (e := 144) (size := k144.sz) w #[] 0 (Nat.le_refl _) (by decide) (by rfl)
    simpa using h2
set_option maxHeartbeats 4000000 in
set_option maxRecDepth 100000 in
theorem rfork_calls {W : World} {R : Nat → Prop} {r : Nat} {room : Int} {l : List S144} (h : RefAt W R r room l) (hl : l.length ≤ 1000) : Calls Try.prog 44 #[.pointer (some ⟨r, 0, none⟩)] W (RForkP W R r room l) := by
  obtain ⟨hown, hlt, A, c, hh, hv⟩ := h
  have q0 : W.cell? ⟨r, 0, none⟩ = some (.int .i64 room) := blk_cell hh 0
  have q1 : W.cell? ⟨r, 1, none⟩ = some (.slice A l.length c) := blk_cell hh 1
  have HV := Aside0.mk hv
  have HH := Aside0.mk hh
  have HFL := Aside0.mk (show Kd.F k144 W (fun k => (R k ∧ k ≠ r) ∧ k < W.heap.size) A l.length l from by
    obtain ⟨A', c', e, hc, hF⟩ := hv
    injection e with e1 e2 e3
    subst e1
    exact Kd.F_bound hF)
  have HLT := Aside0.mk (Kd.N_below (Kd.N_bound (lit_nilN W (Pn W (fun k => R k ∧ k ≠ r)) (.inr (Nat.le_refl _)))) (below_drew1 (Below.refl _ (W.alloc (.cells #[] 144)))))
  have HBW := Aside0.mk (show Below W.heap.size W (W.alloc (.cells #[] 144)).drew from below_drew1 (below_alloc (Below.refl _ _) _))
  have HF2 := Aside0.mk (show Kd.F k144 (W.alloc (.cells #[] 144)).drew (fun k => (R k ∧ k ≠ r) ∧ k < W.heap.size) A l.length l from Kd.F_below HFL.out (below_drew1 (below_alloc (Below.refl _ _) _)))
  clear hv hh
  go_enter Try.func44, Try.ntmps44
  go_wp2_with fail
  go_region_held3 (fun w' => w'.cell? ⟨r, 0, none⟩ = some (.int .i64 room) ∧ w'.cell? ⟨r, 1, none⟩ = some (.slice A l.length c)) (first | assumption | go_keep | exact HQ1.out) (first
    | (refine Kd.N_append_rows_step k144 (w0 := W) W.heap.size (by rfl) (.tmp 9) (.tmp 13) 138 144 (.agg #[(.string ⟨#[]⟩), (.bool false), (.slice none 0 0), (.slice none 0 0)]) 72 (by rfl) Try.underlying138 info144 (by rfl) (by decide) (by decide) (.slice (some ⟨W.heap.size, 0, none⟩) 0 0) [] l A l.length c (Pn W (fun k => R k ∧ k ≠ r)) (fun k => (R k ∧ k ≠ r) ∧ k < W.heap.size) (by rfl) (by rfl) (Kd.N_mono HLT.out (fun k hk => hk.1)) HF2.out (fun k hk => ⟨.inl hk, fun e => absurd hk.2 (by have h9 : k = W.heap.size := (by simpa [Value.ownBlock] using e); omega)⟩) (fun k hk => .inr (Nat.le_trans HBW.out.size hk)) HBW.out HBW.out.size (by simp only [List.length_nil, Nat.zero_add]; omega) ?_; intro v1 w1 hN hb1 hg hat; obtain ⟨A1, c1, rfl⟩ := Kd.N_slice hN; have HN1 := Aside0.mk hN; have HB1 := Aside0.mk hb1; have HQ1 := Aside0.mk (show w1.cell? ⟨r, 0, none⟩ = some (.int .i64 room) ∧ w1.cell? ⟨r, 1, none⟩ = some (.slice A l.length c) from by have hx := (hb1.block r (blk_lt HH.out)).trans HH.out; exact ⟨blk_cell hx 0, blk_cell hx 1⟩); clear hN hb1 hg hat)
    | fail)
  all_goals
    go_wp2_with fail
    go_ret
    exact rfork_fin HB1.out HN1.out
end Go.Proofs.Ytmmiipnmimjojaa.PS
end
