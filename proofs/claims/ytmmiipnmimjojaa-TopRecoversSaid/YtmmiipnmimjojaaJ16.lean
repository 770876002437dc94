/- The texts of this claim's seat, joined: part 16. -/
import Derived.Test.YtmmiipnmimjojaaJ15
section
namespace Go.Proofs.Ytmmiipnmimjojaa.PS
open Go.RowKit Go.Proofs.YtmmiipnmimjojaaW.PrintWords Go.Proofs.YtmmiipnmimjojaaW.PrintLast Go.Proofs.YtmmiipnmimjojaaW.PrintMore
open Go.Maps Go.Proofs.Ytmmiipnmimjojaa.PD
set_option linter.unusedVariables false
set_option linter.unusedSimpArgs false
def lgC (g : Nat) (M : LM) (v : Value) : Array Value := #[.pointer (some ⟨g, 0, none⟩), .int .i64 M.st.bi, .int .i64 M.st.bt, .int .i64 M.st.ht, .int .i64 M.st.hv, v, .int .i64 M.n, .int .i64 M.sz]
/-- The log lies in block L; Q: its blocks. -/
def LgAt (W : World) (Q : Nat → Prop) (L g : Nat) (M : LM) : Prop := Q L ∧ ∃ v, W.heap[L]? = some (.cells (lgC g M v) 126 (0, 0)) ∧ Kd.V k48 48 W 0 (fun k => Q k ∧ k ≠ L) v M.st.es
/-- W0: the law's beginning; S: the disk's blocks; Q: the log's. -/
structure Wl (W0 W : World) (S Q : Nat → Prop) (g N L : Nat) (D : Dsk) (M : LM) : Prop where
  dk : Dk W0 W S g N D
  lg : LgAt W Q L g M
  q : ∀ k, Q k → W0.heap.size ≤ k ∧ k < W.heap.size ∧ ¬ S k
structure MOk (M : LM) : Prop where
  st : WOk M.st
  few : M.st.es.length ≤ 500000
  n : 0 ≤ M.n ∧ M.n ≤ 1000000000
  sz : 0 ≤ M.sz ∧ M.sz ≤ 1000000
/-- A block that is none of the disk's, and not the log's struct. -/
structure By (W : World) (S : Nat → Prop) (L b : Nat) (o : Obj) : Prop where
  at_ : W.heap[b]? = some o
  ns : ¬ S b
  nl : b ≠ L
/-- What stays. -/
structure Bys (W : World) (S : Nat → Prop) (w' : World) (S' : Nat → Prop) (L : Nat) : Prop where
  size : W.heap.size ≤ w'.heap.size
  keep : ∀ b o, By W S L b o → By w' S' L b o
/-- What a call of the disk leaves of a log. -/
def AfW (W0 W : World) (S Q : Nat → Prop) (g N L : Nat) (D : Dsk) (M : LM) (w' : World) : Prop := ∃ S', Wl W0 w' S' Q g N L D M ∧ Bys W S w' S' L
/-- What a call of the log leaves. -/
def Nl (W0 W : World) (S Q : Nat → Prop) (g N L : Nat) (D : Dsk) (M : LM) (w' : World) : Prop := ∃ S' Q', Wl W0 w' S' Q' g N L D M ∧ Bys W S w' S' L ∧ ∀ k, k < W.heap.size → Q' k → Q k
section
variable {W0 W w' w2 : World} {S S' S2 Q Q' : Nat → Prop} {g N N' L : Nat} {D D' : Dsk} {M M' : LM} {v : Value} {es : List S48}
theorem Bys.refl (W : World) (S : Nat → Prop) (L : Nat) : Bys W S W S L := ⟨Nat.le_refl _, fun _ _ h => h⟩
theorem Bys.trans (h : Bys W S w' S' L) (k : Bys w' S' w2 S2 L) : Bys W S w2 S2 L := ⟨Nat.le_trans h.size k.size, fun b o hb => k.keep b o (h.keep b o hb)⟩
theorem Bys.of_below (hb : Below W.heap.size W w') : Bys W S w' S L := ⟨hb.size, fun b o h => ⟨(hb.block b (blk_lt h.at_)).trans h.at_, h.ns, h.nl⟩⟩
theorem Bys.step (h : Bys W S w' S' L) {k : Nat} (hk : k < W.heap.size) (hS : ¬ S k) (hL : k ≠ L) : w'.heap[k]? = W.heap[k]? ∧ ¬ S' k := by
  obtain ⟨o, ho⟩ : ∃ o, W.heap[k]? = some o := ⟨_, Array.getElem?_eq_getElem hk⟩
  have := h.keep k o ⟨ho, hS, hL⟩
  exact ⟨this.at_.trans ho.symm, this.ns⟩
/-- Entries that the log's blocks hold. -/
theorem V_bys (h : Bys W S w' S' L) (hq : ∀ k, Q k → ¬ S k) (hv : Kd.V k48 48 W 0 (fun k => Q k ∧ k ≠ L) v es) : Kd.V k48 48 w' 0 (fun k => Q k ∧ k ≠ L) v es :=
  Kd.V_map hv fun A hF => Kd.F_step hF fun k hk hlt => (h.step hlt (hq k hk.1) hk.2).1
theorem Wl.dstep (h : Wl W0 W S Q g N L D M) (nx : Nx W0 W S w' g N' D') : AfW W0 W S Q g N' L D' M w' := by
  obtain ⟨S', hd, hk, hs⟩ := nx
  obtain ⟨hQ, v, hb, hv⟩ := h.lg
  have hB : Bys W S w' S' L := ⟨hk.size, fun b o h => ⟨(hk.block b (blk_lt h.at_) h.ns).trans h.at_, fun h' => h.ns (hs b (blk_lt h.at_) h'), h.nl⟩⟩
  refine ⟨S', ⟨hd, ⟨hQ, v, (hk.block L (blk_lt hb) (h.q L hQ).2.2).trans hb, V_bys hB (fun k hk => (h.q k hk).2.2) hv⟩, fun k hk' => ?_⟩, hB⟩
  obtain ⟨q1, q2, q3⟩ := h.q k hk'
  exact ⟨q1, Nat.lt_of_lt_of_le q2 hk.size, fun h' => q3 (hs k q2 h')⟩
theorem Wl.below (h : Wl W0 W S Q g N L D M) (hb : Below W.heap.size W w') : Wl W0 w' S Q g N L D M := by
  obtain ⟨hQ, v, hh, hv⟩ := h.lg
  exact ⟨h.dk.step hb, ⟨hQ, v, (hb.block L (blk_lt hh)).trans hh, V_bys (Bys.of_below (S := S) hb) (fun k hk => (h.q k hk).2.2) hv⟩, fun k hk => ⟨(h.q k hk).1, Nat.lt_of_lt_of_le (h.q k hk).2.1 hb.size, (h.q k hk).2.2⟩⟩
theorem Wl.mono (h : Wl W0 W S Q g N L D M) (hN : N ≤ N') : Wl W0 W S Q g N' L D M := ⟨⟨h.dk.1, h.dk.2.1, h.dk.2.2.1, h.dk.2.2.2.mono hN⟩, h.lg, h.q⟩
theorem Wl.more (h : Wl W0 W S Q g N L D M) (hq : ∀ k, Q k → Q' k) (hn : ∀ k, Q' k → W0.heap.size ≤ k ∧ k < W.heap.size ∧ ¬ S k) : Wl W0 W S Q' g N L D M := by
  obtain ⟨hQ, v, hh, hv⟩ := h.lg
  exact ⟨h.dk, ⟨hq L hQ, v, hh, Kd.V_map hv fun A hF => Kd.F_mono hF (fun k hk => ⟨hq k hk.1, hk.2⟩)⟩, hn⟩
theorem Wl.nl (h : Wl W0 W S Q g N L D M) (hb : Below W.heap.size W w') : Nl W0 W S Q g N L D M w' := ⟨S, Q, h.below hb, Bys.of_below hb, fun _ _ h => h⟩
/-- Writing into the log's struct. -/
theorem Wl.setL {M' : LM} (h : Wl W0 W S Q g N L D M) (hv : Kd.V k48 48 W 0 (fun k => Q k ∧ k ≠ L) v M'.st.es) (k : Kp W w' (fun k => k = L)) (hb : w'.heap[L]? = some (.cells (lgC g M' v) 126 (0, 0))) : AfW W0 W S Q g N L D M' w' := by
  have hQ := h.lg.1
  have hL := h.q L hQ
  refine ⟨S, ⟨h.dk.kp (h.dk.1.trans (k.below (B := W0.heap.size) (fun i hi _ => by rw [hi]; exact hL.1) h.dk.1.size)) k (fun i hS e => hL.2.2 (e ▸ hS)), ⟨hQ, v, hb, Kd.V_map hv fun A hF => Kd.F_step hF fun i hi hlt => k.block i hlt hi.2⟩, fun i hi => ⟨(h.q i hi).1, Nat.lt_of_lt_of_le (h.q i hi).2.1 k.size, (h.q i hi).2.2⟩⟩, ⟨k.size, fun b o h' => ⟨(k.block b (blk_lt h'.at_) h'.nl).trans h'.at_, h'.ns, h'.nl⟩⟩⟩
theorem Wl.cells (h : Wl W0 W S Q g N L D M) : ∃ A c, W.heap[L]? = some (.cells (lgC g M (.slice A M.st.es.length c)) 126 (0, 0)) ∧ M.st.es.length ≤ c ∧ Kd.F k48 W (fun k => Q k ∧ k ≠ L) A M.st.es.length M.st.es := by
  obtain ⟨hQ, v, hb, A, c, rfl, hc, hF⟩ := h.lg
  exact ⟨A, c, hb, hc, hF⟩
end
end Go.Proofs.Ytmmiipnmimjojaa.PS
end
section
namespace Go.Proofs.Ytmmiipnmimjojaa.PS
open Go.RowKit Go.Proofs.YtmmiipnmimjojaaW.PrintWords Go.Proofs.YtmmiipnmimjojaaW.PrintLast Go.Proofs.YtmmiipnmimjojaaW.PrintMore
open Go.Maps Go.Proofs.Ytmmiipnmimjojaa.PD
set_option linter.unusedVariables false
set_option linter.unusedSimpArgs false
section
variable {W0 W : World} {S Q : Nat → Prop} {g N L : Nat} {D : Dsk} {M : LM}
theorem Wl.last (h : Wl W0 W S Q g N L D M) (hm : MOk M) : Calls Try.prog 29 #[.pointer (some ⟨L, 0, none⟩)] W fun e w' => e = .returned (.int .i64 M.st.last) ∧ w' = W.drewN 1 := by
  obtain ⟨A, c, hb, hc, hF⟩ := h.cells
  have := hm.few
  exact last_calls (blk_cell hb 1) (blk_cell hb 5) hm.st.mark.1 (by omega)
end
set_option maxHeartbeats 4000000 in
set_option maxRecDepth 100000 in
theorem Wl.file {W0 W : World} {S Q : Nat → Prop} {g N L : Nat} {D : Dsk} {M : LM} (h : Wl W0 W S Q g N L D M) (hm : MOk M) : Calls Try.prog 50 #[.pointer (some ⟨L, 0, none⟩)] W fun e w' => e = .returned (.string (nameB M.n)) ∧ W = w' := by
  obtain ⟨A, c, hb, hc, hF⟩ := h.cells
  exact wfile_calls ⟨hm.n.1, by have := hm.n.2; omega⟩ (blk_cell hb 6)
theorem digB_size : ∀ (k : Nat) (m : Int) (s : ByteArray), (digB k m s).size ≤ k + s.size
  | 0, m, s => by rw [digB]; omega
  | k + 1, m, s => by
    rw [digB]
    split
    · have h := digB_size k (m / 10) (Utf8.encode (48 + m % 10) ++ s)
      rw [ByteArray.size_append, dig_one (m % 10) (by omega) (by omega)] at h
      omega
    · omega
theorem name_size (n : Int) : (nameB n).size ≤ maxLen := by
  have h := digB_size 14 n ⟨#[]⟩
  unfold nameB
  rw [ByteArray.size_append]
  have e1 : (⟨#[119, 97, 108, 45]⟩ : ByteArray).size = 4 := rfl
  have e2 : (⟨#[]⟩ : ByteArray).size = 0 := rfl
  unfold maxLen
  omega
theorem AfW.cell0 {W0 W w' : World} {S Q : Nat → Prop} {g N L : Nat} {D : Dsk} {M : LM} (h : AfW W0 W S Q g N L D M w') : w'.cell? ⟨L, 0, none⟩ = some (.pointer (some ⟨g, 0, none⟩)) := by
  obtain ⟨S', hw, _⟩ := h
  obtain ⟨A, c, hb, _⟩ := hw.cells
  exact blk_cell hb 0
def ErrP (W0 W : World) (S Q : Nat → Prop) (g N L : Nat) (r : Int × Dsk × LM) (e : Ending) (w' : World) : Prop := e = .returned (.int .i64 r.1) ∧ Nl W0 W S Q g N L r.2.1 r.2.2 w'
set_option maxHeartbeats 4000000 in
set_option maxRecDepth 100000 in
theorem wsync_calls {W0 W : World} {S Q : Nat → Prop} {g N L : Nat} {D : Dsk} {M : LM} (h : Wl W0 W S Q g N L D M) (hm : MOk M) (hN : N ≤ 1000000) :
    Calls Try.prog 28 #[.pointer (some ⟨L, 0, none⟩)] W (ErrP W0 W S Q g N L ((dSync D (nameB M.n)).1, (dSync D (nameB M.n)).2, M)) := by
  obtain ⟨A, c, hb, hc, hF⟩ := h.cells
  have m0 : W.cell? ⟨L, 0, none⟩ = some (.pointer (some ⟨g, 0, none⟩)) := blk_cell hb 0
  have HW := Aside0.mk (h.below (below_drew1 (Below.refl _ _)))
  have HM := Aside0.mk hm
  obtain ⟨nm, hnm⟩ : ∃ nm, nameB M.n = nm := ⟨_, rfl⟩
  have HFL := Aside0.mk (HW.out.file hm)
  have hsz := name_size M.n
  rw [hnm] at HFL hsz ⊢
  have HS := Aside0.mk hsz
  clear hb hF hm h hnm hsz
  go_enter Try.func28, Try.ntmps28
  go_wp2_with fail
  go_region_held3 (fun w' => w'.cell? ⟨L, 0, none⟩ = some (.pointer (some ⟨g, 0, none⟩))) (first | go_keep | exact HAF.out.cell0) (first
    | (go_at_call 50; refine HFL.out.mono ?_; rintro e w' ⟨rfl, rfl⟩)
    | (go_at_call 21; refine (dk_sync HW.out.dk hN HS.out).mono ?_; rintro e w' ⟨rfl, hnx⟩; have HAF := Aside0.mk (HW.out.dstep hnx); clear hnx))
  go_wp2_with fail
  go_ret
  obtain ⟨S', hw, hB⟩ := HAF.out
  exact ⟨rfl, S', Q, hw, (Bys.of_below (below_drew1 (Below.refl _ _))).trans hB, fun _ _ h => h⟩
theorem copiedK {W : World} {A : Option Addr} {c n : Nat} {l : List S48} {P : Nat → Prop} (hn : l.length = n) (hr : Kd.F k48 W P A l.length l) (hl : n ≤ 1000000000) (hd : ∀ x ∈ l, x.f3.length ≤ 1000000) :
    Calls Try.prog 73 #[.slice A n c] W fun e w' => ∃ v1, e = .returned v1 ∧ Kd.N k48 48 w' W.heap.size (fun k => W.heap.size ≤ k) v1 l ∧ Below W.heap.size W w' := by
  subst hn
  exact copied_calls hr hl hd
def EntsP (W : World) (es : List S48) (e : Ending) (w' : World) : Prop := ∃ v, e = .returned v ∧ Kd.N k48 48 w' W.heap.size (fun k => W.heap.size ≤ k) v es ∧ Below W.heap.size W w'
set_option maxHeartbeats 4000000 in
set_option maxRecDepth 100000 in
theorem entries_calls {W0 W : World} {S Q : Nat → Prop} {g N L : Nat} {D : Dsk} {M : LM} {a b : Int} (h : Wl W0 W S Q g N L D M) (hm : MOk M) (ha : -9223372036854775808 ≤ a ∧ a ≤ 9223372036854775807) (hb : -9223372036854775808 ≤ b ∧ b ≤ 9223372036854775807) :
    Calls Try.prog 30 #[.pointer (some ⟨L, 0, none⟩), .int .i64 a, .int .i64 b] W (EntsP W (M.st.from_ a b)) := by
  have HLQ := Aside0.mk (show ∀ n, Calls Try.prog 29 #[.pointer (some ⟨L, 0, none⟩)] (W.drewN n) fun e w' => e = .returned (.int .i64 M.st.last) ∧ ∃ m, w' = W.drewN m from fun n => ((h.below (pw_below_drewN (Below.refl _ _) n)).last hm).mono (fun _ _ hh => ⟨hh.1, n + 1, by rw [hh.2, World.drewN_drewN]⟩))
  obtain ⟨A, c, hbk, hc, hF⟩ := h.cells
  have m1 : W.cell? ⟨L, 1, none⟩ = some (.int .i64 M.st.bi) := blk_cell hbk 1
  have m5 : W.cell? ⟨L, 5, none⟩ = some (.slice A M.st.es.length c) := blk_cell hbk 5
  have hbi := hm.st.mark.1
  have hfew := hm.few
  have hlast : M.st.last = M.st.bi + M.st.es.length := rfl
  have hbig : ∀ x ∈ M.st.es, x.f3.length ≤ 1000000 := fun x hx => Nat.le_trans (ent_bad (hm.st.ent x hx)).2 (by omega)
  obtain ⟨r, hr⟩ : ∃ r, M.st.from_ a b = r := ⟨_, rfl⟩
  rw [hr]
  unfold WS.from_ at hr
  have HF := Aside0.mk hF
  have HBG := Aside0.mk hbig
  generalize M.st.es = es at *
  generalize M.st.last = la at *
  generalize M.st.bi = bi at *
  have hw1 : IntKind.i64.wrap (bi + 1) = bi + 1 := IntWalk.i64_in _ ⟨by omega, by omega⟩
  obtain ⟨fr, hfr⟩ : ∃ fr, max a (bi + 1) = fr := ⟨_, rfl⟩
  obtain ⟨to_, hto⟩ : ∃ to_, min b la = to_ := ⟨_, rfl⟩
  rw [hfr, hto] at hr
  have HR := Aside0.mk hr
  have HFR := Aside0.mk hfr
  have HTO := Aside0.mk hto
  have HLS := Aside0.mk hlast
  clear hr hbk hF hm h hbig hlast
  by_cases hc1 : to_ < fr
  · have c1 : decide (to_ < fr) = true := decide_eq_true hc1
    have hr0 : r = [] := by rw [← HR.out, if_pos hc1]
    subst hr0
    go_enter Try.func30, Try.ntmps30
    go_wp2_with fail
    go_quiet ((go_at_call 29; exact HLQ.out _))
    go_wp2_with fail
    go_ret
    exact ⟨_, rfl, Kd.N_nil _ _ _ _ _, pw_below_drewN (Below.refl _ _) _⟩
  have c1 : decide (to_ < fr) = false := decide_eq_false hc1
  obtain ⟨lo, hlo⟩ : ∃ lo : Nat, fr - bi - 1 = lo := ⟨(fr - bi - 1).toNat, by omega⟩
  obtain ⟨hi, hhi⟩ : ∃ hi : Nat, to_ - bi = hi := ⟨(to_ - bi).toNat, by omega⟩
  obtain ⟨d1, hd1⟩ : ∃ d1, fr - bi = d1 := ⟨_, rfl⟩
  have hl1 : lo ≤ hi := by omega
  have hl2 : hi ≤ es.length := by have := HLS.out; omega
  have hl3 : hi ≤ c := by omega
  have hwa : IntKind.i64.wrap (fr - bi) = d1 := by rw [← hd1]; exact IntWalk.i64_in _ ⟨by have := HLS.out; omega, by have := HLS.out; omega⟩
  have hwb : IntKind.i64.wrap (d1 - 1) = (lo : Int) := by rw [← hd1, hlo]; exact IntWalk.i64_in _ ⟨by omega, by omega⟩
  have hwc : IntKind.i64.wrap (to_ - bi) = (hi : Int) := by rw [hhi]; exact IntWalk.i64_in _ ⟨by omega, by omega⟩
  have hr0 : r = (es.take hi).drop lo := by rw [← HR.out, if_neg hc1, hhi, hlo, Int.toNat_natCast, Int.toNat_natCast]
  have hlt : lo < hi := by omega
  have hne : ¬ c = lo := by omega
  obtain ⟨ad, rfl⟩ : ∃ ad, A = some ad := by
    cases A with
    | none => have := nil_of_C (Kd.F_now HF.out); subst this; simp at hl2; omega
    | some ad => exact ⟨ad, rfl⟩
  have hfm := Kd.F_mid HF.out hl1 hl2 hc
  rw [if_neg hne, ← hr0] at hfm
  have HFM := Aside0.mk hfm
  have hrl : r.length = hi - lo := by rw [hr0, List.length_drop, List.length_take]; omega
  have HR0 := Aside0.mk hr0
  have HRL := Aside0.mk hrl
  clear hlo hhi hd1 hr0 hrl hc1 hfm
  go_enter Try.func30, Try.ntmps30
  go_wp2_with fail
  go_quiet ((go_at_call 29; exact HLQ.out _))
  have HWQ := Aside0.mk (show Below W.heap.size W (W.drewN (nq + 1)) from pw_below_drewN (Below.refl _ _) _)
  have HCP := Aside0.mk (copiedK (W := W.drewN (nq + 1)) (c := c - lo) HRL.out (Kd.F_below HFM.out HWQ.out) (by omega) (fun x hx => HBG.out x (by rw [HR0.out] at hx; exact List.mem_of_mem_take (List.mem_of_mem_drop hx))))
  go_wp2_with fail
  go_region_held3 (fun w' => w'.cell? ⟨L, 1, none⟩ = some (.int .i64 bi) ∧ w'.cell? ⟨L, 5, none⟩ = some (.slice (some ad) es.length c)) (first | go_keep | exact HKP.out) ((go_at_call 73; refine HCP.out.mono ?_; rintro e w5 ⟨v5, rfl, hn5, hb5⟩; have HN5 := Aside0.mk hn5; have HB5 := Aside0.mk hb5; have HKP := Aside0.mk (And.intro ((hb5.cell (World.block_lt_of_cell? W _ m1)).trans m1) ((hb5.cell (World.block_lt_of_cell? W _ m5)).trans m5)); clear hn5 hb5))
  go_wp2_with fail
  go_ret
  exact ⟨v5, rfl, Kd.N_mono (Kd.N_lower HN5.out HWQ.out.size) (fun k hk => Nat.le_trans HWQ.out.size hk), below_step HWQ.out HB5.out⟩
end Go.Proofs.Ytmmiipnmimjojaa.PS
end
section
namespace Go.Proofs.Ytmmiipnmimjojaa.PS
open Go.RowKit Go.Proofs.YtmmiipnmimjojaaW.PrintWords Go.Proofs.YtmmiipnmimjojaaW.PrintLast Go.Proofs.YtmmiipnmimjojaaW.PrintMore
open Go.Maps Go.Proofs.Ytmmiipnmimjojaa.PD
set_option linter.unusedVariables false
set_option linter.unusedSimpArgs false
theorem write_ok {D : Dsk} {s : ByteArray} {a : Int} {b : List Int} (h : (dWrite D s a b).1 = 0) : (dWrite D s a b).2 = ⟨D.room, aput s.data.toList (wFil ((aget s.data.toList D.files).getD z110) a b) D.files⟩ ∧ namedB s = true := by
  unfold dWrite at *
  by_cases h1 : namedB s = false
  · rw [if_pos h1] at h; cases h
  · rw [if_neg h1] at h ⊢
    refine ⟨?_, by simpa using h1⟩
    unfold dW2 at *
    by_cases h2 : a < 0 ∨ ((((aget s.data.toList D.files).getD z110).f0.length : Int)) < a
    · rw [if_pos h2] at h; cases h
    · rw [if_neg h2] at h ⊢
      split at h
      · cases h
      · next h3 =>
        rw [if_neg h3]
        split at h
        · cases h
        · next h4 => rw [if_neg h4]
theorem sync_write {D : Dsk} {s : ByteArray} {a : Int} {b : List Int} (hs : Srt D.files) (h : (dWrite D s a b).1 = 0) : (dSync (dWrite D s a b).2 s).1 = 0 := by
  rw [(write_ok h).1]
  unfold dSync
  rw [show aget s.data.toList (aput s.data.toList (wFil ((aget s.data.toList D.files).getD z110) a b) D.files) = _ from (aget_put hs).trans (if_pos rfl)]
theorem rename_write {D : Dsk} {s t : ByteArray} {a : Int} {b : List Int} (hs : Srt D.files) (h : (dWrite D s a b).1 = 0) (ht : namedB t = true) : (dRename (dSync (dWrite D s a b).2 s).2 s t).1 = 0 := by
  rw [(write_ok h).1]
  unfold dSync
  rw [show aget s.data.toList (aput s.data.toList (wFil ((aget s.data.toList D.files).getD z110) a b) D.files) = _ from (aget_put hs).trans (if_pos rfl)]
  unfold dRename
  rw [show aget s.data.toList (aput s.data.toList (_ : Fil) (aput s.data.toList (wFil ((aget s.data.toList D.files).getD z110) a b) D.files)) = _ from (aget_put (aput_srt hs)).trans (if_pos rfl)]
  dsimp only
  rw [if_neg (by rw [ht]; decide)]
  split <;> rfl
theorem By.new {W w1 : World} {S : Nat → Prop} {L b : Nat} {o : Obj} (hS : ∀ k, S k → k < W.heap.size) (hL : L < W.heap.size) (hb : W.heap.size ≤ b) (h : w1.heap[b]? = some o) : By w1 S L b o := ⟨h, fun h' => by have := hS b h'; omega, by omega⟩
theorem Wl.lt {W0 W : World} {S Q : Nat → Prop} {g N L : Nat} {D : Dsk} {M : LM} (h : Wl W0 W S Q g N L D M) : L < W.heap.size := (h.q L h.lg.1).2.1
theorem Wl.cell0 {W0 W : World} {S Q : Nat → Prop} {g N L : Nat} {D : Dsk} {M : LM} (h : Wl W0 W S Q g N L D M) : W.cell? ⟨L, 0, none⟩ = some (.pointer (some ⟨g, 0, none⟩)) ∧ W.cell? ⟨L, 6, none⟩ = some (.int .i64 M.n) ∧ W.cell? ⟨L, 7, none⟩ = some (.int .i64 M.sz) := by
  obtain ⟨A, c, hb, _⟩ := h.cells
  exact ⟨blk_cell hb 0, blk_cell hb 6, blk_cell hb 7⟩
theorem anew_fin {W0 w6 : World} {S6 Q : Nat → Prop} {g N L : Nat} {D5 : Dsk} {M : LM} {s : WS} {v : Value} {n' sz' : Int} (h : Wl W0 w6 S6 Q g N L D5 M) (hV : Kd.V k48 48 w6 0 (fun k => Q k ∧ k ≠ L) v s.es) :
    AfW W0 w6 S6 Q g N L D5 ⟨n', sz', s⟩ ((((((((w6.setCell ⟨L, 6, none⟩ (.int .i64 n')).setCell ⟨L, 7, none⟩ (.int .i64 sz')).setCell ⟨L, 1, none⟩ (.int .i64 s.bi)).setCell ⟨L, 2, none⟩ (.int .i64 s.bt)).setCell ⟨L, 3, none⟩ (.int .i64 s.ht)).setCell ⟨L, 4, none⟩ (.int .i64 s.hv)).setCell ⟨L, 5, none⟩ v).drew) := by
  obtain ⟨A, c, hb, _⟩ := h.cells
  refine h.setL (M' := ⟨n', sz', s⟩) (v := v) hV ?_ ?_
  · exact (kp_set (kp_set (kp_set (kp_set (kp_set (kp_set (kp_set (Kp.refl w6 (fun k => k = L)) 6 _) 7 _) 1 _) 2 _) 3 _) 4 _) 5 _).drewN 1
  · have h1 := blk_set hb 6 (.int .i64 n')
    have h2 := blk_set h1 7 (.int .i64 sz')
    have h3 := blk_set h2 1 (.int .i64 s.bi)
    have h4 := blk_set h3 2 (.int .i64 s.bt)
    have h5 := blk_set h4 3 (.int .i64 s.ht)
    have h6 := blk_set h5 4 (.int .i64 s.hv)
    have h7 := blk_set h6 5 v
    have hdrew : ∀ w : World, (w.drew).heap = w.heap := fun _ => rfl
    rw [hdrew, h7]
    unfold lgC
    simp
set_option maxHeartbeats 4000000 in
set_option maxRecDepth 100000 in
theorem anew_bad {W0 W : World} {S Q : Nat → Prop} {g N L : Nat} {D : Dsk} {M : LM} {s : WS} {v : Value} (h : Wl W0 W S Q g N L D M) (hN : N ≤ 900000) (hs : WOk s) (hsl : s.es.length ≤ 500000) (hV : Kd.V k48 48 W 0 (fun k => Q k ∧ k ≠ L) v s.es) (hw : ¬ (dWrite D tmpB 0 s.bytes).1 = 0) :
    Calls Try.prog 67 #[.pointer (some ⟨L, 0, none⟩), .agg #[.int .i64 s.bi, .int .i64 s.bt, .int .i64 s.ht, .int .i64 s.hv, v]] W (ErrP W0 W S Q g (N + 1) L (lgAnew D M s)) := by
  have hr : lgAnew D M s = ((dWrite D tmpB 0 s.bytes).1, (dRemove (dWrite D tmpB 0 s.bytes).2 tmpB).2, M) := by
    unfold lgAnew dAnew mAnew
    rw [if_neg hw, if_neg hw]
  rw [hr]
  obtain ⟨Av, cv, rfl, hcv, hF⟩ := hV
  obtain ⟨w1, hw1⟩ : ∃ w1, w1 = W.alloc (.cells #[.int .i64 s.bi, .int .i64 s.bt, .int .i64 s.ht, .int .i64 s.hv, .slice Av s.es.length cv] 124) := ⟨_, rfl⟩
  have hb1 : Below W.heap.size W w1 := by rw [hw1]; exact below_alloc (Below.refl _ _) _
  have hbk : w1.heap[W.heap.size]? = some (.cells #[.int .i64 s.bi, .int .i64 s.bt, .int .i64 s.ht, .int .i64 s.hv, .slice Av s.es.length cv] 124 (0, 0)) := by rw [hw1]; exact blk_new W _
  have m0 : w1.cell? ⟨W.heap.size, 0, none⟩ = some (.int .i64 s.bi) := blk_cell hbk 0
  have m1 : w1.cell? ⟨W.heap.size, 1, none⟩ = some (.int .i64 s.bt) := blk_cell hbk 1
  have m2 : w1.cell? ⟨W.heap.size, 2, none⟩ = some (.int .i64 s.ht) := blk_cell hbk 2
  have m3 : w1.cell? ⟨W.heap.size, 3, none⟩ = some (.int .i64 s.hv) := blk_cell hbk 3
  have m4 : w1.cell? ⟨W.heap.size, 4, none⟩ = some (.slice Av s.es.length cv) := blk_cell hbk 4
  have HB1 := Aside0.mk hb1
  have HBY := Aside0.mk (h.below hb1)
  have HBT := Aside0.mk (bytes_calls (bi := s.bi) (bt := s.bt) (ht := s.ht) (hv := s.hv) (Kd.F_now (Kd.F_below hF hb1)) hcv hs (by omega))
  have hbl := (recsB_len hs.recs_ok).2
  have hrl : s.recs.length = s.es.length + 2 := by simp [WS.recs]
  have HBL := Aside0.mk (show s.bytes.length ≤ 2000000000 from by unfold WS.bytes; omega)
  obtain ⟨b, hb⟩ : ∃ b, s.bytes = b := ⟨_, rfl⟩
  have HBT2 : Aside0 (Calls Try.prog 98 #[.agg #[.int .i64 s.bi, .int .i64 s.bt, .int .i64 s.ht, .int .i64 s.hv, .slice Av s.es.length cv]] w1 fun e w' => ∃ v1, e = .returned v1 ∧ k8.R 5 w' w1.heap.size (fun _ => True) v1 b ∧ Below w1.heap.size w1 w') := ⟨by rw [← hb]; exact HBT.out⟩
  rw [hb] at hw HBL ⊢
  obtain ⟨e, he⟩ : ∃ e, (dWrite D tmpB 0 b).1 = e := ⟨_, rfl⟩
  have HE := Aside0.mk he
  rw [he] at hw
  have t1 : (e == 0) = false := beq_eq_false_iff_ne.mpr hw
  have t2 : (e != 0) = true := by simp [bne, t1]
  clear h hs hF hb1 hbk hb he hbl hr HBT hw hrl
  go_enter Try.func67, Try.ntmps67
  go_upto_region 1 with (fail)
  rw [← hw1]
  clear hw1
  go_wp2_with fail
  refine HBT2.out.mono ?_
  rintro e1 w2 ⟨vb, rfl, hr2, hb2⟩
  obtain ⟨Ab, cb, rfl⟩ := Kd.R_slice hr2
  have HW2 := Aside0.mk (HBY.out.below hb2)
  have HR2 := Aside0.mk (Kd.R_reads' hr2)
  have HNS := Aside0.mk (show ∀ ad, Ab = some ad → 0 < b.length → ¬ S ad.block from fun ad e hn hS => by
    subst e
    have h1 := (Kd.R_bound hr2).1 ad.block (by simp [Value.ownBlock])
    have h2 := (HBY.out.dk.2.1 _ hS).2
    have h3 := h1.2.1
    omega)
  obtain ⟨l0, l6, l7⟩ := HW2.out.cell0
  have HBB := Aside0.mk (Bys.of_below (S := S) (L := L) (below_step HB1.out hb2))
  clear hr2 hb2 m0 m1 m2 m3 m4
  go_wp2_with fail
  refine (dk_write (s := tmpB) HW2.out.dk (by omega) (by decide) HR2.out.2.2 HR2.out.2.1 (by have := HBL.out; omega) HNS.out).mono ?_
  rintro e2 w3 ⟨rfl, hnx⟩
  rw [HE.out]
  obtain ⟨S3, hw3, hB3⟩ := HW2.out.dstep hnx
  have HW3 := Aside0.mk hw3
  have HB3 := Aside0.mk (HBB.out.trans hB3)
  obtain ⟨k0, k6, k7⟩ := hw3.cell0
  clear hw3 hB3 l0 l6 l7 hnx
  go_wp2_with fail
  refine (dk_remove (s := tmpB) HW3.out.dk (by decide)).mono ?_
  rintro e2 w4 ⟨rfl, hnx⟩
  obtain ⟨S4, hw4, hB4⟩ := HW3.out.dstep hnx
  have HW4 := Aside0.mk hw4
  have HB4 := Aside0.mk (HB3.out.trans hB4)
  clear hw4 hB4 k0 k6 k7 hnx
  go_wp2_with fail
  go_ret
  exact ⟨by show _ = Ending.returned (.int .i64 (dWrite D tmpB 0 b).1); rw [HE.out]; rfl, S4, Q, HW4.out, HB4.out, fun _ _ h => h⟩
set_option maxHeartbeats 4000000 in
set_option maxRecDepth 100000 in
theorem anew_ok {W0 W : World} {S Q : Nat → Prop} {g N L : Nat} {D : Dsk} {M : LM} {s : WS} {v : Value} (h : Wl W0 W S Q g N L D M) (hN : N ≤ 900000) (hs : WOk s) (hsl : s.es.length ≤ 500000) (hV : Kd.V k48 48 W 0 (fun k => Q k ∧ k ≠ L) v s.es) (hw : (dWrite D tmpB 0 s.bytes).1 = 0) (hm : MOk M) (hnm : namedB (nameB (M.n + 1)) = true) :
    Calls Try.prog 67 #[.pointer (some ⟨L, 0, none⟩), .agg #[.int .i64 s.bi, .int .i64 s.bt, .int .i64 s.ht, .int .i64 s.hv, v]] W (ErrP W0 W S Q g (N + 1) L (lgAnew D M s)) := by
  obtain ⟨D4, hD4⟩ : ∃ D4, (dRename (dSync (dWrite D tmpB 0 s.bytes).2 tmpB).2 tmpB (nameB (M.n + 1))).2 = D4 := ⟨_, rfl⟩
  have hr : lgAnew D M s = (0, if 0 < M.n then (dRemove D4 (nameB M.n)).2 else D4, ⟨M.n + 1, s.bytes.length, s⟩) := by
    unfold lgAnew dAnew mAnew
    rw [if_pos hw, if_pos hw, hD4]
  have HVQ := Aside0.mk (show ∀ w' S', Bys W S w' S' L → Kd.V k48 48 w' 0 (fun k => Q k ∧ k ≠ L) v s.es from fun w' S' hB => V_bys hB (fun k hk => (h.q k hk).2.2) hV)
  have HLS := Aside0.mk (And.intro (fun k hk => (h.dk.2.1 k hk).2) h.lt)
  have HSY := Aside0.mk (sync_write h.dk.2.2.2.srt hw)
  have HRN := Aside0.mk (rename_write h.dk.2.2.2.srt hw hnm)
  have hn0 := hm.n
  obtain ⟨n, hn⟩ : ∃ n, M.n = n := ⟨_, rfl⟩
  have HN := Aside0.mk hn
  rw [hn] at HRN hD4 hn0
  have HD4 := Aside0.mk hD4
  rw [hr, hn]
  obtain ⟨D5, hD5⟩ : ∃ D5, (if 0 < n then (dRemove D4 (nameB n)).2 else D4) = D5 := ⟨_, rfl⟩
  rw [hD5]
  have HD5 := Aside0.mk hD5
  have hw6 : IntKind.i64.wrap (n + 1) = n + 1 := IntWalk.i64_in _ ⟨by omega, by omega⟩
  have hz1 : (0 : Int) ≤ n + 1 := by omega
  obtain ⟨Av, cv, rfl, hcv, hF⟩ := hV
  obtain ⟨w1, hw1⟩ : ∃ w1, w1 = W.alloc (.cells #[.int .i64 s.bi, .int .i64 s.bt, .int .i64 s.ht, .int .i64 s.hv, .slice Av s.es.length cv] 124) := ⟨_, rfl⟩
  have hb1 : Below W.heap.size W w1 := by rw [hw1]; exact below_alloc (Below.refl _ _) _
  have hbk : w1.heap[W.heap.size]? = some (.cells #[.int .i64 s.bi, .int .i64 s.bt, .int .i64 s.ht, .int .i64 s.hv, .slice Av s.es.length cv] 124 (0, 0)) := by rw [hw1]; exact blk_new W _
  have m0 : w1.cell? ⟨W.heap.size, 0, none⟩ = some (.int .i64 s.bi) := blk_cell hbk 0
  have m1 : w1.cell? ⟨W.heap.size, 1, none⟩ = some (.int .i64 s.bt) := blk_cell hbk 1
  have m2 : w1.cell? ⟨W.heap.size, 2, none⟩ = some (.int .i64 s.ht) := blk_cell hbk 2
  have m3 : w1.cell? ⟨W.heap.size, 3, none⟩ = some (.int .i64 s.hv) := blk_cell hbk 3
  have m4 : w1.cell? ⟨W.heap.size, 4, none⟩ = some (.slice Av s.es.length cv) := blk_cell hbk 4
  have HB1 := Aside0.mk hb1
  have HBK := Aside0.mk hbk
  have HBY := Aside0.mk (h.below hb1)
  have HBT := Aside0.mk (bytes_calls (bi := s.bi) (bt := s.bt) (ht := s.ht) (hv := s.hv) (Kd.F_now (Kd.F_below hF hb1)) hcv hs (by omega))
  have hbl := (recsB_len hs.recs_ok).2
  have hrl : s.recs.length = s.es.length + 2 := by simp [WS.recs]
  have HBL := Aside0.mk (show s.bytes.length ≤ 2000000000 from by unfold WS.bytes; omega)
  obtain ⟨b, hb⟩ : ∃ b, s.bytes = b := ⟨_, rfl⟩
  have HBT2 : Aside0 (Calls Try.prog 98 #[.agg #[.int .i64 s.bi, .int .i64 s.bt, .int .i64 s.ht, .int .i64 s.hv, .slice Av s.es.length cv]] w1 fun e w' => ∃ v1, e = .returned v1 ∧ k8.R 5 w' w1.heap.size (fun _ => True) v1 b ∧ Below w1.heap.size w1 w') := ⟨by rw [← hb]; exact HBT.out⟩
  rw [hb] at hw HBL
  have HBE := Aside0.mk hb
  rw [hb] at HSY HRN HD4
  have HWR := Aside0.mk hw
  clear h hs hF hb1 hbk hbl hr HBT hw hrl hn hm hD4 hnm hD5
  go_enter Try.func67, Try.ntmps67
  go_upto_region 1 with (fail)
  rw [← hw1]
  clear hw1
  go_wp2_with fail
  refine HBT2.out.mono ?_
  rintro e1 w2 ⟨vb, rfl, hr2, hb2⟩
  obtain ⟨Ab, cb, rfl⟩ := Kd.R_slice hr2
  have HW2 := Aside0.mk (HBY.out.below hb2)
  have HBK2 := Aside0.mk ((hb2.block _ (blk_lt HBK.out)).trans HBK.out)
  have HR2 := Aside0.mk (Kd.R_reads' hr2)
  have HNS := Aside0.mk (show ∀ ad, Ab = some ad → 0 < b.length → ¬ S ad.block from fun ad e hn hS => by
    subst e
    have h1 := (Kd.R_bound hr2).1 ad.block (by simp [Value.ownBlock])
    have h2 := (HBY.out.dk.2.1 _ hS).2
    have h3 := h1.2.1
    omega)
  obtain ⟨l0, l6, l7⟩ := HW2.out.cell0
  have HY2 := Aside0.mk (By.new (S := S) (L := L) (b := W.heap.size) (fun k hk => HLS.out.1 k hk) HLS.out.2 (Nat.le_refl _) HBK2.out)
  have HBB := Aside0.mk (Bys.of_below (S := S) (L := L) (below_step HB1.out hb2))
  clear hr2 hb2 m0 m1 m2 m3 m4
  go_wp2_with fail
  refine (dk_write (s := tmpB) HW2.out.dk (by omega) (by decide) HR2.out.2.2 HR2.out.2.1 (by have := HBL.out; omega) HNS.out).mono ?_
  rintro e2 w3 ⟨rfl, hnx⟩
  rw [HWR.out]
  obtain ⟨S3, hw3, hB3⟩ := HW2.out.dstep hnx
  have HW3 := Aside0.mk hw3
  have HB3 := Aside0.mk hB3
  obtain ⟨k0, k6, k7⟩ := hw3.cell0
  clear hw3 hB3 l0 l6 l7 hnx
  go_wp2_with fail
  refine (dk_sync (s := tmpB) HW3.out.dk (by omega) (by decide)).mono ?_
  rintro e2 w4 ⟨rfl, hnx⟩
  rw [HSY.out]
  obtain ⟨S4, hw4, hB4⟩ := HW3.out.dstep hnx
  have HW4 := Aside0.mk (hw4.below (below_drew1 (Below.refl _ _)))
  have HB4 := Aside0.mk ((HB3.out.trans hB4).trans (Bys.of_below (below_drew1 (Below.refl _ _))))
  obtain ⟨l0, l6, l7⟩ := hw4.cell0
  rw [HN.out] at l6
  have HNA := Aside0.mk (show 0 ≤ n + 1 ∧ n + 1 ≤ 1099511627776 from ⟨hz1, by omega⟩)
  have HNB := Aside0.mk (show 0 ≤ n ∧ n ≤ 1099511627776 from ⟨by omega, by omega⟩)
  clear hw4 hB4 k0 k6 k7 hnx
  go_wp2_with fail
  go_region_held3 (fun w' => w'.cell? ⟨L, 0, none⟩ = some (.pointer (some ⟨g, 0, none⟩)) ∧ w'.cell? ⟨L, 6, none⟩ = some (.int .i64 n)) (first | go_keep | exact HC5.out) (first
    | (go_at_call 91; refine (name_calls HNA.out).mono ?_; rintro e w' ⟨rfl, rfl⟩)
    | (go_at_call 31; refine (dk_rename (s := tmpB) (t := nameB (n + 1)) HW4.out.dk (by decide) (name_size _)).mono ?_; rintro e w5 ⟨rfl, hnx⟩; rw [HRN.out]; obtain ⟨S5, hw5, hB5⟩ := HW4.out.dstep hnx; have hc5 := hw5.cell0; rw [HN.out] at hc5; have HC5 := Aside0.mk (And.intro hc5.1 hc5.2.1); have HW5 := Aside0.mk hw5; have HB5 := Aside0.mk (HB4.out.trans hB5); clear hnx hw5 hB5 hc5))
  rw [HD4.out] at HW5
  by_cases hn1 : 0 < n
  · have c1 : decide (0 < n) = true := decide_eq_true hn1
    have hd5 : (dRemove D4 (nameB n)).2 = D5 := by rw [← HD5.out, if_pos hn1]
    have HE5 := Aside0.mk hd5
    clear hd5
    have HW5d := Aside0.mk (HW5.out.below (below_drew1 (Below.refl _ _)))
    have HB5d := Aside0.mk (HB5.out.trans (Bys.of_below (below_drew1 (Below.refl _ _))))
    obtain ⟨o0, o6⟩ := HC5.out
    go_wp2_with fail
    go_region_held3 (fun w' => w'.cell? ⟨L, 0, none⟩ = some (.pointer (some ⟨g, 0, none⟩)) ∧ w'.cell? ⟨L, 6, none⟩ = some (.int .i64 n)) (first | go_keep | exact HC6.out) (first
      | (go_at_call 91; refine (name_calls HNB.out).mono ?_; rintro e w' ⟨rfl, rfl⟩)
      | (go_at_call 34; refine (dk_remove (s := nameB n) HW5d.out.dk (name_size _)).mono ?_; rintro e w6 ⟨rfl, hnx⟩; obtain ⟨S6, hw6, hB6⟩ := HW5d.out.dstep hnx; have hc6 := hw6.cell0; rw [HN.out] at hc6; have HC6 := Aside0.mk (And.intro hc6.1 hc6.2.1); have HW6 := Aside0.mk hw6; have HB6 := Aside0.mk (HB5d.out.trans hB6); clear hnx hw6 hB6 hc6))
    rw [HE5.out] at HW6
    have HY6 := Aside0.mk (HB6.out.keep _ _ HY2.out)
    obtain ⟨AL, cL, hbL, hcL, hFL⟩ := HW6.out.cells
    have p1 : w6.cell? ⟨L, 1, none⟩ = some (.int .i64 M.st.bi) := blk_cell hbL 1
    have p2 : w6.cell? ⟨L, 2, none⟩ = some (.int .i64 M.st.bt) := blk_cell hbL 2
    have p3 : w6.cell? ⟨L, 3, none⟩ = some (.int .i64 M.st.ht) := blk_cell hbL 3
    have p4 : w6.cell? ⟨L, 4, none⟩ = some (.int .i64 M.st.hv) := blk_cell hbL 4
    have p5 : w6.cell? ⟨L, 5, none⟩ = some (.slice AL M.st.es.length cL) := blk_cell hbL 5
    have p6 := HC6.out.2
    have p7 : w6.cell? ⟨L, 7, none⟩ = some (.int .i64 M.sz) := blk_cell hbL 7
    have pf := blk_frozen hbL
    clear hbL hcL hFL
    have y0 : w6.cell? ⟨W.heap.size, 0, none⟩ = some (.int .i64 s.bi) := blk_cell HY6.out.at_ 0
    have y1 : w6.cell? ⟨W.heap.size, 1, none⟩ = some (.int .i64 s.bt) := blk_cell HY6.out.at_ 1
    have y2 : w6.cell? ⟨W.heap.size, 2, none⟩ = some (.int .i64 s.ht) := blk_cell HY6.out.at_ 2
    have y3 : w6.cell? ⟨W.heap.size, 3, none⟩ = some (.int .i64 s.hv) := blk_cell HY6.out.at_ 3
    have y4 : w6.cell? ⟨W.heap.size, 4, none⟩ = some (.slice Av s.es.length cv) := blk_cell HY6.out.at_ 4
    clear o0 o6
    go_wp2_with fail
    go_region
    go_wp2_with fail
    go_ret
    obtain ⟨S7, hw7, hB7⟩ := anew_fin (n' := n + 1) (sz' := b.length) HW6.out (HVQ.out w6 S6 (HBB.out.trans HB6.out))
    exact ⟨rfl, S7, Q, by rw [HBE.out]; exact hw7, (HBB.out.trans HB6.out).trans hB7, fun _ _ h => h⟩
  · have c1 : decide (0 < n) = false := decide_eq_false hn1
    have hd5 : D4 = D5 := by rw [← HD5.out, if_neg hn1]
    rw [hd5] at HW5
    have HY5 := Aside0.mk (HB5.out.keep _ _ HY2.out)
    obtain ⟨AL, cL, hbL, hcL, hFL⟩ := HW5.out.cells
    have p1 : w5.cell? ⟨L, 1, none⟩ = some (.int .i64 M.st.bi) := blk_cell hbL 1
    have p2 : w5.cell? ⟨L, 2, none⟩ = some (.int .i64 M.st.bt) := blk_cell hbL 2
    have p3 : w5.cell? ⟨L, 3, none⟩ = some (.int .i64 M.st.ht) := blk_cell hbL 3
    have p4 : w5.cell? ⟨L, 4, none⟩ = some (.int .i64 M.st.hv) := blk_cell hbL 4
    have p5 : w5.cell? ⟨L, 5, none⟩ = some (.slice AL M.st.es.length cL) := blk_cell hbL 5
    have p6 := HC5.out.2
    have p7 : w5.cell? ⟨L, 7, none⟩ = some (.int .i64 M.sz) := blk_cell hbL 7
    have pf := blk_frozen hbL
    have y0 : w5.cell? ⟨W.heap.size, 0, none⟩ = some (.int .i64 s.bi) := blk_cell HY5.out.at_ 0
    have y1 : w5.cell? ⟨W.heap.size, 1, none⟩ = some (.int .i64 s.bt) := blk_cell HY5.out.at_ 1
    have y2 : w5.cell? ⟨W.heap.size, 2, none⟩ = some (.int .i64 s.ht) := blk_cell HY5.out.at_ 2
    have y3 : w5.cell? ⟨W.heap.size, 3, none⟩ = some (.int .i64 s.hv) := blk_cell HY5.out.at_ 3
    have y4 : w5.cell? ⟨W.heap.size, 4, none⟩ = some (.slice Av s.es.length cv) := blk_cell HY5.out.at_ 4
    clear hbL hcL hFL hd5
    go_wp2_with fail
    go_region
    go_wp2_with fail
    go_ret
    obtain ⟨S7, hw7, hB7⟩ := anew_fin (n' := n + 1) (sz' := b.length) HW5.out (HVQ.out w5 S5 (HBB.out.trans HB5.out))
    exact ⟨rfl, S7, Q, by rw [HBE.out]; exact hw7, (HBB.out.trans HB5.out).trans hB7, fun _ _ h => h⟩
theorem anew_calls {W0 W : World} {S Q : Nat → Prop} {g N L : Nat} {D : Dsk} {M : LM} {s : WS} {v : Value} (h : Wl W0 W S Q g N L D M) (hN : N ≤ 900000) (hs : WOk s) (hsl : s.es.length ≤ 500000) (hV : Kd.V k48 48 W 0 (fun k => Q k ∧ k ≠ L) v s.es) (hm : MOk M) (hnm : namedB (nameB (M.n + 1)) = true) :
    Calls Try.prog 67 #[.pointer (some ⟨L, 0, none⟩), .agg #[.int .i64 s.bi, .int .i64 s.bt, .int .i64 s.ht, .int .i64 s.hv, v]] W (ErrP W0 W S Q g (N + 1) L (lgAnew D M s)) := by
  by_cases hw : (dWrite D tmpB 0 s.bytes).1 = 0
  · exact anew_ok h hN hs hsl hV hw hm hnm
  · exact anew_bad h hN hs hsl hV hw
end Go.Proofs.Ytmmiipnmimjojaa.PS
end
section
namespace Go.Proofs.Ytmmiipnmimjojaa.PS
open Go.RowKit Go.Proofs.YtmmiipnmimjojaaW.PrintWords Go.Proofs.YtmmiipnmimjojaaW.PrintLast Go.Proofs.YtmmiipnmimjojaaW.PrintMore
open Go.Maps Go.Proofs.Ytmmiipnmimjojaa.PD
set_option linter.unusedVariables false
set_option linter.unusedSimpArgs false
theorem write_len {D : Dsk} {s : ByteArray} {a : Int} {b : List Int} (h : (dWrite D s a b).1 = 0) : 0 ≤ a ∧ a + b.length ≤ 262144 := by
  unfold dWrite at h
  by_cases h1 : namedB s = false
  · rw [if_pos h1] at h; cases h
  · rw [if_neg h1] at h
    unfold dW2 at h
    split at h
    · cases h
    · next h2 =>
      split at h
      · cases h
      · next h3 => unfold moreB at h3; omega
theorem mok_anew {D : Dsk} {M : LM} {s : WS} (hm : MOk M) (hn : M.n ≤ 900000000) (hs : WOk s) (hsl : s.es.length ≤ 500000) : MOk (mAnew D M s) := by
  unfold mAnew
  by_cases h : (dWrite D tmpB 0 s.bytes).1 = 0
  · rw [if_pos h]
    have := write_len h
    have h0 := hm.n
    exact ⟨hs, hsl, ⟨by dsimp only; omega, by dsimp only; omega⟩, ⟨by dsimp only; omega, by dsimp only; omega⟩⟩
  · rw [if_neg h]; exact hm
theorem F_bys {W w' : World} {S S' : Nat → Prop} {L n : Nat} {A : Option Addr} {b : List Int} (h : Bys W S w' S' L) (hF : Kd.F k8 W (fun k => (¬ S k ∧ k ≠ L) ∧ k < W.heap.size) A n b) (hsz : W.heap.size ≤ w'.heap.size) : Kd.F k8 w' (fun k => (¬ S' k ∧ k ≠ L) ∧ k < w'.heap.size) A n b :=
  Kd.F_mono (Kd.F_step hF fun k hk hlt => (h.step hlt hk.1.1 hk.1.2).1) (fun k hk => ⟨⟨(h.step hk.2 hk.1.1 hk.1.2).2, hk.1.2⟩, Nat.lt_of_lt_of_le hk.2 hsz⟩)
theorem F_notS {W : World} {S : Nat → Prop} {L n : Nat} {A : Option Addr} {b : List Int} (hF : Kd.F k8 W (fun k => (¬ S k ∧ k ≠ L) ∧ k < W.heap.size) A n b) : ∀ ad, A = some ad → 0 < n → ¬ S ad.block := fun ad e hn => by
  obtain ⟨ad', c, e', _, _, _, h⟩ := Kd.F_get hF 0 0 (Int.le_refl 0) (by omega)
  rw [e] at e'
  cases e'
  exact (h (by show 0 < 1; decide)).1.1
theorem Wl.cell1 {W0 W : World} {S Q : Nat → Prop} {g N L : Nat} {D : Dsk} {M : LM} (h : Wl W0 W S Q g N L D M) : ∃ A c, (W.cell? ⟨L, 1, none⟩ = some (.int .i64 M.st.bi) ∧ W.cell? ⟨L, 2, none⟩ = some (.int .i64 M.st.bt) ∧ W.cell? ⟨L, 3, none⟩ = some (.int .i64 M.st.ht) ∧ W.cell? ⟨L, 4, none⟩ = some (.int .i64 M.st.hv) ∧
    W.cell? ⟨L, 5, none⟩ = some (.slice A M.st.es.length c)) ∧ Kd.V k48 48 W 0 (fun k => Q k ∧ k ≠ L) (.slice A M.st.es.length c) M.st.es := by
  obtain ⟨A, c, hb, hc, hF⟩ := h.cells
  exact ⟨A, c, ⟨blk_cell hb 1, blk_cell hb 2, blk_cell hb 3, blk_cell hb 4, blk_cell hb 5⟩, A, c, rfl, hc, hF⟩
/-- The size is raised. -/
theorem Wl.raise {W0 W : World} {S Q : Nat → Prop} {g N L : Nat} {D : Dsk} {M : LM} (h : Wl W0 W S Q g N L D M) (z : Int) : AfW W0 W S Q g N L D { M with sz := z } (W.setCell ⟨L, 7, none⟩ (.int .i64 z)) := by
  obtain ⟨hQ, v, hb, hv⟩ := h.lg
  refine h.setL (M' := { M with sz := z }) hv (kp_set (Kp.refl W (fun k => k = L)) 7 _) ?_
  have h1 := blk_set hb 7 (.int .i64 z)
  rw [h1]
  unfold lgC
  simp
set_option maxHeartbeats 4000000 in
set_option maxRecDepth 100000 in
theorem put_calls {W0 W : World} {S Q : Nat → Prop} {g N L : Nat} {D : Dsk} {M : LM} {b : List Int} {Ab : Option Addr} {cb : Nat} (h : Wl W0 W S Q g N L D M) (hm : MOk M) (hN : N ≤ 800000) (hn : M.n ≤ 900000000) (hnm : namedB (nameB (M.n + 1)) = true)
    (hF : Kd.F k8 W (fun k => (¬ S k ∧ k ≠ L) ∧ k < W.heap.size) Ab b.length b) (hc : b.length ≤ cb) (hbl : b.length ≤ 2000000000) :
    Calls Try.prog 72 #[.pointer (some ⟨L, 0, none⟩), .slice Ab b.length cb] W (ErrP W0 W S Q g (N + 2) L (lgPut D M b)) := by
  have hsz0 := hm.sz
  obtain ⟨l00, l66, l77⟩ := h.cell0
  have hwz : IntKind.i64.wrap (M.sz + (b.length : Int)) = M.sz + b.length := IntWalk.i64_in _ ⟨by omega, by omega⟩
  by_cases hbig : 262144 < M.sz + (b.length : Int)
  · have c1 : decide (262144 < M.sz + (b.length : Int)) = true := decide_eq_true hbig
    obtain ⟨e0, he0⟩ : ∃ e0, (lgAnew D M M.st).1 = e0 := ⟨_, rfl⟩
    have HE0 := Aside0.mk he0
    obtain ⟨A1, c1', ⟨k1, k2, k3, k4, k5⟩, hV⟩ := h.cell1
    have HAN := Aside0.mk (anew_calls h (by omega) hm.st hm.few hV hm hnm)
    have HF := Aside0.mk hF
    have HM := Aside0.mk (mok_anew (D := D) hm hn hm.st hm.few)
    have HSZ := Aside0.mk h.dk.1.size
    have hP : lgPut D M b = if e0 = 0 then lgPut1 (lgAnew D M M.st).2.1 (lgAnew D M M.st).2.2 b else lgAnew D M M.st := by
      unfold lgPut
      rw [if_pos hbig, he0]
    have HPP := Aside0.mk hP
    obtain ⟨R, hR⟩ : ∃ R, lgPut D M b = R := ⟨_, rfl⟩
    rw [hR] at HPP ⊢
    have HLT := Aside0.mk h.lt
    by_cases hz0 : e0 = 0
    · have t1 : (e0 == 0) = true := by rw [hz0]; rfl
      have t2 : (e0 != 0) = false := by simp [bne, t1]
      have HR := Aside0.mk (show R = lgPut1 (lgAnew D M M.st).2.1 (lgAnew D M M.st).2.2 b by rw [HPP.out, if_pos hz0])
      obtain ⟨D1, hD1⟩ : ∃ D1, (lgAnew D M M.st).2.1 = D1 := ⟨_, rfl⟩
      obtain ⟨M1, hM1⟩ : ∃ M1, (lgAnew D M M.st).2.2 = M1 := ⟨_, rfl⟩
      rw [hD1, hM1] at HR
      have HDM := Aside0.mk (And.intro hD1 hM1)
      have HM1 : Aside0 (MOk M1) := ⟨by rw [← hM1]; exact HM.out⟩
      clear hbig he0 hV hF h hm hP hR hz0 hD1 hM1
      go_enter Try.func72, Try.ntmps72
      go_wp2_with fail
      refine HAN.out.mono ?_
      rintro e9 w1 ⟨rfl, S1, Q1, hw1, hB1, hq1⟩
      rw [HE0.out]
      rw [HDM.out.1, HDM.out.2] at hw1
      have HWX := Aside0.mk hw1
      have HMX := HM1
      have hws : W.heap.size ≤ w1.heap.size := hB1.size
      have HFX := Aside0.mk (F_bys hB1 HF.out hws)
      have HNX := Aside0.mk (show N + 1 ≤ 1000000 by omega)
      have HB1 := Aside0.mk hB1
      have HQ1 := Aside0.mk hq1
      clear hw1 hB1 hq1 l00 l66 l77 k1 k2 k3 k4 k5
      go_wp2_with fail
      obtain ⟨e, he⟩ : ∃ e, (dWrite D1 (nameB M1.n) M1.sz b).1 = e := ⟨_, rfl⟩
      have HE := Aside0.mk he
      have HWD := Aside0.mk (HWX.out.below (below_drew1 (Below.refl _ _)))
      have HFL := Aside0.mk (HWD.out.file HMX.out)
      have HFD := Aside0.mk (Kd.F_mono (Kd.F_drew HFX.out) (ok' := fun k => (¬ S1 k ∧ k ≠ L) ∧ k < (w1.drew).heap.size) (fun k hk => hk))
      obtain ⟨z, hz⟩ : ∃ z, M1.sz = z := ⟨_, rfl⟩
      obtain ⟨nn, hnn⟩ : ∃ nn, nameB M1.n = nn := ⟨_, rfl⟩
      have HNSZ := Aside0.mk (name_size M1.n)
      obtain ⟨l0, l6, l7⟩ := HWX.out.cell0
      have hzb := HMX.out.sz
      rw [hz] at he l7 hzb
      rw [hnn] at HFL HNSZ he
      have HZ := Aside0.mk hz
      have HNN := Aside0.mk hnn
      have HEE := Aside0.mk he
      have HWR := Aside0.mk (dk_write (s := nn) (at_ := z) HWD.out.dk HNX.out HNSZ.out (Kd.F_now HFD.out) hc (by omega) (F_notS HFD.out))
      rw [he] at HWR
      clear he hz hnn
      go_wp2_with fail
      go_region_held3 (fun w' => w'.cell? ⟨L, 0, none⟩ = some (.pointer (some ⟨g, 0, none⟩)) ∧ w'.cell? ⟨L, 7, none⟩ = some (.int .i64 z)) (first | go_keep | exact HC5.out) (first
        | (go_at_call 50; refine HFL.out.mono ?_; rintro e w' ⟨rfl, rfl⟩)
        | (go_at_call 20; refine HWR.out.mono ?_; rintro e5 w5 ⟨rfl, hnx⟩; obtain ⟨S5, hw5, hB5⟩ := HWD.out.dstep hnx; have hc5 := hw5.cell0; rw [HZ.out] at hc5; have HC5 := Aside0.mk (And.intro hc5.1 hc5.2.2); have HW5 := Aside0.mk hw5; have HB5 := Aside0.mk ((Bys.of_below (S := S1) (L := L) (below_drew1 (Below.refl w1.heap.size w1))).trans hB5); clear hnx hw5 hB5 hc5))
      have hz1 : IntKind.i64.wrap (z + (b.length : Int)) = z + b.length := IntWalk.i64_in _ ⟨by omega, by omega⟩
      obtain ⟨o0, o7⟩ := HC5.out
      by_cases he0 : e = 0
      · have t1 : (e == 0) = true := by rw [he0]; rfl
        have t2 : (e != 0) = false := by simp [bne, t1]
        have HE0 := Aside0.mk he0
        obtain ⟨AL, cL, hbL, _⟩ := HW5.out.cells
        have of7 := blk_frozen hbL 7
        clear he0 hbL
        go_wp2_with fail
        go_ret
        obtain ⟨S6, hw6, hB6⟩ := HW5.out.raise (z + b.length)
        refine ⟨?_, S6, Q1, ?_, (HB1.out.trans HB5.out).trans hB6, HQ1.out⟩
        · rw [HR.out]; unfold lgPut1; dsimp only; rw [HNN.out, HZ.out, HEE.out, HE0.out]; rfl
        · rw [HR.out]; unfold lgPut1; dsimp only; rw [HNN.out, HZ.out, HEE.out, if_pos HE0.out]; exact hw6
      · have t1 : (e == 0) = false := beq_eq_false_iff_ne.mpr he0
        have t2 : (e != 0) = true := by simp [bne, t1]
        have HE0 := Aside0.mk he0
        clear he0
        go_wp2_with fail
        go_ret
        refine ⟨?_, S5, Q1, ?_, HB1.out.trans HB5.out, HQ1.out⟩
        · rw [HR.out]; unfold lgPut1; dsimp only; rw [HNN.out, HZ.out, HEE.out]; rfl
        · rw [HR.out]; unfold lgPut1; dsimp only; rw [HNN.out, HZ.out, HEE.out, if_neg HE0.out]; exact HW5.out
    · have t1 : (e0 == 0) = false := beq_eq_false_iff_ne.mpr hz0
      have t2 : (e0 != 0) = true := by simp [bne, t1]
      have HR := Aside0.mk (show R = lgAnew D M M.st by rw [HPP.out, if_neg hz0])
      clear hbig he0 hV hF h hm hP hR hz0
      go_enter Try.func72, Try.ntmps72
      go_wp2_with fail
      refine HAN.out.mono ?_
      rintro e9 w1 ⟨rfl, S1, Q1, hw1, hB1, hq1⟩
      rw [HE0.out]
      have HW1 := Aside0.mk (hw1.mono (Nat.le_succ (N + 1)))
      have HB1 := Aside0.mk hB1
      have HQ1 := Aside0.mk hq1
      clear hw1 hB1 hq1
      go_wp2_with fail
      go_ret
      rw [HR.out]
      exact ⟨by rw [HE0.out]; rfl, S1, Q1, HW1.out, HB1.out, HQ1.out⟩
  · have c1 : decide (262144 < M.sz + (b.length : Int)) = false := decide_eq_false hbig
    have HR := Aside0.mk (show lgPut D M b = lgPut1 D M b by unfold lgPut; rw [if_neg hbig])
    obtain ⟨R, hR⟩ : ∃ R, lgPut D M b = R := ⟨_, rfl⟩
    rw [hR] at HR ⊢
    have HWX := Aside0.mk h
    have HMX := Aside0.mk hm
    have HFX := Aside0.mk hF
    have HNX := Aside0.mk (show N ≤ 1000000 by omega)
    clear hF h hm hbig hR
    go_enter Try.func72, Try.ntmps72
    go_wp2_with fail
    clear l00 l66 l77
    obtain ⟨e, he⟩ : ∃ e, (dWrite D (nameB M.n) M.sz b).1 = e := ⟨_, rfl⟩
    have HE := Aside0.mk he
    have HWD := Aside0.mk (HWX.out.below (below_drew1 (Below.refl _ _)))
    have HFL := Aside0.mk (HWD.out.file HMX.out)
    have HFD := Aside0.mk (Kd.F_mono (Kd.F_drew HFX.out) (ok' := fun k => (¬ S k ∧ k ≠ L) ∧ k < (W.drew).heap.size) (fun k hk => hk))
    obtain ⟨z, hz⟩ : ∃ z, M.sz = z := ⟨_, rfl⟩
    obtain ⟨nn, hnn⟩ : ∃ nn, nameB M.n = nn := ⟨_, rfl⟩
    have HNSZ := Aside0.mk (name_size M.n)
    obtain ⟨l0, l6, l7⟩ := HWX.out.cell0
    have hzb := HMX.out.sz
    rw [hz] at he l7 hzb
    rw [hnn] at HFL HNSZ he
    have HZ := Aside0.mk hz
    have HNN := Aside0.mk hnn
    have HEE := Aside0.mk he
    have HWR := Aside0.mk (dk_write (s := nn) (at_ := z) HWD.out.dk HNX.out HNSZ.out (Kd.F_now HFD.out) hc (by omega) (F_notS HFD.out))
    rw [he] at HWR
    clear he hz hnn
    go_wp2_with fail
    go_region_held3 (fun w' => w'.cell? ⟨L, 0, none⟩ = some (.pointer (some ⟨g, 0, none⟩)) ∧ w'.cell? ⟨L, 7, none⟩ = some (.int .i64 z)) (first | go_keep | exact HC5.out) (first
      | (go_at_call 50; refine HFL.out.mono ?_; rintro e w' ⟨rfl, rfl⟩)
      | (go_at_call 20; refine HWR.out.mono ?_; rintro e5 w5 ⟨rfl, hnx⟩; obtain ⟨S5, hw5, hB5⟩ := HWD.out.dstep hnx; have hc5 := hw5.cell0; rw [HZ.out] at hc5; have HC5 := Aside0.mk (And.intro hc5.1 hc5.2.2); have HW5 := Aside0.mk hw5; have HB5 := Aside0.mk ((Bys.of_below (S := S) (L := L) (below_drew1 (Below.refl W.heap.size W))).trans hB5); clear hnx hw5 hB5 hc5))
    have hz1 : IntKind.i64.wrap (z + (b.length : Int)) = z + b.length := IntWalk.i64_in _ ⟨by omega, by omega⟩
    obtain ⟨o0, o7⟩ := HC5.out
    by_cases he0 : e = 0
    · have t1 : (e == 0) = true := by rw [he0]; rfl
      have t2 : (e != 0) = false := by simp [bne, t1]
      have HE0 := Aside0.mk he0
      obtain ⟨AL, cL, hbL, _⟩ := HW5.out.cells
      have of7 := blk_frozen hbL 7
      clear he0 hbL
      go_wp2_with fail
      go_ret
      obtain ⟨S6, hw6, hB6⟩ := HW5.out.raise (z + b.length)
      refine ⟨?_, S6, Q, ?_, HB5.out.trans hB6, fun _ _ h => h⟩
      · rw [HR.out]; unfold lgPut1; dsimp only; rw [HNN.out, HZ.out, HEE.out, HE0.out]; rfl
      · rw [HR.out]; unfold lgPut1; dsimp only; rw [HNN.out, HZ.out, HEE.out, if_pos HE0.out]; exact hw6.mono (Nat.le_succ _)
    · have t1 : (e == 0) = false := beq_eq_false_iff_ne.mpr he0
      have t2 : (e != 0) = true := by simp [bne, t1]
      have HE0 := Aside0.mk he0
      clear he0
      go_wp2_with fail
      go_ret
      refine ⟨?_, S5, Q, ?_, HB5.out, fun _ _ h => h⟩
      · rw [HR.out]; unfold lgPut1; dsimp only; rw [HNN.out, HZ.out, HEE.out]; rfl
      · rw [HR.out]; unfold lgPut1; dsimp only; rw [HNN.out, HZ.out, HEE.out, if_neg HE0.out]; exact HW5.out.mono (Nat.le_succ _)
end Go.Proofs.Ytmmiipnmimjojaa.PS
end
section
namespace Go.Proofs.Ytmmiipnmimjojaa.PS
open Go.RowKit Go.Proofs.YtmmiipnmimjojaaW.PrintWords Go.Proofs.YtmmiipnmimjojaaW.PrintLast Go.Proofs.YtmmiipnmimjojaaW.PrintMore
attribute [local go_sem] max2_int min2_int max_two min_two max_three min_three max_four min_four   -- for this text's walks alone
set_option linter.unusedVariables false
set_option linter.unusedSimpArgs false

theorem eqA81 (d : Nat) (w : World) (x0 y0 : Int) (x1 y1 : Int) :
    (Op.equalIn (d + 2) 81 (.agg #[.int .i64 x0, .int .i64 x1]) (.agg #[.int .i64 y0, .int .i64 y1])).run Try.prog w = .ok (x0 == y0 && (x1 == y1)) w := by
  refine eqA_of Try.underlying81 (by kernel_rfl) ?_
  refine eqf_cons (by rfl) (by go_simp; rfl) (by go_simp; rfl) (by go_simp) ?_
  exact eqf_last (by rfl) (by go_simp; rfl) (by go_simp; rfl) (by go_simp)
end Go.Proofs.Ytmmiipnmimjojaa.PS
end
section
namespace Go.Proofs.Ytmmiipnmimjojaa.PS
open Go.RowKit Go.Proofs.YtmmiipnmimjojaaW.PrintWords Go.Proofs.YtmmiipnmimjojaaW.PrintLast Go.Proofs.YtmmiipnmimjojaaW.PrintMore
attribute [local go_sem] max2_int min2_int max_two min_two max_three min_three max_four min_four   -- for this text's walks alone
set_option linter.unusedVariables false
set_option linter.unusedSimpArgs false

theorem eqA83 (d : Nat) (w : World) (x0 y0 : Int) (x1 y1 : Int) :
    (Op.equalIn (d + 2) 83 (.agg #[.int .i64 x0, .int .i64 x1]) (.agg #[.int .i64 y0, .int .i64 y1])).run Try.prog w = .ok (x0 == y0 && (x1 == y1)) w := by
  refine eqA_of Try.underlying83 (by kernel_rfl) ?_
  refine eqf_cons (by rfl) (by go_simp; rfl) (by go_simp; rfl) (by go_simp) ?_
  exact eqf_last (by rfl) (by go_simp; rfl) (by go_simp; rfl) (by go_simp)
end Go.Proofs.Ytmmiipnmimjojaa.PS
end
