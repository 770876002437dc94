/- The texts of this claim's seat, joined: part 15. -/
import Derived.Test.YtmmiipnmimjojaaJ14
section
namespace Go.Proofs.Ytmmiipnmimjojaa.PS
open Go.RowKit Go.Proofs.YtmmiipnmimjojaaW.PrintWords Go.Proofs.YtmmiipnmimjojaaW.PrintLast Go.Proofs.YtmmiipnmimjojaaW.PrintMore
open Go.Maps Go.Proofs.Ytmmiipnmimjojaa.PD
set_option linter.unusedVariables false
set_option linter.unusedSimpArgs false
def tmpB : ByteArray := ⟨#[119, 97, 108, 46, 116, 109, 112]⟩
/-- What a log keeps: its file's number, its size, what its records say. -/
structure LM where
  n : Int
  sz : Int
  st : WS
/-- A log that is written anew. -/
def dAnew (D : Dsk) (n : Int) (s : WS) : Int × Dsk :=
  if (dWrite D tmpB 0 s.bytes).1 = 0 then
    (0, if 0 < n then (dRemove (dRename (dSync (dWrite D tmpB 0 s.bytes).2 tmpB).2 tmpB (nameB (n + 1))).2 (nameB n)).2 else (dRename (dSync (dWrite D tmpB 0 s.bytes).2 tmpB).2 tmpB (nameB (n + 1))).2)
  else ((dWrite D tmpB 0 s.bytes).1, (dRemove (dWrite D tmpB 0 s.bytes).2 tmpB).2)
/-- The log behind it. -/
def mAnew (D : Dsk) (M : LM) (s : WS) : LM := if (dWrite D tmpB 0 s.bytes).1 = 0 then ⟨M.n + 1, s.bytes.length, s⟩ else M
def lgAnew (D : Dsk) (M : LM) (s : WS) : Int × Dsk × LM := ((dAnew D M.n s).1, (dAnew D M.n s).2, mAnew D M s)
/-- Bytes behind the file's. -/
def lgPut1 (D : Dsk) (M : LM) (b : List Int) : Int × Dsk × LM :=
  ((dWrite D (nameB M.n) M.sz b).1, (dWrite D (nameB M.n) M.sz b).2, if (dWrite D (nameB M.n) M.sz b).1 = 0 then { M with sz := M.sz + b.length } else M)
def lgPut (D : Dsk) (M : LM) (b : List Int) : Int × Dsk × LM :=
  if 262144 < M.sz + b.length then
    if (lgAnew D M M.st).1 = 0 then lgPut1 (lgAnew D M M.st).2.1 (lgAnew D M M.st).2.2 b else lgAnew D M M.st
  else lgPut1 D M b
/-- The first entry's error. -/
def entsErr : List S48 → Int
  | [] => 0
  | x :: es => if entErr x.f0 x.f1 x.f2 x.f3 = 0 then entsErr es else entErr x.f0 x.f1 x.f2 x.f3
/-- Do they go on one by one? -/
def rowOk : S48 → List S48 → Prop
  | _, [] => True
  | x, y :: es => y.f2 = x.f2 + 1 ∧ rowOk y es
instance rowDec : ∀ (x : S48) (es : List S48), Decidable (rowOk x es)
  | _, [] => .isTrue trivial
  | x, y :: es => by unfold rowOk; have := rowDec y es; infer_instance
def WS.adds (s : WS) (es : List S48) : WS := es.foldl WS.add s
def WS.last (s : WS) : Int := s.bi + s.es.length
/-- May entries be added? -/
def fitsOk (s : WS) : List S48 → Prop
  | [] => True
  | x :: es => (s.bi < x.f2 ∧ x.f2 ≤ s.last + 1) ∧ rowOk x es
instance (s : WS) : (es : List S48) → Decidable (fitsOk s es)
  | [] => .isTrue trivial
  | x :: es => by unfold fitsOk; infer_instance
def lgAppend (D : Dsk) (M : LM) (es : List S48) : Int × Dsk × LM :=
  if entsErr es ≠ 0 then (entsErr es, D, M) else
    if ¬ fitsOk M.st es then (2, D, M) else
      if es = [] then (0, D, M) else
        if (lgPut D M (recsB (es.map .ent))).1 = 0 then (0, (lgPut D M (recsB (es.map .ent))).2.1, { (lgPut D M (recsB (es.map .ent))).2.2 with st := M.st.adds es })
        else lgPut D M (recsB (es.map .ent))
def lgHard (D : Dsk) (M : LM) (t v : Int) : Int × Dsk × LM :=
  if hardErr t v ≠ 0 then (hardErr t v, D, M) else
    if t = M.st.ht ∧ v = M.st.hv then (0, D, M) else
      if (lgPut D M (recsB [.hard t v])).1 = 0 then (0, (lgPut D M (recsB [.hard t v])).2.1, { (lgPut D M (recsB [.hard t v])).2.2 with st := { M.st with ht := t, hv := v } })
      else lgPut D M (recsB [.hard t v])
/-- Entries from an index to another one. -/
def WS.from_ (s : WS) (a b : Int) : List S48 :=
  if min b s.last < max a (s.bi + 1) then [] else (s.es.take (min b s.last - s.bi).toNat).drop (max a (s.bi + 1) - s.bi - 1).toNat
end Go.Proofs.Ytmmiipnmimjojaa.PS
end
section
namespace Go.Proofs.Ytmmiipnmimjojaa.PS
open Go.RowKit Go.Proofs.YtmmiipnmimjojaaW.PrintWords Go.Proofs.YtmmiipnmimjojaaW.PrintLast Go.Proofs.YtmmiipnmimjojaaW.PrintMore
open Go.Maps Go.Proofs.Ytmmiipnmimjojaa.PD
set_option linter.unusedVariables false
set_option linter.unusedSimpArgs false
theorem info48 : (Try.prog.info? 48).map (fun i => (i.zero, i.size, i.bytes)) = some (some (.agg #[.int .i64 0, .int .i64 0, .int .i64 0, .slice none 0 0]), 4, 48) := by kernel_rfl
theorem eql51 (w : World) (a : Option Addr) (n c : Nat) : (binOp .eql 51 (.slice a n c) (.slice none 0 0)).run Try.prog w = .ok (.bool a.isNone) w := Lib.run_eql_slice_nil w 51 48 a n c 0 0 Try.underlying51
/-- Blocks of P, and what is new since w. -/
def Pn (w : World) (P : Nat → Prop) (k : Nat) : Prop := (P k ∧ k < w.heap.size) ∨ w.heap.size ≤ k
set_option maxRecDepth 100000 in
/-- slices.Clone of entries. -/
theorem cloneE (A : Option Addr) (c : Nat) (l : List S48) (w : World) {P : Nat → Prop} (hr : Kd.F k48 w P A l.length l) (hl : l.length ≤ 1000000000) :
    Calls Try.prog 92 #[.slice A l.length c] w fun e w' => ∃ v1, e = .returned v1 ∧ Kd.N k48 48 w' w.heap.size (Pn w P) v1 l ∧ Below w.heap.size w w' := by
  have HR := Aside0.mk (Kd.F_bound hr)
  clear hr
  have hE := eql51
  cases A with
  | none =>
    have hz : l = [] := nil_of_C (Kd.F_now HR.out)
    subst hz
    go_enter Try.func92, Try.ntmps92
    go_wp2
    go_ret
    exact ⟨_, rfl, Kd.N_nil _ _ _ _ _, Below.refl _ _⟩
  | some a =>
    go_enter Try.func92, Try.ntmps92
    go_wp2_with (first
      | ((with_reducible refine gate_dst (N := 5) rfl ?_); refine Kd.R_lit k48 (w0 := w) w.heap.size 48 ?hg (N := 5) ?hd (xs := ([] : List S48)) (inner := []) (ok := Pn w P) (okp := Pn w P) ?hr ?hp (fun _ hk => hk) (.inr (Nat.le_refl _)) (Below.refl _ _) (Nat.le_refl _) (by simp) ?_; (case hd => rfl); (case hg => rfl); (case hr => first | (go_simp; done) | (go_simp; rfl)); (case hp => exact (Reps.none _ _)); intro v0 w0 ho hb hg_ hnew_; clear hg_ hnew_; have HO := Aside0.mk ho; have HB := Aside0.mk hb; clear ho hb)
      | (at_builtin; refine Kd.N_append_rows k48 (w0 := w) w.heap.size (by rfl) (.tmp 5) (.tmp 6) 51 48 _ 48 (by rfl) Try.underlying51 info48 (by rfl) (by decide) (by decide) _ [] l (some a) l.length c (Pn w P) (fun k => P k ∧ k < w.heap.size) (by rfl) (by rfl) (Kd.R_N HO.out) (Kd.F_below HR.out HB.out) (fun k hk => ⟨.inl hk, fun e => by have := Kd.R_base HO.out k e.symm; omega⟩) (fun k hk => .inr (Nat.le_trans HB.out.size hk)) HB.out HB.out.size (by rw [List.length_nil, Nat.zero_add]; omega) ?_; intro v1 w1 hR hb1 hg hat; have HO1 := Aside0.mk hR; have HB1 := Aside0.mk hb1; clear hR hb1 hg hat)
      | go_in)
    go_ret
    exact ⟨_, rfl, HO1.out, HB1.out⟩
end Go.Proofs.Ytmmiipnmimjojaa.PS
end
section
namespace Go.Proofs.Ytmmiipnmimjojaa.PS
open Go.RowKit Go.Proofs.YtmmiipnmimjojaaW.PrintWords Go.Proofs.YtmmiipnmimjojaaW.PrintLast Go.Proofs.YtmmiipnmimjojaaW.PrintMore
open Go.Maps Go.Proofs.Ytmmiipnmimjojaa.PD
set_option linter.unusedVariables false
set_option linter.unusedSimpArgs false
/-- Entries whose first i ones have bytes of their own. -/
def CpR (W w : World) (v : Value) (l : List S48) (i : Int) : Prop :=
  ∃ rows : List (List Value), rows.length = l.length ∧ (Kd.raw 4).R 48 w W.heap.size (fun k => some k = v.ownBlock) v rows ∧
    (∀ (j : Nat) (x : S48) (c : List Value), l[j]? = some x → rows[j]? = some c → Kd.FK k48 w (fun k => ((j : Int) < i → W.heap.size ≤ k) ∧ some k ≠ v.ownBlock) x c) ∧ Below W.heap.size W w
section
variable {W w w1 : World} {v : Value} {l : List S48} {i : Int} {P : Nat → Prop}
theorem CpR.start (h : Kd.N k48 48 w W.heap.size P v l) (hb : Below W.heap.size W w) : CpR W w v l 0 := by
  obtain ⟨h0, rows, hl, hR, hf⟩ := h
  exact ⟨rows, hl, hR, fun j x c hx hc => Kd.FK_mono (hf j x c hx hc) (fun k hk => ⟨fun h => absurd h (by omega), hk.2⟩), hb⟩
theorem CpR.done (h : CpR W w v l l.length) : Kd.N k48 48 w W.heap.size (fun k => W.heap.size ≤ k) v l ∧ Below W.heap.size W w := by
  obtain ⟨rows, hl, hR, hf, hb⟩ := h
  exact ⟨⟨fun k hk => Kd.R_base hR k hk, rows, hl, hR, fun j x c hx hc => Kd.FK_mono (hf j x c hx hc) (fun k hk => ⟨hk.1 (by have := (List.getElem?_eq_some_iff.1 hx).1; omega), hk.2⟩)⟩, hb⟩
theorem rd48_at {l : List S48} {i : Int} (h0 : 0 ≤ i) (h1 : i < l.length) : l[i.toNat]? = some (rd_T48 l i) := by
  unfold rd_T48
  rw [List.getD_eq_getElem?_getD, List.getElem?_eq_getElem (by omega)]
  rfl
theorem CpR.at (h : CpR W w v l i) (h0 : 0 ≤ i) (h1 : i < l.length) : ∃ g cap A3 c3, v = .slice (some ⟨g, 0, none⟩) l.length cap ∧ W.heap.size ≤ g ∧ w.cell? ⟨g, i.toNat * 4 + 3, none⟩ = some (.slice A3 (rd_T48 l i).f3.length c3) ∧ w.frozen? ⟨g, i.toNat * 4 + 3, none⟩ = false ∧
    (rd_T48 l i).f3.length ≤ c3 ∧ k8.C w A3 (rd_T48 l i).f3.length (rd_T48 l i).f3 := by
  obtain ⟨rows, hl, hR, hf, hb⟩ := h
  obtain ⟨g, cap, rfl, hg, _⟩ := Kd.R_form hR (by omega)
  rw [hl] at hR ⊢
  obtain ⟨c, hcl, hM, hcc, hfr⟩ := Kd.R_elem hR [] i h0 h1
  have hc : rows[i.toNat]? = some c := by
    have h2 := hM.1
    rw [List.getD_eq_getElem?_getD, List.getElem?_eq_getElem (by omega)] at h2
    rw [List.getElem?_eq_getElem (by omega)]
    exact congrArg some h2.symm
  obtain ⟨A3, c3, rfl, hl3, hF⟩ := k48_openF (hf _ _ _ (rd48_at h0 h1) hc)
  exact ⟨g, cap, A3, c3, rfl, hg, hcc 3 _ rfl, hfr 3, hl3, Kd.F_now hF⟩
theorem CpR.step {g cap : Nat} {v3 : Value} (h : CpR W w (.slice (some ⟨g, 0, none⟩) l.length cap) l i) (h0 : 0 ≤ i) (h1 : i < l.length) (hb : Below w.heap.size w w1) (hr : k8.R 5 w1 w.heap.size (fun _ => True) v3 (rd_T48 l i).f3) :
    CpR W (w1.setCell ⟨g, i.toNat * 4 + 3, none⟩ v3) (.slice (some ⟨g, 0, none⟩) l.length cap) l (i + 1) := by
  obtain ⟨rows, hl, hR, hf, hB⟩ := h
  have hgo : (Value.slice (some ⟨g, 0, none⟩) l.length cap).ownBlock = some g := by simp [Value.ownBlock]
  have hglt : g < w.heap.size := Kd.R_lt hR g hgo
  have hgb : W.heap.size ≤ g := Kd.R_base hR g hgo
  have hws := hB.size
  have hR1 := Kd.R_below hR hb
  obtain ⟨c, hcl, hM, hcc, hfr⟩ := Kd.R_elem hR1 [] i h0 h1
  have hc : rows[i.toNat]? = some c := by
    have h2 := hM.1
    rw [List.getD_eq_getElem?_getD, List.getElem?_eq_getElem (by omega)] at h2
    rw [List.getElem?_eq_getElem (by omega)]
    exact congrArg some h2.symm
  obtain ⟨A3, c3, rfl, hl3, _⟩ := k48_openF (hf _ _ _ (rd48_at h0 h1) hc)
  obtain ⟨A4, c4, rfl⟩ := Kd.R_slice hr
  have hlo : (rd_T48 l i).f3.length ≤ c4 := (Kd.R_reads' hr).2.1
  obtain ⟨h2, h3⟩ := Kd.R_seg (Kd.raw_any hR1) i h0 h1 (c := [.int .i64 (rd_T48 l i).f0, .int .i64 (rd_T48 l i).f1, .int .i64 (rd_T48 l i).f2, .slice A3 (rd_T48 l i).f3.length c3]) (seg := [.slice A4 (rd_T48 l i).f3.length c4]) (j := 3) (x' := [.int .i64 (rd_T48 l i).f0, .int .i64 (rd_T48 l i).f1, .int .i64 (rd_T48 l i).f2, .slice A4 (rd_T48 l i).f3.length c4]) (okp := fun _ => False) rfl hcc (by show 3 + 1 ≤ 4; omega) ⟨rfl, rfl, fun u hu => by
    simp at hu; rcases hu with rfl | rfl | rfl | rfl <;> rfl⟩ (fun _ hk => hk.elim)
  have hset : w1.setCells g (i.toNat * 4 + 3) [.slice A4 (rd_T48 l i).f3.length c4] = w1.setCell ⟨g, i.toNat * 4 + 3, none⟩ (.slice A4 (rd_T48 l i).f3.length c4) := rfl
  have h2' : (Kd.raw 4).R 48 (w1.setCell ⟨g, i.toNat * 4 + 3, none⟩ (.slice A4 (rd_T48 l i).f3.length c4)) W.heap.size (fun _ => True) (.slice (some ⟨g, 0, none⟩) l.length cap) _ := h2
  refine ⟨_, by rw [List.length_set, hl], Kd.raw_tight h2', fun j x c hx hc' => ?_, (below_step hB hb).setCell (p := ⟨g, i.toNat * 4 + 3, none⟩) hgb _⟩
  have hF3 : Kd.F k8 (w1.setCell ⟨g, i.toNat * 4 + 3, none⟩ (.slice A4 (rd_T48 l i).f3.length c4)) (fun k => w.heap.size ≤ k) A4 (rd_T48 l i).f3.length (rd_T48 l i).f3 :=
    Kd.F_far (Kd.R_F (Kd.R_mono (Kd.R_bound hr) (ok' := fun k => w.heap.size ≤ k) (fun k hk => hk.2.1))) (fun k hk => by show k ≠ g; omega) _
  by_cases hji : j = i.toNat
  · subst hji
    rw [rd48_at h0 h1] at hx
    injection hx with hx
    subst hx
    rw [List.getElem?_set_self (by omega)] at hc'
    injection hc' with hc'
    subst hc'
    exact Kd.FK_mono (k48_mkF _ _ _ hlo hF3) (fun k hk => ⟨fun _ => by omega, fun e => by rw [hgo] at e; injection e; omega⟩)
  · rw [List.getElem?_set_ne (Ne.symm hji)] at hc'
    refine Kd.FK_mono (ok := fun k => ((j : Int) < i → W.heap.size ≤ k) ∧ some k ≠ (Value.slice (some ⟨g, 0, none⟩) l.length cap).ownBlock) (Kd.FK_step (Kd.FK_below (hf j x c hx hc') hb) (fun k hk hlt => Below.heap_setCell w1 _ _ k (fun e => hk.2 (by rw [hgo]; exact congrArg some e)))) (fun k hk => ⟨fun h => hk.1 (by omega), hk.2⟩)
end
set_option maxHeartbeats 2000000 in
set_option maxRecDepth 100000 in
theorem copied_calls {W : World} {A : Option Addr} {c : Nat} {l : List S48} {P : Nat → Prop} (hr : Kd.F k48 W P A l.length l) (hl : l.length ≤ 1000000000) (hd : ∀ x ∈ l, x.f3.length ≤ 1000000) :
    Calls Try.prog 73 #[.slice A l.length c] W fun e w' => ∃ v1, e = .returned v1 ∧ Kd.N k48 48 w' W.heap.size (fun k => W.heap.size ≤ k) v1 l ∧ Below W.heap.size W w' := by
  have HC := Aside0.mk (cloneE A c l W hr hl)
  have HD := Aside0.mk (show ∀ i : Int, 0 ≤ i → i < l.length → (rd_T48 l i).f3.length ≤ 140737488355328 from fun i h0 h1 => Nat.le_trans (hd _ (List.mem_of_getElem? (rd48_at h0 h1))) (by omega))
  clear hr hd
  go_enter Try.func73, Try.ntmps73
  go_wp2_with fail
  refine HC.out.mono ?_
  rintro e w1 ⟨v, rfl, hN, hb⟩
  have HR := Aside0.mk (CpR.start hN hb)
  obtain ⟨A1, c1, rfl⟩ := Kd.N_slice hN
  clear hN hb
  go_wp2_with fail
  go_loopg [9] l.length (fun kq v9 w' => ∃ i : Int, v9 = .int .i64 i ∧ 0 ≤ i ∧ i + kq = l.length ∧ Aside0 (CpR W w' (.slice A1 l.length c1) l i))
  case atStart => exact ⟨0, rfl, by omega, by omega, HR⟩
  case round =>
    obtain ⟨i, rfl, i0, i1, HRi⟩ := hrel
    by_cases hi : i < (l.length : Int)
    · have c6 : decide (i < (l.length : Int)) = true := decide_eq_true hi
      obtain ⟨g, cap, A3, c3, hv, hg, hcell, hfr, hl3, hC3⟩ := HRi.out.at i0 hi
      injection hv with ha _ hcap
      subst ha
      subst hcap
      have hdl := HD.out i i0 hi
      have HRi2 := Aside0.mk HRi.out
      obtain ⟨x, hx⟩ : ∃ x, rd_T48 l i = x := ⟨_, rfl⟩
      have HX := Aside0.mk hx
      rw [hx] at hcell hl3 hC3 hdl
      have HC3 := Aside0.mk hC3
      have HG := Aside0.mk hg
      have p0 := eq_true i0
      have p1 := eq_true hi
      have hni : IntKind.i64.wrap (i + 1) = i + 1 := IntWalk.i64_in _ ⟨by omega, by omega⟩
      clear hC3 hx hg HRi
      go_wp2_with fail
      refine (clone8 A3 c3 x.f3 _ HC3.out hdl).mono ?_
      rintro e w2 ⟨v3, rfl, hr3, hb3⟩
      obtain ⟨A4, c4, rfl⟩ := Kd.R_slice hr3
      have hglt := World.block_lt_of_cell? _ _ hcell
      have hcell2 := (hb3.cell hglt).trans hcell
      have hfr2 := (hb3.frozen hglt).trans hfr
      have HS := Aside0.mk (HRi2.out.step i0 hi hb3 (by rw [HX.out]; exact hr3))
      clear hr3 hb3 hcell hfr hglt
      go_wp2_with fail
      go_roundg (gk - 1)
      case measure => omega
      case rel => exact ⟨i + 1, rfl, by omega, by omega, HS⟩
    · have c6 : decide (i < (l.length : Int)) = false := decide_eq_false hi
      have he : i = l.length := by omega
      have HF := Aside0.mk (CpR.done (he ▸ HRi.out))
      clear he
      go_wp2_with fail
      go_ret
      exact ⟨_, rfl, HF.out.1, HF.out.2⟩
end Go.Proofs.Ytmmiipnmimjojaa.PS
end
section
namespace Go.Proofs.Ytmmiipnmimjojaa.PS
open Go.RowKit Go.Proofs.YtmmiipnmimjojaaW.PrintWords Go.Proofs.YtmmiipnmimjojaaW.PrintLast Go.Proofs.YtmmiipnmimjojaaW.PrintMore
open Go.Maps Go.Proofs.Ytmmiipnmimjojaa.PD
set_option linter.unusedVariables false
set_option linter.unusedSimpArgs false
theorem recsB_snoc (a : List Rc) (r : Rc) : recsB (a ++ [r]) = recsB a ++ frameB r.enc := by rw [recsB_append, recsB_one]
theorem grown_apart {α : Type} {d : Kd α} {e base b t : Nat} {ok : Nat → Prop} {w w1 : World} {v : Value} {xs : List α} {cs : Array Value} (hR : d.R e w base ok v xs) (hg : w.grownBy w1 v.ownBlock) (hb : w.heap[b]? = some (.cells cs t (0, 0))) (ht : t ≠ e) : w1.heap[b]? = some (.cells cs t (0, 0)) :=
  (hg.block b (blk_lt hb) (fun he => by
    obtain ⟨cs', h'⟩ := Kd.R_typed hR b he.symm
    rw [hb] at h'
    injection h' with h'
    injection h' with _ h' _
    exact ht h')).trans hb
set_option maxHeartbeats 4000000 in
set_option maxRecDepth 100000 in
theorem bytes_calls {W : World} {A : Option Addr} {c : Nat} {bi bt ht hv : Int} {es : List S48} (hr : k48.C W A es.length es) (hc : es.length ≤ c) (ok : WOk ⟨bi, bt, ht, hv, es⟩) (hl : es.length ≤ 1000000) :
    Calls Try.prog 98 #[.agg #[.int .i64 bi, .int .i64 bt, .int .i64 ht, .int .i64 hv, .slice A es.length c]] W fun e w' => ∃ v1, e = .returned v1 ∧ k8.R 5 w' W.heap.size (fun _ => True) v1 (WS.bytes ⟨bi, bt, ht, hv, es⟩) ∧ Below W.heap.size W w' := by
  have HOK := Aside0.mk ok
  have HC := Aside0.mk hr
  obtain ⟨w1, hw1⟩ : ∃ w1, w1 = W.alloc (.cells #[.int .i64 bi, .int .i64 bt, .int .i64 ht, .int .i64 hv, .slice A es.length c] 124) := ⟨_, rfl⟩
  have hb1 : Below W.heap.size W w1 := by rw [hw1]; exact below_alloc (Below.refl _ _) _
  have hbk : w1.heap[W.heap.size]? = some (.cells #[.int .i64 bi, .int .i64 bt, .int .i64 ht, .int .i64 hv, .slice A es.length c] 124 (0, 0)) := by rw [hw1]; exact blk_new W _
  have m0 : w1.cell? ⟨W.heap.size, 0, none⟩ = some (.int .i64 bi) := blk_cell hbk 0
  have m1 : w1.cell? ⟨W.heap.size, 1, none⟩ = some (.int .i64 bt) := blk_cell hbk 1
  have m2 : w1.cell? ⟨W.heap.size, 2, none⟩ = some (.int .i64 ht) := blk_cell hbk 2
  have m3 : w1.cell? ⟨W.heap.size, 3, none⟩ = some (.int .i64 hv) := blk_cell hbk 3
  have m4 : w1.cell? ⟨W.heap.size, 4, none⟩ = some (.slice A es.length c) := blk_cell hbk 4
  have HB1 := Aside0.mk hb1
  have HBK := Aside0.mk hbk
  have hh : (0 ≤ ht ∧ ht ≤ 1099511627776) ∧ 0 ≤ hv ∧ hv ≤ 9 := hard_ok ok.hard
  have hmk : (0 ≤ bi ∧ bi ≤ 1099511627776) ∧ 0 ≤ bt ∧ bt ≤ 1099511627776 := ok.mark
  have HH := Aside0.mk hh
  have HMK := Aside0.mk hmk
  obtain ⟨X1, hX1⟩ : ∃ X, enc ht ++ enc hv = X := ⟨_, rfl⟩
  have HX1 := Aside0.mk hX1
  have hXl : X1.length ≤ 100 := by rw [← hX1, List.length_append]; have l1 := enc_len hh.1.1 hh.1.2; have l2 := enc_len hh.2.1 (by omega); omega
  have HP := Aside0.mk (wire_PutHard.calls 20 ht hv X1 0 w1 (by rw [PutHard_f (by omega), if_pos ok.hard, hX1]))
  clear hr ok hb1 hbk hh hX1 hmk
  go_enter Try.func98, Try.ntmps98
  go_upto_region 1 with (fail)
  rw [← hw1]
  clear hw1
  go_wp2_with fail
  refine HP.out.mono ?_
  rintro e w2 ⟨v2, rfl, hR2, hB2⟩
  have HB2 := Aside0.mk (below_step HB1.out hB2)
  have HK2 := Aside0.mk ((hB2.block _ (blk_lt HBK.out)).trans HBK.out)
  have HR2 := Aside0.mk (Kd.R_lower hR2 HB1.out.size)
  have n0 : w2.cell? ⟨W.heap.size, 0, none⟩ = some (.int .i64 bi) := blk_cell HK2.out 0
  have n1 : w2.cell? ⟨W.heap.size, 1, none⟩ = some (.int .i64 bt) := blk_cell HK2.out 1
  have n4 : w2.cell? ⟨W.heap.size, 4, none⟩ = some (.slice A es.length c) := blk_cell HK2.out 4
  obtain ⟨A2, c2, rfl⟩ := Kd.R_slice HR2.out
  clear hR2 hB2 m0 m1 m2 m3 m4
  go_wp2_with fail
  refine (mark_calls HMK.out.1 HMK.out.2).mono ?_
  rintro e w3 ⟨v3, rfl, hR3, hB3⟩
  have HB3 := Aside0.mk (below_step HB2.out hB3)
  have HR3 := Aside0.mk (Kd.R_lower hR3 HB2.out.size)
  have HC2 := Aside0.mk (Kd.R_reads' (Kd.R_below HR2.out hB3)).2.2
  have hc2 := (Kd.R_reads' HR2.out).2.1
  have n4' : w3.cell? ⟨W.heap.size, 4, none⟩ = some (.slice A es.length c) := blk_cell ((hB3.block _ (blk_lt HK2.out)).trans HK2.out) 4
  have HK3 := Aside0.mk ((hB3.block _ (blk_lt HK2.out)).trans HK2.out)
  obtain ⟨Y3, hY3⟩ : ∃ Y, frameB (1 :: (enc bi ++ enc bt)) = Y := ⟨_, rfl⟩
  have HY3 := Aside0.mk hY3
  rw [hY3] at HR3
  obtain ⟨A3, c3, rfl⟩ := Kd.R_slice HR3.out
  clear hR3 hB3 n0 n1 n4 hY3
  go_wp2_with fail
  refine (record_calls 2 HC2.out hc2 (by omega)).mono ?_
  rintro e w4 ⟨v4, rfl, hR4, hB4⟩
  have HB4 := Aside0.mk (below_step HB3.out hB4)
  have HR4 := Aside0.mk (Kd.R_below HR3.out hB4)
  have HK4 := Aside0.mk ((hB4.block _ (blk_lt HK3.out)).trans HK3.out)
  obtain ⟨Y4, hY4⟩ : ∃ Y, frameB (2 :: X1) = Y := ⟨_, rfl⟩
  rw [hY4] at hR4
  have HY4 := Aside0.mk hY4
  obtain ⟨A4, c4, rfl⟩ := Kd.R_slice hR4
  have HC4 := Aside0.mk (Kd.R_reads' hR4).2.2
  have n4 : w4.cell? ⟨W.heap.size, 4, none⟩ = some (.slice A es.length c) := blk_cell HK4.out 4
  have hl3 : Y3.length ≤ 3000 := by
    rw [← HY3.out, frameB_len]
    have l1 := enc_len HMK.out.1.1 HMK.out.1.2
    have l2 := enc_len HMK.out.2.1 HMK.out.2.2
    simp only [List.length_cons, List.length_append]; omega
  have hl4 : Y4.length ≤ 3000 := by rw [← HY4.out, frameB_len, List.length_cons]; omega
  clear hR4 hB4 n4' hY4 hc2
  go_wp2_with (first
    | ((with_reducible refine gate_builtin (b := .append) (xs := #[.tmp 18, .tmp 20]) rfl ?_); at_builtin; refine Kd.R_append_rows k8 (w0 := W) W.heap.size (by rfl) (.tmp 18) (.tmp 20) 22 5 (.int .u8 0) 1 (by rfl) Try.underlying22 info5 (by rfl) (by decide) (by decide) _ Y3 Y4 A4 Y4.length c4 (fun _ => True) (fun _ => False) (by rfl) (by rfl) HR4.out HC4.out (fun _ _ h => h) (fun _ h => h.elim) (fun _ _ => trivial) HB4.out HB4.out.size (by omega) ?_; intro v5 w5 hR hb5 hg hat; obtain ⟨X5, hX5⟩ : ∃ X, Y3 ++ Y4 = X := ⟨_, rfl⟩; rw [hX5] at hR; have HX5 := Aside0.mk hX5; clear hX5; obtain ⟨A5, c5, rfl⟩ := Kd.R_slice hR; have HO5 := Aside0.mk hR; have HB5 := Aside0.mk hb5; have HK5 := Aside0.mk (grown_apart HR4.out hg HK4.out (by decide)); have n5 : w5.cell? ⟨W.heap.size, 4, none⟩ = some (.slice A es.length c) := blk_cell HK5.out 4; clear hR hb5 hg hat n4)
    | fail)
  have hl5 : X5.length ≤ 6000 := by rw [← HX5.out, List.length_append]; omega
  have HCL := Aside0.mk (Kd.C_below HC.out HB5.out)
  have HHD := Aside0.mk (show X5 = recsB [.mark bi bt, .hard ht hv] by rw [← HX5.out, ← HY3.out, ← HY4.out, ← HX1.out]; exact congrArg _ (List.append_nil _).symm)
  clear n5
  go_loopg [5, 25] es.length (fun kq v5 v25 w' => ∃ (i : Int) (X : List Int), v25 = .int .i64 i ∧ 0 ≤ i ∧ i + kq = es.length ∧ X.length ≤ 6000 + 3000 * i.toNat ∧ Aside0 (X = recsB ([.mark bi bt, .hard ht hv] ++ (es.take i.toNat).map .ent)) ∧ Aside0 (k8.R 5 w' W.heap.size (fun _ => True) v5 X) ∧ Aside0 (Below W.heap.size W w'))
  case atStart => exact ⟨0, X5, rfl, by omega, by omega, by omega, HHD, HO5, HB5⟩
  case round =>
    clear HO5 HB5 HHD hl5
    obtain ⟨i, X, rfl, i0, i1, hlX, HX, HR, HB⟩ := hrel
    by_cases hi : i < (es.length : Int)
    · have c6 : decide (i < (es.length : Int)) = true := decide_eq_true hi
      obtain ⟨ad, A6, c6', rfl, y0, y1, y2, y3, hc6, hC6⟩ := at_T48 (Kd.C_below HC.out HB.out) i i0 hi
      have heok : EOk (rd_T48 es i) := HOK.out.ent _ (List.mem_of_getElem? (rd48_at i0 hi))
      have htk : es.take (i + 1).toNat = es.take i.toNat ++ [rd_T48 es i] := by
        rw [show (i + 1).toNat = i.toNat + 1 by omega, List.take_add_one, rd48_at i0 hi]; rfl
      obtain ⟨x, hx⟩ : ∃ x, rd_T48 es i = x := ⟨_, rfl⟩
      rw [hx] at y0 y1 y2 y3 hc6 hC6 heok htk
      have HEO := Aside0.mk heok
      have HTK := Aside0.mk htk
      have HC6 := Aside0.mk hC6
      obtain ⟨Z, hZ⟩ : ∃ Z, entBytes x.f0 x.f1 x.f2 x.f3 = Z := ⟨_, rfl⟩
      have hzl : Z.length ≤ 2067 := by rw [← hZ]; exact (entBytes_len (ent_bad heok).1 (ent_bad heok).2).2
      have HZ := Aside0.mk hZ
      have p0 := eq_true i0
      have p1 := eq_true hi
      have hni : IntKind.i64.wrap (i + 1) = i + 1 := IntWalk.i64_in _ ⟨by omega, by omega⟩
      obtain ⟨Av, cv, rfl⟩ := Kd.R_slice HR.out
      clear heok htk hC6 hx hZ
      go_wp2_with fail
      refine (wire_PutEntry.calls 20 _ _ _ A6 c6' x.f3 Z 0 _ (Kd.C_below HC6.out (below_alloc (Below.refl _ _) _)) hc6 (by rw [PutEntry_f (by omega), if_pos HEO.out.1, HZ.out])).mono ?_
      rintro e w6 ⟨v6, rfl, hR6, hB6⟩
      have hB6' := below_step (below_alloc (Below.refl wr.heap.size wr) _) hB6
      have HB6 := Aside0.mk (below_step HB.out hB6')
      have HR6 := Aside0.mk (Kd.R_below HR.out hB6')
      obtain ⟨A7, c7, rfl⟩ := Kd.R_slice hR6
      have HC7 := Aside0.mk (Kd.R_reads' hR6).2.2
      have hc7 := (Kd.R_reads' hR6).2.1
      clear hR6 hB6 hB6' y0 y1 y2 y3 HR HB
      go_wp2_with fail
      refine (record_calls 3 HC7.out hc7 (by omega)).mono ?_
      rintro e w7 ⟨v7, rfl, hR7, hB7⟩
      have HB7 := Aside0.mk (below_step HB6.out hB7)
      have HR7 := Aside0.mk (Kd.R_below HR6.out hB7)
      obtain ⟨F7, hF7⟩ : ∃ F, frameB (3 :: Z) = F := ⟨_, rfl⟩
      have hlf : F7.length ≤ 3000 := by rw [← hF7, frameB_len, List.length_cons]; omega
      rw [hF7] at hR7
      have HF7 := Aside0.mk hF7
      obtain ⟨A8, c8, rfl⟩ := Kd.R_slice hR7
      have HC8 := Aside0.mk (Kd.R_reads' hR7).2.2
      clear hR7 hB7 hF7 hc7
      go_wp2_with (first
        | ((with_reducible refine gate_builtin (b := .append) (xs := #[.tmp 34, .tmp 36]) rfl ?_); at_builtin; refine Kd.R_append_rows k8 (w0 := W) W.heap.size (by rfl) (.tmp 34) (.tmp 36) 22 5 (.int .u8 0) 1 (by rfl) Try.underlying22 info5 (by rfl) (by decide) (by decide) _ X F7 A8 F7.length c8 (fun _ => True) (fun _ => False) (by rfl) (by rfl) HR7.out HC8.out (fun _ _ h => h) (fun _ h => h.elim) (fun _ _ => trivial) HB7.out HB7.out.size (by omega) ?_; intro v9 w9 hR hb9 hg hat; obtain ⟨X9, hX9⟩ : ∃ Y, X ++ F7 = Y := ⟨_, rfl⟩; rw [hX9] at hR; have HX9 := Aside0.mk hX9; clear hX9; have HO9 := Aside0.mk hR; have HB9 := Aside0.mk hb9; clear hR hb9 hg hat)
        | fail)
      go_roundg (gk - 1)
      case measure => omega
      case rel =>
        refine ⟨i + 1, X9, rfl, by omega, by omega, ?_, ⟨?_⟩, HO9, HB9⟩
        · have := HX9.out; rw [← this, List.length_append]; omega
        · have h1 := HX9.out
          have h2 := HX.out
          rw [← h1, h2, HTK.out, List.map_append, ← List.append_assoc]
          refine (congrArg _ ?_).trans (recsB_snoc _ (.ent x)).symm
          rw [← HF7.out, ← HZ.out]; rfl
    · have c6 : decide (i < (es.length : Int)) = false := decide_eq_false hi
      have he : i.toNat = es.length := by omega
      have HF := Aside0.mk (show X = WS.bytes ⟨bi, bt, ht, hv, es⟩ by rw [HX.out, he, List.take_length]; rfl)
      clear he
      go_wp2_with fail
      go_ret
      exact ⟨_, rfl, HF.out ▸ HR.out, HB.out⟩
end Go.Proofs.Ytmmiipnmimjojaa.PS
end
section
namespace Go.Proofs.Ytmmiipnmimjojaa.PS
open Go.RowKit Go.Proofs.YtmmiipnmimjojaaW.PrintWords Go.Proofs.YtmmiipnmimjojaaW.PrintLast Go.Proofs.YtmmiipnmimjojaaW.PrintMore
open Go.Maps Go.Proofs.Ytmmiipnmimjojaa.PD
set_option linter.unusedVariables false
set_option linter.unusedSimpArgs false
/-- A state's struct lies in block X from place o on. -/
structure StAt (W : World) (X o t : Nat) (cs : Array Value) (bi bt ht hv : Int) (v : Value) : Prop where
  blk : W.heap[X]? = some (.cells cs t (0, 0))
  c0 : cs[o]? = some (.int .i64 bi)
  c1 : cs[o + 1]? = some (.int .i64 bt)
  c2 : cs[o + 2]? = some (.int .i64 ht)
  c3 : cs[o + 3]? = some (.int .i64 hv)
  c4 : cs[o + 4]? = some v
theorem StAt.cell {W : World} {X o t : Nat} {cs : Array Value} {bi bt ht hv : Int} {v : Value} (h : StAt W X o t cs bi bt ht hv v) :
    W.cell? ⟨X, o, none⟩ = some (.int .i64 bi) ∧ W.cell? ⟨X, o + 1, none⟩ = some (.int .i64 bt) ∧ W.cell? ⟨X, o + 2, none⟩ = some (.int .i64 ht) ∧ W.cell? ⟨X, o + 3, none⟩ = some (.int .i64 hv) ∧ W.cell? ⟨X, o + 4, none⟩ = some v :=
  ⟨(blk_cell h.blk o).trans h.c0, (blk_cell h.blk _).trans h.c1, (blk_cell h.blk _).trans h.c2, (blk_cell h.blk _).trans h.c3, (blk_cell h.blk _).trans h.c4⟩
theorem StAt.below {W W1 : World} {X o t : Nat} {cs : Array Value} {bi bt ht hv : Int} {v : Value} (h : StAt W X o t cs bi bt ht hv v) (hb : Below W.heap.size W W1) : StAt W1 X o t cs bi bt ht hv v := ⟨(hb.block _ (blk_lt h.blk)).trans h.blk, h.c0, h.c1, h.c2, h.c3, h.c4⟩
set_option maxHeartbeats 4000000 in
set_option maxRecDepth 100000 in
theorem cloneK (A : Option Addr) (c : Nat) (l : List S48) (n : Nat) (w : World) {P : Nat → Prop} (hn : l.length = n) (hr : Kd.F k48 w P A n l) (hl : n ≤ 1000000000) :
    Calls Try.prog 92 #[.slice A n c] w fun e w' => ∃ v1, e = .returned v1 ∧ Kd.N k48 48 w' w.heap.size (Pn w P) v1 l ∧ Below w.heap.size w w' := by
  subst hn
  exact cloneE A c l w hr hl
theorem Pn.mono {w w1 : World} {P : Nat → Prop} (h : w.heap.size ≤ w1.heap.size) {k : Nat} (hk : Pn w1 P k) : Pn w P k := by
  rcases hk with ⟨hp, hk⟩ | hk
  · by_cases hlt : k < w.heap.size
    · exact .inl ⟨hp, hlt⟩
    · exact .inr (by omega)
  · exact .inr (by omega)
theorem clone_post {w1 Wx wc : World} {P : Nat → Prop} {v1 : Value} {l : List S48} (h : Below w1.heap.size w1 Wx) (hN : Kd.N k48 48 wc Wx.heap.size (Pn Wx P) v1 l) (hb : Below Wx.heap.size Wx wc) :
    Kd.N k48 48 wc w1.heap.size (Pn w1 P) v1 l ∧ Below w1.heap.size w1 wc := ⟨Kd.N_lower (Kd.N_mono hN (fun k hk => hk.mono h.size)) h.size, below_step h hb⟩
theorem lit_at {w1 wc : World} {n : Nat} {o : Obj} (h : Below ((w1.drewN n).alloc o).heap.size ((w1.drewN n).alloc o) wc) : wc.heap[w1.heap.size]? = some o :=
  (h.block _ (by rw [World.size_alloc]; exact Nat.lt_succ_self _)).trans (blk_new (w1.drewN n) o)
theorem lit_size {w1 wc : World} {n : Nat} {o : Obj} (h : Below ((w1.drewN n).alloc o).heap.size ((w1.drewN n).alloc o) wc) : ((w1.drewN n).alloc o).heap.size = w1.heap.size + 1 := World.size_alloc _ _
/-- One element in a block of its own. -/
theorem F_one {W : World} {g : Nat} {x : S48} {Ax : Option Addr} {cx : Nat} {ok : Nat → Prop} (hb : W.heap[g]? = some (.cells #[.int .i64 x.f0, .int .i64 x.f1, .int .i64 x.f2, .slice Ax x.f3.length cx] 48)) (hc : x.f3.length ≤ cx) (hx : Kd.F k8 W ok Ax x.f3.length x.f3) :
    Kd.F k48 W (fun k => ok k ∨ k = g) (some ⟨g, 0, none⟩) 1 [x] := fun W' hW => by
  have hb' := (hW g (.inr rfl) (blk_lt hb)).trans hb
  refine ⟨rfl, by decide, fun _ => ⟨_, rfl, fun j p hj => ?_⟩⟩
  have hj0 : j = 0 := by
    rcases j with _ | j
    · rfl
    · simp at hj
  subst hj0
  simp only [List.getElem?_cons_zero, Option.some.injEq] at hj
  subst hj
  refine ⟨_, rfl, k48_mk W' x hc (hx W' (fun k hk => hW k (.inl hk))), fun i u hu => ?_⟩
  have e : ({ block := g, off := 0 } : Addr).add (0 * k48.sz + i) = ⟨g, i, none⟩ := by
    rw [show 0 * k48.sz + i = i by omega]
    simp [Addr.add]
    exact fun h => h.symm
  rw [e, blk_cell hb' i]
  simpa using hu
theorem add_fin {W w1 w' : World} {X o t : Nat} {cs : Array Value} {bi bt ht hv : Int} {v v2 : Value} {l : List S48} {P : Nat → Prop} (h : StAt w1 X o t cs bi bt ht hv v) (hW : Below W.heap.size W w1) (hXW : X < W.heap.size) (hX : ¬ P X) (hN : Kd.N k48 48 w' w1.heap.size (Pn w1 P) v2 l) (hb : Below w1.heap.size w1 w') :
    StAt (w'.setCell ⟨X, o + 4, none⟩ v2) X o t (cs.setIfInBounds (o + 4) v2) bi bt ht hv v2 ∧ Kd.V k48 48 (w'.setCell ⟨X, o + 4, none⟩ v2) 0 (Pn W P) v2 l ∧ Kp W (w'.setCell ⟨X, o + 4, none⟩ v2) (fun k => k = X) := by
  have hlt := h.c4
  have hbk := (hb.block X (blk_lt h.blk)).trans h.blk
  have hws := hW.size
  have ho4 : o + 4 < cs.size := by
    rcases Nat.lt_or_ge (o + 4) cs.size with h1 | h1
    · exact h1
    · rw [Array.getElem?_eq_none h1] at hlt; cases hlt
  obtain ⟨A2, c2, rfl⟩ := Kd.N_slice hN
  refine ⟨⟨blk_set hbk _ _, ?_, ?_, ?_, ?_, ?_⟩, ⟨A2, c2, rfl, (Kd.N_reads' hN).2.1, ?_⟩, Kp.setCell (S := fun k => k = X) (p := ⟨X, o + 4, none⟩) (Kp.of_below (below_step hW hb) _) (.inl rfl) _⟩
  · rw [Array.getElem?_setIfInBounds_ne (by omega)]; exact h.c0
  · rw [Array.getElem?_setIfInBounds_ne (by omega)]; exact h.c1
  · rw [Array.getElem?_setIfInBounds_ne (by omega)]; exact h.c2
  · rw [Array.getElem?_setIfInBounds_ne (by omega)]; exact h.c3
  · rw [Array.getElem?_setIfInBounds_self_of_lt ho4]
  · refine Kd.F_far (Kd.F_mono (Kd.F_mono (Kd.N_F hN) (ok' := Pn w1 P) (fun _ h => h)) (fun k hk => hk.mono hws)) (fun k hk => ?_) _
    show k ≠ X
    rcases hk with ⟨hp, _⟩ | hk
    · exact fun e => hX (e ▸ hp)
    · omega
set_option maxHeartbeats 4000000 in
set_option maxRecDepth 100000 in
theorem add_fit {W : World} {X o t : Nat} {cs : Array Value} {bi bt ht hv : Int} {A Ax : Option Addr} {c cx : Nat} {x : S48} {es : List S48} {P : Nat → Prop} (h : StAt W X o t cs bi bt ht hv (.slice A es.length c)) (hV : Kd.F k48 W P A es.length es) (hc : es.length ≤ c) (hX : ¬ P X)
    (hx : Kd.F k8 W P Ax x.f3.length x.f3) (hcx : x.f3.length ≤ cx) (hbi : 0 ≤ bi ∧ bi ≤ 1099511627776) (hxi : 0 ≤ x.f2 ∧ x.f2 ≤ 1099511627776) (hn : es.length ≤ 1000000) (k : Nat) (hk : x.f2 - bi - 1 = k) (hkl : k ≤ es.length) (ht48 : t ≠ 48) :
    Calls Try.prog 74 #[.pointer (some ⟨X, o, none⟩), .agg #[.int .i64 x.f0, .int .i64 x.f1, .int .i64 x.f2, .slice Ax x.f3.length cx]] W fun e w' => e = .returned (.bool true) ∧ ∃ v, StAt w' X o t (cs.setIfInBounds (o + 4) v) bi bt ht hv v ∧ Kd.V k48 48 w' 0 (Pn W P) v (es.take k ++ [x]) ∧ Kp W w' (fun k => k = X) := by
  obtain ⟨w1, hw1⟩ : ∃ w1, w1 = W.alloc (.cells #[.int .i64 x.f0, .int .i64 x.f1, .int .i64 x.f2, .slice Ax x.f3.length cx] 48) := ⟨_, rfl⟩
  have hb1 : Below W.heap.size W w1 := by rw [hw1]; exact below_alloc (Below.refl _ _) _
  have hbk : w1.heap[W.heap.size]? = some (.cells #[.int .i64 x.f0, .int .i64 x.f1, .int .i64 x.f2, .slice Ax x.f3.length cx] 48 (0, 0)) := by rw [hw1]; exact blk_new W _
  have m0 : w1.cell? ⟨W.heap.size, 0, none⟩ = some (.int .i64 x.f0) := blk_cell hbk 0
  have m1 : w1.cell? ⟨W.heap.size, 1, none⟩ = some (.int .i64 x.f1) := blk_cell hbk 1
  have m2 : w1.cell? ⟨W.heap.size, 2, none⟩ = some (.int .i64 x.f2) := blk_cell hbk 2
  have m3 : w1.cell? ⟨W.heap.size, 3, none⟩ = some (.slice Ax x.f3.length cx) := blk_cell hbk 3
  obtain ⟨q0, _, _, _, q4⟩ := (h.below hb1).cell
  have HB1 := Aside0.mk hb1
  obtain ⟨d1, hd1⟩ : ∃ d1, x.f2 - bi = d1 := ⟨_, rfl⟩
  have hwa : IntKind.i64.wrap (x.f2 - bi) = d1 := by rw [← hd1]; exact IntWalk.i64_in _ ⟨by omega, by omega⟩
  have hwb : IntKind.i64.wrap (d1 - 1) = (k : Int) := by rw [← hd1, hk]; exact IntWalk.i64_in _ ⟨by omega, by omega⟩
  have HS := Aside0.mk (h.below hb1)
  have HV := Aside0.mk (Kd.F_below hV hb1)
  have HX := Aside0.mk (Kd.F_mono (Kd.F_below (Kd.F_bound hx) hb1) (ok' := fun k => P k ∧ k < w1.heap.size) (fun k hk => ⟨hk.1, Nat.lt_of_lt_of_le hk.2 hb1.size⟩))
  have htl : (es.take k).length = k := by rw [List.length_take]; omega
  have HTK0 := Aside0.mk (show ∀ W2, Below w1.heap.size w1 W2 → Kd.F k48 W2 P A k (es.take k) from fun W2 h2 => by
    have := Kd.F_take (Kd.F_below (Kd.F_below hV hb1) h2) hkl
    rwa [htl] at this)
  obtain ⟨TK, hTK⟩ : ∃ TK, es.take k = TK := ⟨_, rfl⟩
  rw [hTK] at htl HTK0 ⊢
  have HVK := HTK0
  obtain ⟨Z, hZ⟩ : ∃ Z, TK ++ [x] = Z := ⟨_, rfl⟩
  rw [hZ]
  have HZ := Aside0.mk hZ
  clear hZ
  have HTL := Aside0.mk htl
  have HKB := Aside0.mk (show k ≤ 1000000000 by omega)
  have HXW := Aside0.mk (blk_lt h.blk)
  have HSZ := Aside0.mk (show w1.heap.size = W.heap.size + 1 by rw [hw1, World.size_alloc])
  clear htl hTK HTK0
  have c1 : decide ((k : Int) < 0) = false := decide_eq_false (by omega)
  have c2 : decide (es.length < k) = false := decide_eq_false (by omega)
  have hcc : k ≤ c := by omega
  have HM := Aside0.mk (show ∀ W2, Below w1.heap.size w1 W2 → W2.cell? ⟨W.heap.size, 0, none⟩ = some (.int .i64 x.f0) ∧ W2.cell? ⟨W.heap.size, 1, none⟩ = some (.int .i64 x.f1) ∧ W2.cell? ⟨W.heap.size, 2, none⟩ = some (.int .i64 x.f2) ∧ W2.cell? ⟨W.heap.size, 3, none⟩ = some (.slice Ax x.f3.length cx) from fun W2 h2 => by
    have hb2 := (h2.block _ (blk_lt hbk)).trans hbk
    exact ⟨blk_cell hb2 0, blk_cell hb2 1, blk_cell hb2 2, blk_cell hb2 3⟩)
  have HM4 := Aside0.mk (show ∀ W2, Below w1.heap.size w1 W2 → W2.cell? ⟨X, o + 4, none⟩ = some (.slice A es.length c) ∧ W2.frozen? ⟨X, o + 4, none⟩ = false from fun W2 h2 => by
    have hb2 := HS.out.below h2
    exact ⟨hb2.cell.2.2.2.2, blk_frozen hb2.blk _⟩)
  have HCX := Aside0.mk hcx
  have HXP := Aside0.mk hX
  clear hb1 hbk h hV hx hd1 hk
  go_enter Try.func74, Try.ntmps74
  go_upto_region 1 with (fail)
  rw [← hw1]
  clear hw1
  go_quiet (fail)
  go_wp2_with fail
  have q4a := (HM4.out ((w1.drewN (nq + 1)).alloc (.cells #[.int .i64 x.f0, .int .i64 x.f1, .int .i64 x.f2, .slice Ax x.f3.length cx] 48)) (below_alloc (pw_below_drewN (Below.refl _ _) _) _)).1
  go_region_law (first
    | (go_simp; go_at_call 92; refine (cloneK (P := P) A c TK k _ HTL.out ?hF HKB.out).mono ?_; (case hF => first | exact HVK.out _ (pw_below_drewN (Below.refl _ _) _) | exact HVK.out _ (below_alloc (pw_below_drewN (Below.refl _ _) _) _)); rintro e wc ⟨v1, rfl, hN, hbc⟩; (first | have hcp := clone_post (pw_below_drewN (Below.refl _ _) _) hN hbc | have hcp := clone_post (below_alloc (pw_below_drewN (Below.refl _ _) _) _) hN hbc); obtain ⟨A1, c1', rfl⟩ := Kd.N_slice hN; have HN0 := Aside0.mk hN; have HB0 := Aside0.mk hbc; have HN1 := Aside0.mk hcp.1; have HBC := Aside0.mk hcp.2; obtain ⟨r0, r1, r2, r3⟩ := HM.out _ hcp.2; clear hN hbc hcp)
    | (have hbx := lit_at HB0.out; have hsz := lit_size HB0.out; refine Kd.N_append_rows_step k48 (w0 := w1) w1.heap.size (by rfl) (.tmp 33) (.tmp 35) 51 48 _ 48 (by rfl) Try.underlying51 info48 (by rfl) (by decide) (by decide) (.slice A1 TK.length c1') TK [x] (some ⟨w1.heap.size, 0, none⟩) 1 1 (Pn w1 P) (fun k => (P k ∧ k < w1.heap.size) ∨ k = w1.heap.size) (by rfl) (by rfl) HN1.out (F_one hbx HCX.out (Kd.F_below HX.out HBC.out)) (fun k hk => ⟨hk.elim .inl (fun h => .inr (Nat.le_of_eq h.symm)), fun e => by have := Kd.N_base HN0.out k e.symm; omega⟩) (fun k hk => .inr (Nat.le_trans HBC.out.size hk)) HBC.out HBC.out.size (by have := HTL.out; have := HKB.out; omega) ?_; intro v2 w2 hn2 hb2 hg2 hat2; rw [HZ.out] at hn2; obtain ⟨A2, c2', rfl⟩ := Kd.N_slice hn2; obtain ⟨z4, zf4⟩ := HM4.out _ hb2; have HFIN := Aside0.mk (add_fin HS.out HB1.out HXW.out HXP.out hn2 hb2); clear hn2 hb2 hg2 hat2 hbx hsz)
    | (refine Kd.N_append_step k48 (w0 := w1) w1.heap.size (by rfl) (.tmp 33) (.tmp 35) 51 48 _ 48 (by rfl) Try.underlying51 info48 (by rfl) (by decide) (by decide) (.slice A1 TK.length c1') TK x [.int .i64 x.f0, .int .i64 x.f1, .int .i64 x.f2, .slice Ax x.f3.length cx] (Pn w1 P) (fun k => P k ∧ k < w1.heap.size) (by rfl) (by rfl) (k48_mkF _ _ x HCX.out (Kd.F_below HX.out HBC.out)) (fun k hk => ⟨.inl hk, fun e => by have := Kd.N_base HN1.out k e.symm; omega⟩) (fun k hk => .inr (Nat.le_trans HBC.out.size hk)) HN1.out HBC.out HBC.out.size (by have := HTL.out; have := HKB.out; omega) ?_; intro v2 w2 hn2 hb2 hg2 hat2; rw [HZ.out] at hn2; obtain ⟨A2, c2', rfl⟩ := Kd.N_slice hn2; obtain ⟨z4, zf4⟩ := HM4.out _ hb2; have HFIN := Aside0.mk (add_fin HS.out HB1.out HXW.out HXP.out hn2 hb2); clear hn2 hb2 hg2 hat2))
  all_goals
    go_wp2_with fail
    go_ret
    exact ⟨rfl, _, HFIN.out.1, HFIN.out.2.1, HFIN.out.2.2⟩
end Go.Proofs.Ytmmiipnmimjojaa.PS
end
section
namespace Go.Proofs.Ytmmiipnmimjojaa.PS
open Go.RowKit Go.Proofs.YtmmiipnmimjojaaW.PrintWords Go.Proofs.YtmmiipnmimjojaaW.PrintLast Go.Proofs.YtmmiipnmimjojaaW.PrintMore
open Go.Maps Go.Proofs.Ytmmiipnmimjojaa.PD
set_option linter.unusedVariables false
set_option linter.unusedSimpArgs false
/-- What taking a record leaves: the state s in block T. -/
def TkP (W : World) (T : Nat) (P : Nat → Prop) (s : WS) (e : Ending) (w' : World) : Prop :=
  e = .returned (.bool true) ∧ ∃ v, w'.heap[T]? = some (.cells #[.int .i64 s.bi, .int .i64 s.bt, .int .i64 s.ht, .int .i64 s.hv, v] 124 (0, 0)) ∧ Kd.V k48 48 w' 0 (Pn W P) v s.es ∧ Kp W w' (fun k => k = T)
theorem kp_set {W w : World} {T : Nat} (h : Kp W w (fun k => k = T)) (i : Nat) (u : Value) : Kp W (w.setCell ⟨T, i, none⟩ u) (fun k => k = T) := Kp.setCell (p := ⟨T, i, none⟩) h (.inl rfl) u
theorem mark_fin {W w : World} {T : Nat} {a b c d v x y z : Value} (h : w.heap[T]? = some (.cells #[a, b, c, d, v] 124 (0, 0))) (hb : Below W.heap.size W w) :
    (((w.setCell ⟨T, 0, none⟩ x).setCell ⟨T, 1, none⟩ y).setCell ⟨T, 4, none⟩ z).heap[T]? = some (.cells #[x, y, c, d, z] 124 (0, 0)) ∧ Kp W (((w.setCell ⟨T, 0, none⟩ x).setCell ⟨T, 1, none⟩ y).setCell ⟨T, 4, none⟩ z) (fun k => k = T) :=
  ⟨blk_set (blk_set (blk_set h 0 x) 1 y) 4 z, kp_set (kp_set (kp_set (Kp.of_below hb (fun k => k = T)) 0 x) 1 y) 4 z⟩
theorem hard_fin {W w : World} {T : Nat} {a b c d v x y : Value} (h : w.heap[T]? = some (.cells #[a, b, c, d, v] 124 (0, 0))) (hb : Below W.heap.size W w) :
    ((w.setCell ⟨T, 2, none⟩ x).setCell ⟨T, 3, none⟩ y).heap[T]? = some (.cells #[a, b, x, y, v] 124 (0, 0)) ∧ Kp W ((w.setCell ⟨T, 2, none⟩ x).setCell ⟨T, 3, none⟩ y) (fun k => k = T) :=
  ⟨blk_set (blk_set h 2 x) 3 y, kp_set (kp_set (Kp.of_below hb (fun k => k = T)) 2 x) 3 y⟩
set_option maxHeartbeats 4000000 in
set_option maxRecDepth 100000 in
theorem take_mark {W : World} {T g c : Nat} {b : List Int} {s : WS} {v : Value} {P : Nat → Prop} {i t : Int} (first : Bool) (hT : W.heap[T]? = some (.cells #[.int .i64 s.bi, .int .i64 s.bt, .int .i64 s.ht, .int .i64 s.hv, v] 124 (0, 0)))
    (hb : b = Rc.enc (.mark i t)) (hok : Rc.ok (.mark i t)) (hC : k8.C W (some ⟨g, 0, none⟩) b.length b) (hc : b.length ≤ c) :
    Calls Try.prog 69 #[.pointer (some ⟨T, 0, none⟩), .slice (some ⟨g, 0, none⟩) b.length c, .bool first] W (TkP W T P { s with bi := i, bt := t, es := [] }) := by
  have hbb := Rc.enc_bytes hok
  rw [← hb] at hbb
  have h1 : takeNum b 1 = (i, 1 + ((enc i).length : Int), 0) := by
    have := takeNum_enc [1] (enc t) i hok.1.1 hok.1.2
    rw [hb]; exact this
  have h2 : takeNum b (1 + ((enc i).length : Int)) = (t, (b.length : Int), 0) := by
    have := takeNum_enc (1 :: enc i) [] t hok.2.1 hok.2.2
    rw [List.append_nil] at this
    have e : ((1 :: enc i).length : Int) = 1 + (enc i).length := by rw [List.length_cons]; omega
    rw [e] at this
    rw [hb]
    refine this.trans ?_
    rw [show ((Rc.enc (.mark i t)).length : Int) = 1 + (enc i).length + (enc t).length by simp only [Rc.enc, List.length_cons, List.length_append]; omega]
  have hd0 : b.getD 0 0 = 1 := by rw [hb]; rfl
  have hpos : 0 < b.length := by omega
  have hcell : W.cell? ⟨g, 0, none⟩ = some (.int .u8 1) := by
    obtain ⟨ad, cc, e, _, hcs, hx0⟩ := Kd.C_get hC 0 0 (by omega) (by omega)
    cases e
    rw [show cc = [.int .u8 (b.getD (0 : Int).toNat 0)] from hcs, show (0 : Int).toNat = 0 from rfl, hd0] at hx0
    have := hx0 0 _ rfl
    simpa [Addr.add] using this
  have HT1 := Aside0.mk (show ∀ w, k8.C w (some ⟨g, 0, none⟩) b.length b → Calls Try.prog 100 #[.slice (some ⟨g, 0, none⟩) b.length c, .int .i64 1] w fun e w' => e = .returned (.tuple #[.int .i64 i, .int .i64 (1 + (enc i).length), .int .i64 0]) ∧ Drawn0 w w' from fun w hw =>
    wire_TakeNumber.calls _ c b 1 i _ 0 w hw hc (by unfold wire_TakeNumber.f; rw [if_pos ⟨hbb.1, by omega⟩, h1]))
  have HT2 := Aside0.mk (show ∀ w, k8.C w (some ⟨g, 0, none⟩) b.length b → Calls Try.prog 100 #[.slice (some ⟨g, 0, none⟩) b.length c, .int .i64 (1 + (enc i).length)] w fun e w' => e = .returned (.tuple #[.int .i64 t, .int .i64 b.length, .int .i64 0]) ∧ Drawn0 w w' from fun w hw =>
    wire_TakeNumber.calls _ c b _ t _ 0 w hw hc (by unfold wire_TakeNumber.f; rw [if_pos ⟨hbb.1, by omega⟩, h2]))
  have HC := Aside0.mk hC
  have HTb := Aside0.mk hT
  obtain ⟨j, hj⟩ : ∃ j : Int, 1 + ((enc i).length : Int) = j := ⟨_, rfl⟩
  rw [hj] at HT1 HT2
  have hlz : ((b.length : Int) == 0) = false := beq_eq_false_iff_ne.mpr (by omega)
  have hpi : (0 : Int) < b.length := by omega
  clear h1 h2 hd0 hb hbb hT hC hj
  go_enter Try.func69, Try.ntmps69
  cases first
  all_goals
    go_wp2_with fail
    refine (HT1.out _ HC.out).mono ?_
    rintro e w1 ⟨rfl, hd⟩
    have HB1 := Aside0.mk hd.below
    clear hd hcell
    go_wp2_with fail
    refine (HT2.out _ (Kd.C_below HC.out HB1.out)).mono ?_
    rintro e w2 ⟨rfl, hd⟩
    have HB2 := Aside0.mk (below_step HB1.out hd.below)
    have HTb2 := Aside0.mk ((HB2.out.block T (blk_lt HTb.out)).trans HTb.out)
    have n0 : w2.cell? ⟨T, 0, none⟩ = some (.int .i64 s.bi) := blk_cell HTb2.out 0
    have n1 : w2.cell? ⟨T, 1, none⟩ = some (.int .i64 s.bt) := blk_cell HTb2.out 1
    have n4 : w2.cell? ⟨T, 4, none⟩ = some v := blk_cell HTb2.out 4
    have nf := blk_frozen HTb2.out
    clear hd
    go_wp2_with fail
    go_ret
    have hfin := mark_fin (x := .int .i64 i) (y := .int .i64 t) (z := .slice none 0 0) HTb2.out HB2.out
    exact ⟨rfl, .slice none 0 0, hfin.1, ⟨none, 0, rfl, Nat.zero_le _, Kd.F_nil _ _ _⟩, hfin.2⟩
theorem head_cell {W : World} {g n : Nat} {b : List Int} {x : Int} (hC : k8.C W (some ⟨g, 0, none⟩) n b) (hn : 0 < n) (hd0 : b.getD 0 0 = x) : W.cell? ⟨g, 0, none⟩ = some (.int .u8 x) := by
  obtain ⟨ad, cc, e, _, hcs, hx0⟩ := Kd.C_get hC 0 0 (by omega) (by omega)
  cases e
  rw [show cc = [.int .u8 (b.getD (0 : Int).toNat 0)] from hcs, show (0 : Int).toNat = 0 from rfl, hd0] at hx0
  have := hx0 0 _ rfl
  simpa [Addr.add] using this
theorem tail_C {W : World} {g c : Nat} {b l : List Int} {x : Int} (hb : b = x :: l) (hC : k8.C W (some ⟨g, 0, none⟩) b.length b) (hc : b.length ≤ c) (hc1 : 1 < c) : k8.C W (some ⟨g, 1, none⟩) l.length l := by
  have h := Kd.C_drop (m := 1) hC (by rw [hb, List.length_cons]; omega) hc
  rw [if_neg (by omega)] at h
  rw [show b.drop 1 = l by rw [hb]; rfl] at h
  exact h
theorem hardK {W : World} {A : Option Addr} {c n : Nat} {t v : Int} (hC : k8.C W A (enc t ++ enc v).length (enc t ++ enc v)) (hn : (enc t ++ enc v).length = n) (hc : n ≤ c) (h : hardErr t v = 0) :
    Calls Try.prog 101 #[.slice A n c] W fun e w' => e = .returned (.tuple #[.agg #[.int .i64 t, .int .i64 v], .int .i64 0]) ∧ Below W.heap.size W w' := by
  subst hn
  have hh := hard_ok h
  have l1 := enc_len hh.1.1 hh.1.2
  have l2 := enc_len hh.2.1 (by omega)
  refine wire_GetHard.calls A c _ t v 0 W hC hc ?_
  unfold wire_GetHard.f
  rw [if_pos ⟨okBytes_append (okBytes_of (PS.enc_bytes hh.1.1 hh.1.2)) (okBytes_of (PS.enc_bytes hh.2.1 (by omega))), by rw [List.length_append]; omega⟩, getHard_put h]
set_option maxHeartbeats 4000000 in
set_option maxRecDepth 100000 in
theorem take_hard {W : World} {T g c : Nat} {b : List Int} {s : WS} {v : Value} {P : Nat → Prop} {t u : Int} (hT : W.heap[T]? = some (.cells #[.int .i64 s.bi, .int .i64 s.bt, .int .i64 s.ht, .int .i64 s.hv, v] 124 (0, 0))) (hV : Kd.V k48 48 W 0 P v s.es) (hTP : ¬ P T)
    (hb : b = Rc.enc (.hard t u)) (hok : Rc.ok (.hard t u)) (hC : k8.C W (some ⟨g, 0, none⟩) b.length b) (hc : b.length ≤ c) :
    Calls Try.prog 69 #[.pointer (some ⟨T, 0, none⟩), .slice (some ⟨g, 0, none⟩) b.length c, .bool false] W (TkP W T P { s with ht := t, hv := u }) := by
  have hbb := Rc.enc_bytes hok
  rw [← hb] at hbb
  have hcell := head_cell hC (by omega) (x := 2) (by rw [hb]; rfl)
  obtain ⟨m, hm⟩ : ∃ m, b.length = m + 1 := ⟨b.length - 1, by omega⟩
  have hlm : (enc t ++ enc u).length = m := by rw [hb] at hm; simpa [Rc.enc] using hm
  have HG := Aside0.mk (hardK (tail_C (l := enc t ++ enc u) hb hC hc (by omega)) hlm (c := c - 1) (by omega) hok)
  have HV := Aside0.mk hV
  have HTb := Aside0.mk hT
  have HTP := Aside0.mk hTP
  have hlz : ((m : Int) + 1 == 0) = false := beq_eq_false_iff_ne.mpr (by omega)
  have hc1 : ¬ c = 1 := by omega
  have hc2 : 1 ≤ m + 1 := by omega
  rw [hm]
  clear hb hbb hT hC hV hTP hlm hm
  go_enter Try.func69, Try.ntmps69
  go_wp2_with fail
  refine HG.out.mono ?_
  rintro e w1 ⟨rfl, hb1⟩
  have HB1 := Aside0.mk hb1
  have hT1 := (hb1.block T (blk_lt HTb.out)).trans HTb.out
  have hTa := ((below_alloc (Below.refl w1.heap.size w1) (.cells #[.int .i64 t, .int .i64 u] 81)).block T (blk_lt hT1)).trans hT1
  have HTa := Aside0.mk hTa
  have n2 : (w1.alloc (.cells #[.int .i64 t, .int .i64 u] 81)).cell? ⟨T, 2, none⟩ = some (.int .i64 s.ht) := blk_cell hTa 2
  have n3 : (w1.alloc (.cells #[.int .i64 t, .int .i64 u] 81)).cell? ⟨T, 3, none⟩ = some (.int .i64 s.hv) := blk_cell hTa 3
  have nf2 : (w1.alloc (.cells #[.int .i64 t, .int .i64 u] 81)).frozen? ⟨T, 2, none⟩ = false := blk_frozen hTa 2
  have nf3 : (w1.alloc (.cells #[.int .i64 t, .int .i64 u] 81)).frozen? ⟨T, 3, none⟩ = false := blk_frozen hTa 3
  clear hb1 hT1 hcell hTa
  go_wp2_with fail
  go_ret
  have hBa := below_alloc HB1.out (.cells #[.int .i64 t, .int .i64 u] 81)
  obtain ⟨w5, hw5⟩ : ∃ w5, w5 = w1.alloc (.cells #[.int .i64 t, .int .i64 u] 81) := ⟨_, rfl⟩
  have HTa' := HTa.out
  rw [← hw5] at hBa HTa' ⊢
  have hfin := hard_fin (x := .int .i64 t) (y := .int .i64 u) HTa' hBa
  refine ⟨rfl, v, hfin.1, Kd.V_map HV.out fun A hF => ?_, hfin.2⟩
  exact Kd.F_mono (Kd.F_far (Kd.F_far (Kd.F_below (Kd.F_bound hF) hBa) (p := ⟨T, 2, none⟩) (fun k hk (e : k = T) => HTP.out (e ▸ hk.1)) _) (p := ⟨T, 3, none⟩) (fun k hk (e : k = T) => HTP.out (e ▸ hk.1)) _) (fun k hk => .inl hk)
theorem entK {W : World} {A : Option Addr} {c n : Nat} {x : S48} (hC : k8.C W A (entBytes x.f0 x.f1 x.f2 x.f3).length (entBytes x.f0 x.f1 x.f2 x.f3)) (hn : (entBytes x.f0 x.f1 x.f2 x.f3).length = n) (hc : n ≤ c) (h : EOk x) :
    Calls Try.prog 102 #[.slice A n c] W fun e w' => ∃ v3 : Value, e = .returned (.tuple #[.agg #[.int .i64 x.f0, .int .i64 x.f1, .int .i64 x.f2, v3], .int .i64 0]) ∧ k8.R 5 w' W.heap.size (fun _ => True) v3 x.f3 ∧ Below W.heap.size W w' := by
  subst hn
  have hh := ent_bad h
  have hl := entBytes_len hh.1 hh.2
  refine wire_GetEntry.calls A c _ x.f0 x.f1 x.f2 x.f3 0 W hC hc ?_
  unfold wire_GetEntry.f
  rw [if_pos ⟨okBytes_of (entBytes_bytes hh.1 hh.2 (okBytes_mem h.2)), by omega⟩, getEntry_put hh.1 hh.2]
set_option maxHeartbeats 4000000 in
set_option maxRecDepth 100000 in
theorem take_ent {W : World} {T g c : Nat} {b : List Int} {s : WS} {v : Value} {P : Nat → Prop} {x : S48} (hT : W.heap[T]? = some (.cells #[.int .i64 s.bi, .int .i64 s.bt, .int .i64 s.ht, .int .i64 s.hv, v] 124 (0, 0))) (hV : Kd.V k48 48 W 0 P v s.es) (hTP : ¬ P T)
    (hs : WOk s) (hsl : s.es.length ≤ 1000000) (hf : s.fit x) (hb : b = Rc.enc (.ent x)) (hok : EOk x) (hC : k8.C W (some ⟨g, 0, none⟩) b.length b) (hc : b.length ≤ c) :
    Calls Try.prog 69 #[.pointer (some ⟨T, 0, none⟩), .slice (some ⟨g, 0, none⟩) b.length c, .bool false] W (TkP W T P (s.add x)) := by
  have hbb := Rc.enc_bytes (r := .ent x) hok
  rw [← hb] at hbb
  have hcell := head_cell hC (by omega) (x := 3) (by rw [hb]; rfl)
  obtain ⟨m, hm⟩ : ∃ m, b.length = m + 1 := ⟨b.length - 1, by omega⟩
  have hlm : (entBytes x.f0 x.f1 x.f2 x.f3).length = m := by rw [hb] at hm; simpa [Rc.enc] using hm
  have HG := Aside0.mk (entK (tail_C (l := entBytes x.f0 x.f1 x.f2 x.f3) hb hC hc (by omega)) hlm (c := c - 1) (by omega) hok)
  obtain ⟨As, cs, rfl, hle, hF0⟩ := hV
  have HF0 := Aside0.mk hF0
  have HLE := Aside0.mk hle
  have HTb := Aside0.mk hT
  have HTP := Aside0.mk hTP
  have HS := Aside0.mk hs
  have HF := Aside0.mk hf
  have hxb := (ent_bad hok).1
  unfold entBad at hxb
  have HXB := Aside0.mk hxb
  have hlz : ((m : Int) + 1 == 0) = false := beq_eq_false_iff_ne.mpr (by omega)
  have hc1 : ¬ c = 1 := by omega
  have hc2 : 1 ≤ m + 1 := by omega
  rw [hm]
  clear hb hbb hT hC hF0 hle hTP hlm hm hs hf hok hxb
  go_enter Try.func69, Try.ntmps69
  go_wp2_with fail
  refine HG.out.mono ?_
  rintro e w1 ⟨v3, rfl, hr1, hb1⟩
  obtain ⟨A3, c3, rfl⟩ := Kd.R_slice hr1
  have hT1 := (hb1.block T (blk_lt HTb.out)).trans HTb.out
  have hTa := ((below_alloc (Below.refl w1.heap.size w1) (.cells #[.int .i64 x.f0, .int .i64 x.f1, .int .i64 x.f2, .slice A3 x.f3.length c3] 48)).block T (blk_lt hT1)).trans hT1
  have HBa := Aside0.mk (below_alloc hb1 (.cells #[.int .i64 x.f0, .int .i64 x.f1, .int .i64 x.f2, .slice A3 x.f3.length c3] 48))
  have HR3 := Aside0.mk (Kd.R_alloc hr1 (.cells #[.int .i64 x.f0, .int .i64 x.f1, .int .i64 x.f2, .slice A3 x.f3.length c3] 48))
  have HTa := Aside0.mk hTa
  clear hb1 hT1 hcell hTa hr1
  have HFA := Aside0.mk (Kd.F_mono (Kd.F_below (Kd.F_bound HF0.out) HBa.out) (ok' := Pn W P) (fun k hk => .inl hk))
  have HXA := Aside0.mk (Kd.F_mono (Kd.R_F (Kd.R_bound HR3.out)) (ok' := Pn W P) (fun k hk => .inr hk.2.1))
  have HC3 := Aside0.mk (Kd.R_reads' HR3.out).2.1
  have HTN := Aside0.mk (show ¬ Pn W P T from fun h => h.elim (fun h => HTP.out h.1) (fun h => by have := blk_lt HTb.out; omega))
  have hfb := HF.out
  unfold WS.fit at hfb
  have hmk := HS.out.mark
  have HAD := Aside0.mk (add_fit (o := 0) (bt := s.bt) (ht := s.ht) (hv := s.hv) (x := x) ⟨HTa.out, rfl, rfl, rfl, rfl, rfl⟩ HFA.out HLE.out HTN.out HXA.out HC3.out hmk.1 ⟨by have := HXB.out; omega, by have := HXB.out; omega⟩ hsl (x.f2 - s.bi - 1).toNat (by omega) (by omega) (by decide))
  clear hfb hmk
  go_wp2_with fail
  refine HAD.out.mono ?_
  rintro e w4 ⟨rfl, v4, hst, hv4, hk4⟩
  have HST := Aside0.mk hst
  have HV4 := Aside0.mk hv4
  have HK4 := Aside0.mk hk4
  clear hst hv4 hk4
  go_wp2_with fail
  go_ret
  refine ⟨rfl, v4, HST.out.blk, Kd.V_map HV4.out fun A hF => Kd.F_mono hF (fun k hk => ?_), ?_⟩
  · have hsz := HBa.out.size
    rcases hk with ⟨hk, _⟩ | hk
    · exact hk
    · exact .inr (Nat.le_trans hsz hk)
  · exact (Kp.of_below HBa.out (fun k => k = T)).trans HK4.out (fun _ _ h => h)
end Go.Proofs.Ytmmiipnmimjojaa.PS
end
section
namespace Go.Proofs.Ytmmiipnmimjojaa.PS
open Go.RowKit Go.Proofs.YtmmiipnmimjojaaW.PrintWords Go.Proofs.YtmmiipnmimjojaaW.PrintLast Go.Proofs.YtmmiipnmimjojaaW.PrintMore
set_option linter.unusedVariables false
set_option linter.unusedSimpArgs false
set_option maxHeartbeats 2000000 in
set_option maxRecDepth 100000 in
theorem last_calls {W : World} {L m c : Nat} {bi : Int} {E : Option Addr} (h1 : W.cell? ⟨L, 1, none⟩ = some (.int .i64 bi)) (h5 : W.cell? ⟨L, 5, none⟩ = some (.slice E m c)) (hb : 0 ≤ bi ∧ bi ≤ 1099511627776) (hm : m ≤ 1000000000) :
    Calls Try.prog 29 #[.pointer (some ⟨L, 0, none⟩)] W fun e w' => e = .returned (.int .i64 (bi + m)) ∧ w' = W.drew := by
  have hw : IntKind.i64.wrap (bi + (m : Int)) = bi + m := IntWalk.i64_in _ ⟨by omega, by omega⟩
  go_enter Try.func29, Try.ntmps29
  go_wp2_with fail
  go_region
  go_wp2_with fail
  go_ret
  exact ⟨rfl, rfl⟩
end Go.Proofs.Ytmmiipnmimjojaa.PS
end
section
namespace Go.Proofs.Ytmmiipnmimjojaa.PS
open Go.RowKit Go.Proofs.YtmmiipnmimjojaaW.PrintWords Go.Proofs.YtmmiipnmimjojaaW.PrintLast Go.Proofs.YtmmiipnmimjojaaW.PrintMore
set_option linter.unusedVariables false
set_option linter.unusedSimpArgs false
set_option maxRecDepth 100000 in
set_option maxRecDepth 100000 in
set_option maxRecDepth 100000 in
set_option maxRecDepth 100000 in
set_option maxRecDepth 100000 in
set_option maxRecDepth 100000 in
theorem append_nil (W : World) (v : Value) : Calls Try.prog 27 #[.pointer none, v] W fun e w' => e = .returned (.int .i64 1) ∧ W = w' := by
  go_enter Try.func27, Try.ntmps27
  go_wp2_with fail
  go_ret
  exact ⟨rfl, rfl⟩
end Go.Proofs.Ytmmiipnmimjojaa.PS
end
