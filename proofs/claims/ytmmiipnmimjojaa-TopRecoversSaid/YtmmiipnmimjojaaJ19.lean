/- The texts of this claim's seat, joined: part 19. -/
import Derived.Test.YtmmiipnmimjojaaJ18
section
namespace Go.Proofs.Ytmmiipnmimjojaa.PS
open Go.RowKit Go.Proofs.YtmmiipnmimjojaaW.PrintWords Go.Proofs.YtmmiipnmimjojaaW.PrintLast Go.Proofs.YtmmiipnmimjojaaW.PrintMore
open Go.Maps Go.Proofs.Ytmmiipnmimjojaa.PD
set_option linter.unusedVariables false
set_option linter.unusedSimpArgs false
theorem at_T48F {w : World} {ok : Nat → Prop} {A : Option Addr} {n : Nat} {xs : List S48} (h : Kd.F k48 w ok A n xs) (i : Int) (h0 : 0 ≤ i) (h1 : i < n) : ∃ ad A3 c3, A = some ad ∧ w.cell? (ad.add (i.toNat * 4)) = some (.int .i64 (rd_T48 xs i).f0) ∧ w.cell? ⟨(ad.add (i.toNat * 4)).block, (ad.add (i.toNat * 4)).off + 1, none⟩ = some (.int .i64 (rd_T48 xs i).f1) ∧ w.cell? ⟨(ad.add (i.toNat * 4)).block, (ad.add (i.toNat * 4)).off + 2, none⟩ = some (.int .i64 (rd_T48 xs i).f2) ∧ w.cell? ⟨(ad.add (i.toNat * 4)).block, (ad.add (i.toNat * 4)).off + 3, none⟩ = some (.slice A3 (rd_T48 xs i).f3.length c3) ∧ (rd_T48 xs i).f3.length ≤ c3 ∧ Kd.F k8 w ok A3 (rd_T48 xs i).f3.length (rd_T48 xs i).f3 := by
  obtain ⟨ad, c, e, _, hK, hc0, _⟩ := Kd.F_get h z48 i h0 h1
  have hc : ∀ j u, c[j]? = some u → w.cell? (ad.add (i.toNat * 4 + j)) = some u := hc0
  obtain ⟨A3, c3, rfl, l3, g3⟩ := k48_openF hK
  exact ⟨ad, A3, c3, e, hc 0 _ rfl, by rw [← add_field _ _ 1 (by omega)]; exact hc 1 _ rfl, by rw [← add_field _ _ 2 (by omega)]; exact hc 2 _ rfl, by rw [← add_field _ _ 3 (by omega)]; exact hc 3 _ rfl, l3, g3⟩
theorem F_bysE {W w' : World} {S S' : Nat → Prop} {L n : Nat} {A : Option Addr} {l : List S48} (h : Bys W S w' S' L) (hF : Kd.F k48 W (fun k => (¬ S k ∧ k ≠ L) ∧ k < W.heap.size) A n l) (hsz : W.heap.size ≤ w'.heap.size) : Kd.F k48 w' (fun k => (¬ S' k ∧ k ≠ L) ∧ k < w'.heap.size) A n l :=
  Kd.F_mono (Kd.F_step hF fun k hk hlt => (h.step hlt hk.1.1 hk.1.2).1) (fun k hk => ⟨⟨(h.step hk.2 hk.1.1 hk.1.2).2, hk.1.2⟩, Nat.lt_of_lt_of_le hk.2 hsz⟩)
/-- The log's own add. -/
theorem add_w {W0 W : World} {S Q : Nat → Prop} {g N L : Nat} {D : Dsk} {M : LM} {x : S48} {Ax : Option Addr} {cx : Nat} (h : Wl W0 W S Q g N L D M) (hs : WOk M.st) (hsl : M.st.es.length ≤ 1000000) (hx : Kd.F k8 W (fun k => Q k ∧ k ≠ L) Ax x.f3.length x.f3) (hcx : x.f3.length ≤ cx) (hok : EOk x) (hf : M.st.fit x) :
    Calls Try.prog 74 #[.pointer (some ⟨L, 1, none⟩), .agg #[.int .i64 x.f0, .int .i64 x.f1, .int .i64 x.f2, .slice Ax x.f3.length cx]] W fun e w' => e = .returned (.bool true) ∧ ∃ S' Q', Wl W0 w' S' Q' g N L D { M with st := M.st.add x } ∧ Bys W S w' S' L ∧ (∀ k, k < W.heap.size → Q' k → Q k) ∧ ∀ k, Q k → Q' k := by
  obtain ⟨A, c, hb, hc, hF⟩ := h.cells
  have hxb := (ent_bad hok).1
  unfold entBad at hxb
  have hff := hf
  unfold WS.fit at hff
  refine (add_fit (W := W) (X := L) (o := 1) (t := 126) (cs := lgC g M (.slice A M.st.es.length c)) (bt := M.st.bt) (ht := M.st.ht) (hv := M.st.hv) (x := x) (P := fun k => Q k ∧ k ≠ L) ⟨hb, rfl, rfl, rfl, rfl, rfl⟩ hF hc (fun hp => hp.2 rfl) hx hcx hs.mark.1 ⟨by omega, by omega⟩ hsl (x.f2 - M.st.bi - 1).toNat (by omega) (by omega) (by decide)).mono ?_
  rintro e w' ⟨rfl, v, hst, hv, hk⟩
  have hL := h.q L h.lg.1
  refine ⟨rfl, S, fun k => Q k ∨ (W.heap.size ≤ k ∧ k < w'.heap.size), ⟨?_, ⟨.inl h.lg.1, v, ?_, ?_⟩, fun k hq => ?_⟩, ⟨hk.size, fun b o hb' => ⟨(hk.block b (blk_lt hb'.at_) hb'.nl).trans hb'.at_, hb'.ns, hb'.nl⟩⟩, fun k hlt hq => hq.elim id (fun hh => absurd hlt (by omega)), fun _ h => .inl h⟩
  · exact h.dk.kp (h.dk.1.trans (hk.below (B := W0.heap.size) (fun i hi _ => by rw [hi]; exact hL.1) h.dk.1.size)) hk (fun i hS e => hL.2.2 (e ▸ hS))
  · have hb2 := hst.blk
    rw [hb2]
    unfold lgC
    simp [WS.add]
  · obtain ⟨A', c', rfl, hc', hF'⟩ := hv
    refine ⟨A', c', rfl, hc', Kd.F_mono (Kd.F_bound hF') (fun k hk' => ?_)⟩
    rcases hk'.1 with ⟨hq, _⟩ | h1
    · exact ⟨.inl hq.1, hq.2⟩
    · exact ⟨.inr ⟨h1, hk'.2⟩, by have := h.lt; omega⟩
  · rcases hq with hq | ⟨h1, h2⟩
    · obtain ⟨q1, q2, q3⟩ := h.q k hq
      exact ⟨q1, Nat.lt_of_lt_of_le q2 hk.size, q3⟩
    · have hs0 := h.dk.1.size
      exact ⟨by omega, h2, fun hS => by have := (h.dk.2.1 k hS).2; omega⟩
set_option maxHeartbeats 16000000 in
set_option maxRecDepth 100000 in
theorem append_calls {W0 W : World} {S Q : Nat → Prop} {g N L : Nat} {D : Dsk} {M : LM} {Ae : Option Addr} {ce : Nat} {es : List S48} (h : Wl W0 W S Q g N L D M) (hm : MOk M) (hN : N ≤ 800000) (hn : M.n ≤ 900000000) (hnm : namedB (nameB (M.n + 1)) = true)
    (hE : Kd.F k48 W (fun k => (¬ S k ∧ k ≠ L) ∧ k < W.heap.size) Ae es.length es) (hce : es.length ≤ ce) (hel : es.length ≤ 100000) (hob : ∀ x ∈ es, okBytes x.f3 = true) (hfew : M.st.es.length + es.length ≤ 500000) :
    Calls Try.prog 27 #[.pointer (some ⟨L, 0, none⟩), .slice Ae es.length ce] W (ErrP W0 W S Q g (N + 2) L (lgAppend D M es)) := by
  obtain ⟨R, hR⟩ : ∃ R, lgAppend D M es = R := ⟨_, rfl⟩
  have hR0 := hR
  unfold lgAppend at hR0
  rw [hR]
  have HR0 := Aside0.mk hR0
  have HW := Aside0.mk h
  have HM := Aside0.mk hm
  have HNM := Aside0.mk hnm
  have HE := Aside0.mk hE
  have HOB := Aside0.mk hob
  have hmk := hm.st.mark
  clear hR hR0 h hm hnm hE hob
  go_enter Try.func27, Try.ntmps27
  go_wp2_with fail
  go_loopg [5, 19] es.length (fun kq v5 v19 w' => ∃ (i : Int) (X : List Int), v19 = .int .i64 i ∧ 0 ≤ i ∧ i + kq = es.length ∧ X.length ≤ 3000 * i.toNat ∧ Aside0 (X = recsB ((es.take i.toNat).map .ent)) ∧ Aside0 (k8.R 5 w' W.heap.size (fun _ => True) v5 X) ∧ Aside0 (Below W.heap.size W w') ∧ Aside0 (∀ y ∈ es.take i.toNat, EOk y))
  case atStart => exact ⟨0, [], rfl, by omega, by omega, by simp, ⟨rfl⟩, ⟨Kd.R_nil _ _ _ _ _⟩, ⟨Below.refl _ _⟩, ⟨fun y hy => by simp at hy⟩⟩
  case round =>
    obtain ⟨i, X, rfl, i0, i1, hlX, HX, HR, HB, HOK⟩ := hrel
    by_cases hi : i < (es.length : Int)
    · have c6 : decide (i < (es.length : Int)) = true := decide_eq_true hi
      have hxe := rd48_at i0 hi
      obtain ⟨ad, A6, c6', rfl, y0, y1, y2, y3, hc6, hC6⟩ := at_T48 (Kd.C_below (Kd.F_now HE.out) HB.out) i i0 hi
      have htk : es.take (i + 1).toNat = es.take i.toNat ++ [rd_T48 es i] := by
        rw [show (i + 1).toNat = i.toNat + 1 by omega, List.take_add_one, hxe]; rfl
      have hobx := HOB.out _ (List.mem_of_getElem? hxe)
      have hxe2 : es[i.toNat]? = some (rd_T48 es i) := hxe
      obtain ⟨x, hx⟩ : ∃ x, rd_T48 es i = x := ⟨_, rfl⟩
      rw [hx] at y0 y1 y2 y3 hc6 hC6 htk hobx hxe2
      have HTK := Aside0.mk htk
      have HC6 := Aside0.mk hC6
      have HXE := Aside0.mk hxe2
      obtain ⟨e, he⟩ : ∃ e, entErr x.f0 x.f1 x.f2 x.f3 = e := ⟨_, rfl⟩
      have p0 := eq_true i0
      have p1 := eq_true hi
      have hni : IntKind.i64.wrap (i + 1) = i + 1 := IntWalk.i64_in _ ⟨by omega, by omega⟩
      obtain ⟨Av, cv, rfl⟩ := Kd.R_slice HR.out
      by_cases he0 : e = 0
      · have heok : EOk x := ⟨he.trans he0, hobx⟩
        have HEO := Aside0.mk heok
        obtain ⟨Z, hZ⟩ : ∃ Z, entBytes x.f0 x.f1 x.f2 x.f3 = Z := ⟨_, rfl⟩
        have hzl : Z.length ≤ 2067 := by rw [← hZ]; exact (entBytes_len (ent_bad heok).1 (ent_bad heok).2).2
        have HZ := Aside0.mk hZ
        clear htk hC6 hx hZ heok he he0 hobx hxe hxe2
        go_wp2_with fail
        refine (wire_PutEntry.calls 20 _ _ _ A6 c6' x.f3 Z 0 _ (Kd.C_below HC6.out (below_alloc (Below.refl _ _) _)) hc6 (by rw [PutEntry_f (by omega), if_pos HEO.out.1, HZ.out])).mono ?_
        rintro e w6 ⟨v6, rfl, hR6, hB6⟩
        have hB6' := below_step (below_alloc (Below.refl wr.heap.size wr) _) hB6
        have HB6 := Aside0.mk (below_step HB.out hB6')
        have HR6 := Aside0.mk (Kd.R_below HR.out hB6')
        obtain ⟨A7, c7, rfl⟩ := Kd.R_slice hR6
        have HC7 := Aside0.mk (Kd.R_reads' hR6).2.2
        have hc7 := (Kd.R_reads' hR6).2.1
        clear hR6 hB6 hB6' y0 y1 y2 y3 HR HB
        go_wp2_with fail
        refine (record_calls 3 HC7.out hc7 (by omega)).mono ?_
        rintro e w7 ⟨v7, rfl, hR7, hB7⟩
        have HB7 := Aside0.mk (below_step HB6.out hB7)
        have HR7 := Aside0.mk (Kd.R_below HR6.out hB7)
        obtain ⟨F7, hF7⟩ : ∃ F, frameB (3 :: Z) = F := ⟨_, rfl⟩
        have hlf : F7.length ≤ 3000 := by rw [← hF7, frameB_len, List.length_cons]; omega
        rw [hF7] at hR7
        have HF7 := Aside0.mk hF7
        obtain ⟨A8, c8, rfl⟩ := Kd.R_slice hR7
        have HC8 := Aside0.mk (Kd.R_reads' hR7).2.2
        clear hR7 hB7 hF7 hc7
        go_wp2_with (first
          | ((with_reducible refine gate_builtin (b := .append) (xs := #[.tmp 31, .tmp 33]) rfl ?_); at_builtin; refine Kd.R_append_rows k8 (w0 := W) W.heap.size (by rfl) (.tmp 31) (.tmp 33) 22 5 (.int .u8 0) 1 (by rfl) Try.underlying22 info5 (by rfl) (by decide) (by decide) _ X F7 A8 F7.length c8 (fun _ => True) (fun _ => False) (by rfl) (by rfl) HR7.out HC8.out (fun _ _ h => h) (fun _ h => h.elim) (fun _ _ => trivial) HB7.out HB7.out.size (by omega) ?_; intro v9 w9 hR hb9 hg hat; obtain ⟨X9, hX9⟩ : ∃ Y, X ++ F7 = Y := ⟨_, rfl⟩; rw [hX9] at hR; have HX9 := Aside0.mk hX9; clear hX9; have HO9 := Aside0.mk hR; have HB9 := Aside0.mk hb9; clear hR hb9 hg hat)
          | fail)
        go_roundg (gk - 1)
        case measure => omega
        case rel =>
          refine ⟨i + 1, X9, rfl, by omega, by omega, ?_, ⟨?_⟩, HO9, HB9, ⟨fun y hy => ?_⟩⟩
          · have := HX9.out; rw [← this, List.length_append]; omega
          · have h1 := HX9.out
            have h2 := HX.out
            rw [← h1, h2, HTK.out, List.map_append]
            refine (congrArg _ ?_).trans (recsB_snoc _ (.ent x)).symm
            rw [← HF7.out, ← HZ.out]; rfl
          · rw [HTK.out] at hy
            rcases List.mem_append.1 hy with hy | hy
            · exact HOK.out y hy
            · rw [List.mem_singleton.1 hy]; exact HEO.out
      · have hes : entsErr es = e := entsErr_at (fun y hy => (HOK.out y hy).1) HXE.out he he0
        have HRR := Aside0.mk (show R = (e, D, M) by rw [← HR0.out, if_pos (by rw [hes]; exact he0), hes])
        have HHE := Aside0.mk he
        have t1 : (e != 0) = true := by simpa using he0
        have t2 : (e == 0) = false := beq_eq_false_iff_ne.mpr he0
        have HPE := Aside0.mk (show ∀ w, k8.C w A6 x.f3.length x.f3 → Calls Try.prog 70 #[.agg #[.int .i64 x.f0, .int .i64 x.f1, .int .i64 x.f2, .slice A6 x.f3.length c6']] w fun e' w' => ∃ v0_ : Value, e' = .returned (.tuple #[v0_, .int .i64 e]) ∧ k8.R 5 w' w.heap.size (fun _ => True) v0_ [] ∧ Below w.heap.size w w' from fun w hw =>
          wire_PutEntry.calls 20 _ _ _ A6 c6' x.f3 [] e w hw hc6 (by rw [PutEntry_f (by omega), he, if_neg he0]))
        clear htk hC6 hx he he0 hobx hxe hxe2 hes
        go_wp2_with fail
        refine (HPE.out _ (Kd.C_below HC6.out (below_alloc (Below.refl _ _) _))).mono ?_
        rintro e6 w6 ⟨v6, rfl, hR6, hB6⟩
        have HB6 := Aside0.mk (below_step HB.out (below_step (below_alloc (Below.refl wr.heap.size wr) _) hB6))
        clear hR6 hB6
        go_wp2_with fail
        go_ret
        rw [HRR.out]
        exact ⟨rfl, S, Q, (HW.out.below HB6.out).mono (by omega), Bys.of_below HB6.out, fun _ _ h => h⟩
    · have c6 : decide (i < (es.length : Int)) = false := decide_eq_false hi
      have he : i.toNat = es.length := by omega
      have hall : ∀ y ∈ es, EOk y := by have := HOK.out; rw [he, List.take_length] at this; exact this
      have HALL := Aside0.mk hall
      have HXF := Aside0.mk (show X = recsB (es.map .ent) by rw [HX.out, he, List.take_length])
      have HES := Aside0.mk (entsErr_all (fun y hy => (hall y hy).1))
      have hlX2 : X.length ≤ 3000 * es.length := by omega
      clear he hall hlX HX HOK
      obtain ⟨Av, cv, rfl⟩ := Kd.R_slice HR.out
      go_wp2_with fail
      obtain ⟨wo, rfl⟩ : ∃ wo : World, wo = wr := ⟨_, rfl⟩
      clear c6 i0 i1 hi
      go_loopg [38] es.length (fun kq v38 w' => ∃ i : Int, v38 = .int .i64 i ∧ 0 ≤ i ∧ i + kq = es.length ∧ Aside0 (Below wo.heap.size wo w') ∧ Aside0 (∀ j : Nat, (j : Int) < i → chkAt M.st es j))
      case atStart => exact ⟨0, rfl, by omega, by omega, ⟨Below.refl _ _⟩, ⟨fun j hj => absurd hj (by omega)⟩⟩
      case round =>
        obtain ⟨i, rfl, i0, i1, HB2, HCK⟩ := hrel
        by_cases hi : i < (es.length : Int)
        · have c6 : decide (i < (es.length : Int)) = true := decide_eq_true hi
          have HBW := Aside0.mk (below_step HB.out HB2.out)
          have hCr := Kd.C_below (Kd.F_now HE.out) HBW.out
          obtain ⟨ad, A6, c6', rfl, y0, y1, y2, y3, hc6, hC6⟩ := at_T48 hCr i i0 hi
          have hxe := rd48_at i0 hi
          have hxo := (ent_bad (HALL.out _ (List.mem_of_getElem? hxe))).1
          have hck : chkAt M.st es i.toNat ↔ if i.toNat = 0 then M.st.bi < (rd_T48 es 0).f2 ∧ (rd_T48 es 0).f2 ≤ M.st.last + 1 else (rd_T48 es (i.toNat : Int)).f2 = (rd_T48 es ((i.toNat : Int) - 1)).f2 + 1 := Iff.rfl
          have hii : (i.toNat : Int) = i := by omega
          rw [hii] at hck
          obtain ⟨x, hx⟩ : ∃ x, rd_T48 es i = x := ⟨_, rfl⟩
          have p0 := eq_true i0
          have p1 := eq_true hi
          have hni : IntKind.i64.wrap (i + 1) = i + 1 := IntWalk.i64_in _ ⟨by omega, by omega⟩
          have HWa := Aside0.mk ((HW.out.below HBW.out).below (below_alloc (Below.refl _ _) (.cells #[.int .i64 x.f0, .int .i64 x.f1, .int .i64 x.f2, .slice A6 x.f3.length c6'] 48)))
          have HBa := Aside0.mk (below_alloc HBW.out (.cells #[.int .i64 x.f0, .int .i64 x.f1, .int .i64 x.f2, .slice A6 x.f3.length c6'] 48))
          have HLQ := Aside0.mk (show ∀ n, Calls Try.prog 29 #[.pointer (some ⟨L, 0, none⟩)] ((wr.alloc (.cells #[.int .i64 x.f0, .int .i64 x.f1, .int .i64 x.f2, .slice A6 x.f3.length c6'] 48)).drewN n) fun e w' => e = .returned (.int .i64 M.st.last) ∧ ∃ m, w' = (wr.alloc (.cells #[.int .i64 x.f0, .int .i64 x.f1, .int .i64 x.f2, .slice A6 x.f3.length c6'] 48)).drewN m from fun n => ((HWa.out.below (pw_below_drewN (Below.refl _ _) n)).last HM.out).mono (fun _ _ hh => ⟨hh.1, n + 1, by rw [hh.2, World.drewN_drewN]⟩))
          obtain ⟨AL, cL, ⟨ka1, _, _, _, _⟩, _⟩ := HWa.out.cell1
          rw [hx] at y0 y1 y2 y3 hc6 hC6 hck hxo
          unfold entBad at hxo
          have hlast : M.st.last = M.st.bi + M.st.es.length := rfl
          obtain ⟨la, hla⟩ : ∃ la, M.st.last = la := ⟨_, rfl⟩
          obtain ⟨bi, hbi⟩ : ∃ bi, M.st.bi = bi := ⟨_, rfl⟩
          rw [hla, hbi] at hck hlast
          rw [hla] at HLQ
          rw [hbi] at ka1
          have hmb : 0 ≤ bi ∧ bi ≤ 1099511627776 := by rw [← hbi]; exact hmk.1
          have hwl : IntKind.i64.wrap (la + 1) = la + 1 := IntWalk.i64_in _ ⟨by omega, by omega⟩
          have hnck : ¬ chkAt M.st es i.toNat → R = (2, D, M) := fun hn => by
            rw [← HR0.out, if_neg (by rw [HES.out]; decide), if_pos (fun hf => hn (fits_at hf (by omega)))]
          have HNC := Aside0.mk hnck
          have HCY : Aside0 (chkAt M.st es i.toNat → ∀ j : Nat, (j : Int) < i + 1 → chkAt M.st es j) := ⟨fun hy j hj => by
            by_cases hji : (j : Int) < i
            · exact HCK.out j hji
            · have : j = i.toNat := by omega
              rw [this]; exact hy⟩
          by_cases hz : i = 0
          · have hzb : (i == 0) = true := by rw [hz]; rfl
            have c00 : decide (0 < i) = false := decide_eq_false (by omega)
            rw [if_pos (show i.toNat = 0 by omega), show rd_T48 es 0 = x from by rw [← hx, hz]] at hck
            by_cases h1 : x.f2 ≤ bi
            · have c1 : decide (x.f2 ≤ bi) = true := decide_eq_true h1
              have HRR := Aside0.mk (HNC.out (fun hc => by have := hck.1 hc; omega))
              clear hck hx hC6 hxe hla hbi hlast hnck hCr hz
              go_wp2_with fail
              go_quiet ((go_at_call 29; exact HLQ.out _))
              go_wp2_with fail
              go_ret
              rw [HRR.out]
              exact ⟨rfl, S, Q, (HWa.out.below (pw_below_drewN (Below.refl _ _) _)).mono (by omega), Bys.of_below (pw_below_drewN HBa.out _), fun _ _ h => h⟩
            · have c1 : decide (x.f2 ≤ bi) = false := decide_eq_false h1
              by_cases h2 : la + 1 < x.f2
              · have c2 : decide (la + 1 < x.f2) = true := decide_eq_true h2
                have HRR := Aside0.mk (HNC.out (fun hc => by have := hck.1 hc; omega))
                clear hck hx hC6 hxe hla hbi hlast hnck hCr hz
                go_wp2_with fail
                go_quiet ((go_at_call 29; exact HLQ.out _))
                go_wp2_with fail
                go_ret
                rw [HRR.out]
                exact ⟨rfl, S, Q, (HWa.out.below (pw_below_drewN (Below.refl _ _) _)).mono (by omega), Bys.of_below (pw_below_drewN HBa.out _), fun _ _ h => h⟩
              · have c2 : decide (la + 1 < x.f2) = false := decide_eq_false h2
                have HCN := Aside0.mk (HCY.out (hck.2 (by omega)))
                clear hck hx hC6 hxe hla hbi hlast hnck hCr hz
                go_wp2_with fail
                go_quiet ((go_at_call 29; exact HLQ.out _))
                go_wp2_with fail
                go_roundg (gk - 1)
                case measure => omega
                case rel => exact ⟨i + 1, rfl, by omega, by omega, ⟨pw_below_drewN (below_alloc HB2.out _) _⟩, HCN⟩
          · have hz0 : ¬ i.toNat = 0 := by omega
            rw [if_neg hz0] at hck
            have hzb : (i == 0) = false := beq_eq_false_iff_ne.mpr hz
            have hpos : (0 : Int) < i := by omega
            have c0 : decide (0 < i) = true := decide_eq_true hpos
            obtain ⟨d, hd⟩ : ∃ d, i - 1 = d := ⟨_, rfl⟩
            have hwd : IntKind.i64.wrap (i - 1) = d := by rw [← hd]; exact IntWalk.i64_in _ ⟨by omega, by omega⟩
            have d0 : (0 : Int) ≤ d := by omega
            have d1 : d < (es.length : Int) := by omega
            rw [hd] at hck
            obtain ⟨ad', A7, c7', had, z0, z1, z2, z3, _⟩ := at_T48 hCr d d0 d1
            injection had with had
            subst had
            have hyo := (ent_bad (HALL.out _ (List.mem_of_getElem? (rd48_at d0 d1)))).1
            unfold entBad at hyo
            obtain ⟨y, hy⟩ : ∃ y, rd_T48 es d = y := ⟨_, rfl⟩
            rw [hy] at z2 hck hyo
            have hwy : IntKind.i64.wrap (y.f2 + 1) = y.f2 + 1 := IntWalk.i64_in _ ⟨by omega, by omega⟩
            have za2 := ((below_alloc (Below.refl wr.heap.size wr) (.cells #[.int .i64 x.f0, .int .i64 x.f1, .int .i64 x.f2, .slice A6 x.f3.length c6'] 48)).cell (World.block_lt_of_cell? wr _ z2)).trans z2
            by_cases h1 : x.f2 = y.f2 + 1
            · have c1 : (x.f2 != y.f2 + 1) = false := by simp [bne, h1]
              have HCN := Aside0.mk (HCY.out (hck.2 h1))
              have e1 := eq_true d0
              have e2 := eq_true d1
              clear hck hx hC6 hxe hla hbi hlast hnck hCr hd hy z0 z1 z2 z3 hz h1
              go_wp2_with fail
              go_quiet ((go_at_call 29; exact HLQ.out _))
              go_wp2_with fail
              go_roundg (gk - 1)
              case measure => omega
              case rel => exact ⟨i + 1, rfl, by omega, by omega, ⟨pw_below_drewN (below_alloc HB2.out _) _⟩, HCN⟩
            · have c1 : (x.f2 != y.f2 + 1) = true := by simpa using h1
              have HRR := Aside0.mk (HNC.out (fun hc => h1 (hck.1 hc)))
              have e1 := eq_true d0
              have e2 := eq_true d1
              clear hck hx hC6 hxe hla hbi hlast hnck hCr hd hy z0 z1 z2 z3 hz h1
              go_wp2_with fail
              go_quiet ((go_at_call 29; exact HLQ.out _))
              go_wp2_with fail
              go_ret
              rw [HRR.out]
              exact ⟨rfl, S, Q, (HWa.out.below (pw_below_drewN (Below.refl _ _) _)).mono (by omega), Bys.of_below (pw_below_drewN HBa.out _), fun _ _ h => h⟩
        · have c6 : decide (i < (es.length : Int)) = false := decide_eq_false hi
          have he : i = es.length := by omega
          have HFT := Aside0.mk (show fitsOk M.st es from fits_of (fun j hj => HCK.out j (by omega)))
          clear he HCK
          have HBW := Aside0.mk (below_step HB.out HB2.out)
          have HWr := Aside0.mk (HW.out.below HBW.out)
          have HRr := Aside0.mk (Kd.R_below HR.out HB2.out)
          have HR1 := Aside0.mk (show R = if es = [] then (0, D, M) else if (lgPut D M X).1 = 0 then (0, (lgPut D M X).2.1, { (lgPut D M X).2.2 with st := M.st.adds es }) else lgPut D M X by
            rw [← HR0.out, if_neg (by rw [HES.out]; decide), if_neg (fun hn => hn HFT.out), HXF.out])
          by_cases hemp : es = []
          · have c1 : ((es.length : Int) == 0) = true := by rw [hemp]; rfl
            have HRR := Aside0.mk (show R = (0, D, M) by rw [HR1.out, if_pos hemp])
            clear hemp
            go_wp2_with fail
            go_ret
            rw [HRR.out]
            exact ⟨rfl, S, Q, HWr.out.mono (by omega), Bys.of_below HBW.out, fun _ _ h => h⟩
          have hlp : 0 < es.length := Nat.pos_of_ne_zero (fun h => hemp (List.eq_nil_of_length_eq_zero h))
          have c1 : ((es.length : Int) == 0) = false := beq_eq_false_iff_ne.mpr (by omega)
          obtain ⟨P, hP⟩ : ∃ P, lgPut D M X = P := ⟨_, rfl⟩
          have HST := Aside0.mk (show P.2.2.st = M.st by rw [← hP]; exact put_st D M X)
          have HR2 := Aside0.mk (show R = if P.1 = 0 then (0, P.2.1, { P.2.2 with st := M.st.adds es }) else P by rw [HR1.out, if_neg hemp, hP])
          have HPC := Aside0.mk (put_calls HWr.out HM.out hN hn HNM.out (F_new (w2 := wr) HW.out (Nat.le_refl _) HRr.out) (Kd.R_reads' HRr.out).2.1 (by omega))
          rw [hP] at HPC
          clear hP hemp
          go_wp2_with fail
          refine HPC.out.mono ?_
          rintro e w4 ⟨rfl, S4, Q4, hw4, hB4, hq4⟩
          have HW4 := Aside0.mk hw4
          have HB4 := Aside0.mk ((Bys.of_below (S := S) (L := L) HBW.out).trans hB4)
          have HQ4 := Aside0.mk (show ∀ k, k < W.heap.size → Q4 k → Q k from fun k hk h4 => hq4 k (Nat.lt_of_lt_of_le hk HBW.out.size) h4)
          obtain ⟨p, hp⟩ : ∃ p, P.1 = p := ⟨_, rfl⟩
          have HPP := Aside0.mk hp
          rw [hp] at HR2 ⊢
          clear hw4 hB4 hq4 hp
          by_cases hp0 : p = 0
          · have t1 : (p == 0) = true := by rw [hp0]; rfl
            have t2 : (p != 0) = false := by simp [bne, t1]
            have HRR := Aside0.mk (show R = (0, P.2.1, { P.2.2 with st := M.st.adds es }) by rw [HR2.out, if_pos hp0])
            clear hp0
            have HE4 := Aside0.mk (F_bysE HB4.out HE.out HB4.out.size)
            have HCP := Aside0.mk (copied_calls (c := ce) HE4.out (by omega) (fun x hx => Nat.le_trans (ent_bad (HALL.out x hx)).2 (by omega)))
            go_wp2_with fail
            refine HCP.out.mono ?_
            rintro e5 w5 ⟨v5, rfl, hn5, hb5⟩
            have hmid := compact_mid (v := v5) (l := es) HW4.out (Kd.N_mono hn5 (fun k hk => .inr hk)) hb5
            obtain ⟨A5, c5, rfl⟩ := Kd.N_slice hn5
            obtain ⟨Q5, hmw, hmv, hmq⟩ : ∃ Q5 : Nat → Prop, Wl W0 w5 S4 Q5 g (N + 2) L P.2.1 P.2.2 ∧ Kd.V k48 48 w5 0 (fun k => Q5 k ∧ k ≠ L) (.slice A5 es.length c5) es ∧ ∀ k, Q5 k → Q4 k ∨ (w4.heap.size ≤ k ∧ k < w5.heap.size) := ⟨_, hmid.1, hmid.2, fun _ h => h⟩
            have HW5 := Aside0.mk hmw
            have HV5 := Aside0.mk hmv
            have HB5 := Aside0.mk (HB4.out.trans (Bys.of_below hb5))
            have HHQ5 := Aside0.mk (show ∀ k, k < W.heap.size → Q5 k → Q k from fun k hk hh => (hmq k hh).elim (fun h4 => HQ4.out k hk h4) (fun h4 => absurd hk (Nat.not_lt.2 (Nat.le_trans HB4.out.size h4.1))))
            clear hmid hn5 hb5 hmw hmv hmq
            go_wp2_with fail
            go_loopg [93] es.length (fun kq v93 w' => ∃ i : Int, v93 = .int .i64 i ∧ 0 ≤ i ∧ i + kq = es.length ∧ Aside0 (Below w5.heap.size w5 w5) ∧ Aside0 (∃ S' Q', Wl W0 w' S' Q' g (N + 2) L P.2.1 { P.2.2 with st := M.st.adds (es.take i.toNat) } ∧ Bys w5 S4 w' S' L ∧ (∀ k, Q5 k → Q' k) ∧ ∀ k, k < w5.heap.size → Q' k → Q5 k))
            case atStart =>
              refine ⟨0, rfl, by omega, by omega, ⟨Below.refl _ _⟩, ⟨S4, Q5, ?_, Bys.refl _ _ _, fun _ h => h, fun _ _ h => h⟩⟩
              have e1 : ({ P.2.2 with st := M.st.adds (es.take (0 : Int).toNat) } : LM) = P.2.2 := by
                rw [show es.take (0 : Int).toNat = [] from rfl, show M.st.adds [] = M.st from rfl, ← HST.out]
              rw [e1]
              exact HW5.out
            case round =>
              obtain ⟨i, rfl, i0, i1, _, HREL⟩ := hrel
              by_cases hi : i < (es.length : Int)
              · have c6 : decide (i < (es.length : Int)) = true := decide_eq_true hi
                obtain ⟨S6, Q6, hw6, hB6, hq6, hq6'⟩ := HREL.out
                have hV6 := V_bys hB6 (fun k hk => (HW5.out.q k hk).2.2) HV5.out
                obtain ⟨ad, A6, c6', hA5, y0, y1, y2, y3, hc6, hF6⟩ := at_T48F (Kd.V_F hV6) i i0 hi
                subst hA5
                have hxe := rd48_at i0 hi
                have heok := HALL.out _ (List.mem_of_getElem? hxe)
                have hfit := (adds_fit HFT.out i.toNat (by omega)).1
                have hado := adds_ok HM.out.st HFT.out HALL.out i.toNat (by omega)
                have hii : (i.toNat : Int) = i := by omega
                rw [hii] at hfit
                have htk : es.take (i + 1).toNat = es.take i.toNat ++ [rd_T48 es i] := by
                  rw [show (i + 1).toNat = i.toNat + 1 by omega, List.take_add_one, hxe]; rfl
                obtain ⟨x, hx⟩ : ∃ x, rd_T48 es i = x := ⟨_, rfl⟩
                rw [hx] at y0 y1 y2 y3 hc6 hF6 heok hfit htk
                have HADN := Aside0.mk (show M.st.adds (es.take (i + 1).toNat) = (M.st.adds (es.take i.toNat)).add x by rw [htk, adds_snoc])
                have hba := below_drew1 (below_alloc (Below.refl wr.heap.size wr) (.cells #[.int .i64 x.f0, .int .i64 x.f1, .int .i64 x.f2, .slice A6 x.f3.length c6'] 48))
                have HBa := Aside0.mk hba
                have HWa := Aside0.mk (hw6.below hba)
                have HADD := Aside0.mk (add_w HWa.out hado.1 (by dsimp only; omega) (Kd.F_mono (Kd.F_below hF6 hba) (fun k hk => ⟨hq6 k hk.1, hk.2⟩)) hc6 heok hfit)
                have HB6 := Aside0.mk (hB6.trans (Bys.of_below hba))
                have HQ6 := Aside0.mk (And.intro hq6 hq6')
                have p0 := eq_true i0
                have p1 := eq_true hi
                have hni : IntKind.i64.wrap (i + 1) = i + 1 := IntWalk.i64_in _ ⟨by omega, by omega⟩
                clear hw6 hB6 hq6 hq6' hV6 hF6 hxe heok hfit hado hii htk hx hba
                go_wp2_with fail
                go_region_law (go_simp; go_at_call 74; refine HADD.out.mono ?_; rintro e9 w9 ⟨rfl, hnl⟩; have HNL := Aside0.mk hnl; clear hnl)
                go_wp2_with fail
                obtain ⟨S9, Q9, hw9, hB9, hq9, hq9'⟩ := HNL.out
                have HFN := Aside0.mk (show ∃ S' Q', Wl W0 w9 S' Q' g (N + 2) L P.2.1 { P.2.2 with st := M.st.adds (es.take (i + 1).toNat) } ∧ Bys w5 S4 w9 S' L ∧ (∀ k, Q5 k → Q' k) ∧ ∀ k, k < w5.heap.size → Q' k → Q5 k from
                  ⟨S9, Q9, by rw [HADN.out]; exact hw9, HB6.out.trans hB9, fun k hk => hq9' k (HQ6.out.1 k hk), fun k hk h9 => HQ6.out.2 k hk (hq9 k (Nat.lt_of_lt_of_le hk HB6.out.size) h9)⟩)
                clear hw9 hB9 hq9 hq9'
                go_roundg (gk - 1)
                case measure => omega
                case rel => exact ⟨i + 1, rfl, by omega, by omega, ⟨Below.refl _ _⟩, HFN⟩
              · have c6 : decide (i < (es.length : Int)) = false := decide_eq_false hi
                have he : i.toNat = es.length := by omega
                have HREL2 := HREL
                rw [he, List.take_length] at HREL2
                clear he
                go_wp2_with fail
                go_ret
                rw [HRR.out]
                obtain ⟨S6, Q6, hw6, hB6, hq6, hq6'⟩ := HREL2.out
                exact ⟨rfl, S6, Q6, hw6, HB5.out.trans hB6, fun k hk h6 => HHQ5.out k hk (hq6' k (Nat.lt_of_lt_of_le hk HB5.out.size) h6)⟩
          · have t1 : (p == 0) = false := beq_eq_false_iff_ne.mpr hp0
            have t2 : (p != 0) = true := by simp [bne, t1]
            have HRR := Aside0.mk (show R = P by rw [HR2.out, if_neg hp0])
            clear hp0
            go_wp2_with fail
            go_ret
            rw [HRR.out]
            exact ⟨by rw [HPP.out]; rfl, S4, Q4, HW4.out, HB4.out, HQ4.out⟩
end Go.Proofs.Ytmmiipnmimjojaa.PS
end
section
namespace Go.Proofs.Ytmmiipnmimjojaa.PS
open Go.RowKit Go.Proofs.YtmmiipnmimjojaaW.PrintWords Go.Proofs.YtmmiipnmimjojaaW.PrintLast Go.Proofs.YtmmiipnmimjojaaW.PrintMore
attribute [local go_sem] max2_int min2_int max_two min_two max_three min_three max_four min_four   -- for this text's walks alone
set_option linter.unusedVariables false
set_option linter.unusedSimpArgs false

mutual
def wal_number.j0 : Nat → ByteArray → Bool → Option (Int)
  | 0, _, _ => none
  | k + 1, x0, x22 => if x22 = true then (some 0) else (wal_number.l0 k x0 0 4)
def wal_number.l0 : Nat → ByteArray → Int → Int → Option (Int)
  | 0, _, _, _ => none
  | k + 1, x0, x3, x4 => if x4 < (x0.size : Int) then (if 0 ≤ x4 then (if (bt x0 x4) < 48 then (some 0) else (if (bt x0 x4) > 57 then (some 0) else (wal_number.l0 k x0 (wrap64 ((wrap64 (10 * x3)) + (((bt x0 x4) - 48) % 256))) (wrap64 (x4 + 1))))) else (none)) else (if x3 > 1099511627776 then (some 0) else (some x3))
end
def wal_number.f (k : Nat) (a0 : ByteArray) : Option (Int) := if (a0.size : Int) < 5 then (wal_number.j0 k a0 true) else (if (a0.size : Int) > 17 then (wal_number.j0 k a0 true) else (if 0 ≤ 4 then (if 4 ≤ (a0.size : Int) then (if (a0.extract 0 4).toList = ([119, 97, 108, 45] : List UInt8) then (if 4 < (a0.size : Int) then (wal_number.j0 k a0 ((bt a0 4) == 48)) else (none)) else (wal_number.j0 k a0 true)) else (none)) else (none)))
theorem wal_number.mono_l : ∀ k, (∀ y0 y1, LeO (wal_number.j0 k y0 y1) (wal_number.j0 (k + 1) y0 y1)) ∧ (∀ y0 y1 y2, LeO (wal_number.l0 k y0 y1 y2) (wal_number.l0 (k + 1) y0 y1 y2))
  | 0 => ⟨fun _ _ r h => by simp [wal_number.j0] at h, fun _ _ _ r h => by simp [wal_number.l0] at h⟩
  | k + 1 => by
    obtain ⟨ih0, ih1⟩ := wal_number.mono_l k
    refine ⟨?_, ?_⟩
    · intro y0 y1
      unfold wal_number.j0
      repeat' first
      | (with_reducible exact ih0 _ _)
      | (with_reducible exact ih1 _ _ _)
      | (with_reducible exact LeO.refl _)
      | (with_reducible exact LeO.none _)
      | (with_reducible refine LeO.ite ?_ ?_)
      | (with_reducible refine LeO.bind ?_ (fun _ => ?_))
      | exact ih0 _ _
      | exact ih1 _ _ _
      | exact LeO.none _
      | refine LeO.ite ?_ ?_
      | refine LeO.bind ?_ (fun _ => ?_)
    · intro y0 y1 y2
      unfold wal_number.l0
      repeat' first
      | (with_reducible exact ih0 _ _)
      | (with_reducible exact ih1 _ _ _)
      | (with_reducible exact LeO.refl _)
      | (with_reducible exact LeO.none _)
      | (with_reducible refine LeO.ite ?_ ?_)
      | (with_reducible refine LeO.bind ?_ (fun _ => ?_))
      | exact ih0 _ _
      | exact ih1 _ _ _
      | exact LeO.none _
      | refine LeO.ite ?_ ?_
      | refine LeO.bind ?_ (fun _ => ?_)
theorem wal_number.mono : ∀ a0 k, LeO (wal_number.f k a0) (wal_number.f (k + 1) a0) := by
  intro a0 k
  obtain ⟨ih0, ih1⟩ := wal_number.mono_l k
  unfold wal_number.f
  repeat' first
      | (with_reducible exact ih0 _ _)
      | (with_reducible exact ih1 _ _ _)
      | (with_reducible exact LeO.refl _)
      | (with_reducible exact LeO.none _)
      | (with_reducible refine LeO.ite ?_ ?_)
      | (with_reducible refine LeO.bind ?_ (fun _ => ?_))
      | exact ih0 _ _
      | exact ih1 _ _ _
      | exact LeO.none _
      | refine LeO.ite ?_ ?_
      | refine LeO.bind ?_ (fun _ => ?_)
set_option maxHeartbeats 8000000 in
set_option maxRecDepth 100000 in
theorem wal_number.calls (k : Nat) (a0 : ByteArray) (r : Int) (w : World) (h : wal_number.f k a0 = some r) :
    Calls Try.prog 66 #[.string a0] w fun e w' => e = .returned (.int .i64 r) ∧ Drawn0 w w' := by
  have H : (if (a0.size : Int) < 5 then (wal_number.j0 k a0 true) else (if (a0.size : Int) > 17 then (wal_number.j0 k a0 true) else (if 0 ≤ 4 then (if 4 ≤ (a0.size : Int) then (if (a0.extract 0 4).toList = ([119, 97, 108, 45] : List UInt8) then (if 4 < (a0.size : Int) then (wal_number.j0 k a0 ((bt a0 4) == 48)) else (none)) else (wal_number.j0 k a0 true)) else (none)) else (none)))) = some r := h
  clear h
  have HC2 := Aside0.mk H
  clear H
  go_enter Try.func66, Try.ntmps66
  go_upto_region 1 with (fail)
  go_cut [22] (fun v22 wc => ∃ (kq : Nat) (x22_1 : Bool), v22 = .bool x22_1 ∧ Aside0 (wal_number.j0 kq a0 x22_1 = some r) ∧ Aside0 (kq ≤ k) ∧ Drawn0 w wc)
  case first =>
    have H := HC2.out
    clear HC2
    by_cases c3 : (a0.size : Int) < 5
    · rw [if_pos c3] at H
      have c3b0 : decide ((a0.size : Int) < 5) = true := decide_eq_true c3
      have c3b1 : decide (a0.size < 5) = true := decide_eq_true (by omega)
      clear c3
      (first | rw [c3b0] | (simp only [i64_w, i32_w]; rw [c3b0]) | skip)
      have H' := Aside0.mk H
      clear H
      go_wp2
      go_meet
      case rel => exact ⟨_, (true), (by first | rfl | (simp; done) | (simp [*]; done)), H', ⟨by first | omega | exact Nat.le_refl _⟩, by repeat (first | exact Drawn0.refl _ | apply Drawn0.step)⟩
    · rw [if_neg c3] at H
      have c3b0 : decide ((a0.size : Int) < 5) = false := decide_eq_false c3
      have c3b1 : decide (a0.size < 5) = false := decide_eq_false (by omega)
      clear c3
      (first | rw [c3b0] | (simp only [i64_w, i32_w]; rw [c3b0]) | skip)
      by_cases c4 : (a0.size : Int) > 17
      · rw [if_pos c4] at H
        have c4b0 : decide (17 < (a0.size : Int)) = true := decide_eq_true c4
        have c4b1 : decide (17 < a0.size) = true := decide_eq_true (by omega)
        clear c4
        have H' := Aside0.mk H
        clear H
        go_wp2
        go_meet
        case rel => exact ⟨_, (true), (by first | rfl | (simp; done) | (simp [*]; done)), H', ⟨by first | omega | exact Nat.le_refl _⟩, by repeat (first | exact Drawn0.refl _ | apply Drawn0.step)⟩
      · rw [if_neg c4] at H
        have c4b0 : decide (17 < (a0.size : Int)) = false := decide_eq_false c4
        have c4b1 : decide (17 < a0.size) = false := decide_eq_false (by omega)
        clear c4
        by_cases c5 : 0 ≤ 4
        · rw [if_pos c5] at H
          have c5b0 := eq_true c5
          have c5b1 : decide (0 ≤ 4) = true := decide_eq_true c5
          clear c5
          by_cases c6 : 4 ≤ (a0.size : Int)
          · rw [if_pos c6] at H
            have c6b0 := eq_true c6
            have c6b1 : decide (4 ≤ (a0.size : Int)) = true := decide_eq_true c6
            clear c6
            by_cases c7 : (a0.extract 0 4).toList = ([119, 97, 108, 45] : List UInt8)
            · rw [if_pos c7] at H
              have c7b0 : ((a0.extract 0 4).toList == ([119, 97, 108, 45] : List UInt8)) = true := beq_iff_eq.mpr c7
              have c7b1 : ((a0.extract 0 4).toList != ([119, 97, 108, 45] : List UInt8)) = false := bne_eq_false_iff_eq.mpr c7
              clear c7
              by_cases c8 : 4 < (a0.size : Int)
              · rw [if_pos c8] at H
                have c8b0 : decide (4 < (a0.size : Int)) = true := decide_eq_true c8
                have c8b1 : decide (4 < a0.size) = true := decide_eq_true (by omega)
                clear c8
                have H' := Aside0.mk H
                clear H
                have p9 : 0 ≤ (4 : Int) := (by omega)
                have q9 : 4 < a0.size := (by have : (4 : Int) < (a0.size : Int) := of_decide_eq_true (by first | (with_reducible assumption) | assumption); omega)
                have hx9 : ∀ h : 4 < a0.size, ((a0[4]'h).toNat : Int) = bt a0 4 := bt_at a0 4
                clear p9
                have qi9 : (4 < (a0.size : Int)) = True := eq_true (of_decide_eq_true (by first | (with_reducible assumption) | assumption))
                replace q9 := eq_true q9
                go_wp2
                go_meet
                case rel => exact ⟨_, (((bt a0 4) == 48)), (by first | rfl | (simp; done) | (simp [*]; done)), H', ⟨by first | omega | exact Nat.le_refl _⟩, by repeat (first | exact Drawn0.refl _ | apply Drawn0.step)⟩
              · rw [if_neg c8] at H
                exact absurd H (by simp)
            · rw [if_neg c7] at H
              have c7b0 : ((a0.extract 0 4).toList == ([119, 97, 108, 45] : List UInt8)) = false := beq_eq_false_iff_ne.mpr c7
              have c7b1 : ((a0.extract 0 4).toList != ([119, 97, 108, 45] : List UInt8)) = true := bne_iff_ne.mpr c7
              have H' := Aside0.mk H
              clear H
              go_wp2
              go_meet
              case rel => exact ⟨_, (true), (by first | rfl | (simp; done) | (simp [*]; done)), H', ⟨by first | omega | exact Nat.le_refl _⟩, by repeat (first | exact Drawn0.refl _ | apply Drawn0.step)⟩
          · rw [if_neg c6] at H
            exact absurd H (by simp)
        · rw [if_neg c5] at H
          exact absurd H (by simp)
  case rest =>
    clear HC2
    try clear p2
    try clear c3
    try clear c3b0
    try clear c3b1
    try clear c4
    try clear c4b0
    try clear c4b1
    try clear c5
    try clear c5b0
    try clear c5b1
    try clear c6
    try clear c6b0
    try clear c6b1
    try clear c7
    try clear c7b0
    try clear c7b1
    try clear c8
    try clear c8b0
    try clear c8b1
    try clear p9
    try clear q9
    try clear hx9
    try clear qi9
    try clear p9
    try clear q9
    obtain ⟨kq, x22_1, rfl, HA, HJ1, ⟨mc1, rfl⟩⟩ := hcut
    cases kq with
    | zero => exact absurd HA.out (by simp [wal_number.j0])
    | succ kj1 =>
      have H := HA.out
      clear HA
      simp only [wal_number.j0] at H
      by_cases c10 : x22_1 = true
      · subst c10
        have H1 : (some 0) = some r := by rw [if_pos rfl] at H; exact H
        clear H
        have H := H1
        clear H1
        obtain rfl := Option.some.inj H
        go_wp2
        go_ret
        exact ⟨by first | rfl | (simp; done) | (simp [*]; done), by repeat (first | exact Drawn0.refl _ | apply Drawn0.step)⟩
      · replace c10 := Bool.eq_false_iff.mpr c10
        subst c10
        have H1 : (wal_number.l0 kj1 a0 0 4) = some r := by rw [if_neg (show ¬ (false = true) by decide)] at H; exact H
        clear H
        have H := H1
        clear H1
        have H' := Aside0.mk H
        clear H
        go_wp2
        go_loopg [3, 4] kj1 (fun kq v3 v4 w' => ∃ (x3_2 : Int) (x4_2 : Int), v3 = .int .i64 x3_2 ∧ v4 = .int .i64 x4_2 ∧ Aside0 (wal_number.l0 kq a0 x3_2 x4_2 = some r) ∧ Aside0 (kq ≤ kj1) ∧ Drawn0 w w')
        case atStart => exact ⟨(0), (4), (by first | rfl | (simp; done) | (simp [*]; done)), (by first | rfl | (simp; done) | (simp [*]; done)), H', ⟨Nat.le_refl _⟩, by repeat (first | exact Drawn0.refl _ | apply Drawn0.step)⟩
        case round =>
          clear H'
          try clear c1
          try clear p2
          try clear c3
          try clear c3b0
          try clear c3b1
          try clear c4
          try clear c4b0
          try clear c4b1
          try clear c5
          try clear c5b0
          try clear c5b1
          try clear c6
          try clear c6b0
          try clear c6b1
          try clear c7
          try clear c7b0
          try clear c7b1
          try clear c8
          try clear c8b0
          try clear c8b1
          try clear p9
          try clear q9
          try clear hx9
          try clear qi9
          try clear c10
          try clear p2
          try clear p9
          try clear q9
          obtain ⟨x3_2, x4_2, rfl, rfl, HA, HK2, ⟨m2, rfl⟩⟩ := hrel
          cases gk with
          | zero => exact absurd HA.out (by simp [wal_number.l0])
          | succ k2 =>
            have H := HA.out
            clear HA
            simp only [wal_number.l0] at H
            by_cases c11 : x4_2 < (a0.size : Int)
            · rw [if_pos c11] at H
              have c11b0 : decide (x4_2 < (a0.size : Int)) = true := decide_eq_true c11
              clear c11
              by_cases c12 : 0 ≤ x4_2
              · rw [if_pos c12] at H
                have c12b0 : decide (0 ≤ x4_2) = true := decide_eq_true c12
                clear c12
                by_cases c14 : (bt a0 x4_2) < 48
                · rw [if_pos c14] at H
                  have c14b0 : decide ((bt a0 x4_2) < 48) = true := decide_eq_true c14
                  clear c14
                  obtain rfl := Option.some.inj H
                  have p13 : 0 ≤ (x4_2 : Int) := of_decide_eq_true (by first | (with_reducible assumption) | assumption)
                  have q13 : x4_2 < (a0.size : Int) := of_decide_eq_true (by first | (with_reducible assumption) | assumption)
                  have hx13 := bt_at a0 x4_2
                  replace p13 := eq_true p13
                  replace q13 := eq_true q13
                  go_wp2
                  go_ret
                  exact ⟨by first | rfl | (simp; done) | (simp [*]; done), by repeat (first | exact Drawn0.refl _ | apply Drawn0.step)⟩
                · rw [if_neg c14] at H
                  have c14b0 : decide ((bt a0 x4_2) < 48) = false := decide_eq_false c14
                  clear c14
                  by_cases c16 : (bt a0 x4_2) > 57
                  · rw [if_pos c16] at H
                    have c16b0 : decide (57 < (bt a0 x4_2)) = true := decide_eq_true c16
                    clear c16
                    obtain rfl := Option.some.inj H
                    have p13 : 0 ≤ (x4_2 : Int) := of_decide_eq_true (by first | (with_reducible assumption) | assumption)
                    have q13 : x4_2 < (a0.size : Int) := of_decide_eq_true (by first | (with_reducible assumption) | assumption)
                    have hx13 := bt_at a0 x4_2
                    replace p13 := eq_true p13
                    replace q13 := eq_true q13
                    have p15 : 0 ≤ (x4_2 : Int) := of_decide_eq_true (by first | (with_reducible assumption) | assumption)
                    have q15 : x4_2 < (a0.size : Int) := of_decide_eq_true (by first | (with_reducible assumption) | assumption)
                    have hx15 := bt_at a0 x4_2
                    replace p15 := eq_true p15
                    replace q15 := eq_true q15
                    go_wp2
                    go_ret
                    exact ⟨by first | rfl | (simp; done) | (simp [*]; done), by repeat (first | exact Drawn0.refl _ | apply Drawn0.step)⟩
                  · rw [if_neg c16] at H
                    have c16b0 : decide (57 < (bt a0 x4_2)) = false := decide_eq_false c16
                    clear c16
                    have H' := Aside0.mk H
                    clear H
                    have p13 : 0 ≤ (x4_2 : Int) := of_decide_eq_true (by first | (with_reducible assumption) | assumption)
                    have q13 : x4_2 < (a0.size : Int) := of_decide_eq_true (by first | (with_reducible assumption) | assumption)
                    have hx13 := bt_at a0 x4_2
                    replace p13 := eq_true p13
                    replace q13 := eq_true q13
                    have p15 : 0 ≤ (x4_2 : Int) := of_decide_eq_true (by first | (with_reducible assumption) | assumption)
                    have q15 : x4_2 < (a0.size : Int) := of_decide_eq_true (by first | (with_reducible assumption) | assumption)
                    have hx15 := bt_at a0 x4_2
                    replace p15 := eq_true p15
                    replace q15 := eq_true q15
                    have p17 : 0 ≤ (x4_2 : Int) := of_decide_eq_true (by first | (with_reducible assumption) | assumption)
                    have q17 : x4_2 < (a0.size : Int) := of_decide_eq_true (by first | (with_reducible assumption) | assumption)
                    have hx17 := bt_at a0 x4_2
                    replace p17 := eq_true p17
                    replace q17 := eq_true q17
                    go_wp2
                    go_roundg k2
                    case measure => have := HJ1.out; have := HK2.out; omega
                    case rel => exact ⟨(wrap64 ((wrap64 (10 * x3_2)) + (((bt a0 x4_2) - 48) % 256))), (wrap64 (x4_2 + 1)), (by first | rfl | (simp; done) | (simp [*]; done)), (by first | rfl | (simp; done) | (simp [*]; done)), H', ⟨by have := HJ1.out; have := HK2.out; omega⟩, by repeat (first | exact Drawn0.refl _ | apply Drawn0.step)⟩
              · rw [if_neg c12] at H
                exact absurd H (by simp)
            · rw [if_neg c11] at H
              have c11b0 : decide (x4_2 < (a0.size : Int)) = false := decide_eq_false c11
              clear c11
              by_cases c18 : x3_2 > 1099511627776
              · rw [if_pos c18] at H
                have c18b0 : decide (1099511627776 < x3_2) = true := decide_eq_true c18
                clear c18
                obtain rfl := Option.some.inj H
                go_wp2
                go_ret
                exact ⟨by first | rfl | (simp; done) | (simp [*]; done), by repeat (first | exact Drawn0.refl _ | apply Drawn0.step)⟩
              · rw [if_neg c18] at H
                have c18b0 : decide (1099511627776 < x3_2) = false := decide_eq_false c18
                clear c18
                obtain rfl := Option.some.inj H
                go_wp2
                go_ret
                exact ⟨by first | rfl | (simp; done) | (simp [*]; done), by repeat (first | exact Drawn0.refl _ | apply Drawn0.step)⟩

end Go.Proofs.Ytmmiipnmimjojaa.PS
end
section
namespace Go.Proofs.Ytmmiipnmimjojaa.PS
open Go.RowKit Go.Proofs.YtmmiipnmimjojaaW.PrintWords Go.Proofs.YtmmiipnmimjojaaW.PrintLast Go.Proofs.YtmmiipnmimjojaaW.PrintMore
open Go.Maps Go.Proofs.Ytmmiipnmimjojaa.PD
set_option linter.unusedVariables false
set_option linter.unusedSimpArgs false
/-- A number's figures. -/
def digL : Nat → Int → List UInt8
  | 0, _ => []
  | k + 1, m => if 0 < m then digL k (m / 10) ++ [UInt8.ofNat (48 + (m % 10).toNat)] else []
theorem enc_dig (d : Int) (h0 : 0 ≤ d) (h1 : d < 10) : (Utf8.encode (48 + d)).data.toList = [UInt8.ofNat (48 + d.toNat)] := by
  rcases (show d = 0 ∨ d = 1 ∨ d = 2 ∨ d = 3 ∨ d = 4 ∨ d = 5 ∨ d = 6 ∨ d = 7 ∨ d = 8 ∨ d = 9 by omega) with rfl | rfl | rfl | rfl | rfl | rfl | rfl | rfl | rfl | rfl <;> rfl
theorem ba_append (a b : ByteArray) : (a ++ b).data.toList = a.data.toList ++ b.data.toList := by simp
theorem digB_list : ∀ (k : Nat) (m : Int) (s : ByteArray), (digB k m s).data.toList = digL k m ++ s.data.toList
  | 0, _, s => rfl
  | k + 1, m, s => by
    rw [digB, digL]
    by_cases h : 0 < m
    · rw [if_pos h, if_pos h, digB_list, ba_append, enc_dig _ (by omega) (by omega), List.append_assoc]
    · rw [if_neg h, if_neg h]; rfl
def nm (n : Int) : Nm := (nameB n).data.toList
theorem nm_eq (n : Int) : nm n = [119, 97, 108, 45] ++ digL 14 n := by
  unfold nm nameB
  rw [ba_append, digB_list]
  show _ ++ (digL 14 n ++ []) = _
  rw [List.append_nil]
def valL (l : List UInt8) (a : Int) : Int := l.foldl (fun a c => 10 * a + ((c.toNat : Int) - 48)) a
theorem dig_nat (d : Int) (h0 : 0 ≤ d) (h1 : d < 10) : ((UInt8.ofNat (48 + d.toNat)).toNat : Int) = 48 + d := by
  have : (UInt8.ofNat (48 + d.toNat)).toNat = 48 + d.toNat := by
    simp only [UInt8.toNat_ofNat']
    omega
  omega
theorem digL_val : ∀ (k : Nat) (m : Int), 0 ≤ m → m < 10 ^ k → valL (digL k m) 0 = m
  | 0, m, h0, h1 => by simp at h1; show (0 : Int) = m; omega
  | k + 1, m, h0, h1 => by
    rw [digL]
    by_cases h : 0 < m
    · rw [if_pos h]
      unfold valL
      rw [List.foldl_append]
      have ih := digL_val k (m / 10) (by omega) (by rw [Int.pow_succ] at h1; omega)
      unfold valL at ih
      rw [ih]
      show 10 * (m / 10) + (((UInt8.ofNat (48 + (m % 10).toNat)).toNat : Int) - 48) = m
      rw [dig_nat _ (by omega) (by omega)]
      omega
    · rw [if_neg h]; show (0 : Int) = m; omega
theorem digL_dig : ∀ (k : Nat) (m : Int), ∀ c ∈ digL k m, 48 ≤ (c.toNat : Int) ∧ (c.toNat : Int) ≤ 57
  | 0, _, c, h => by cases h
  | k + 1, m, c, h => by
    rw [digL] at h
    by_cases hm : 0 < m
    · rw [if_pos hm] at h
      rcases List.mem_append.1 h with h | h
      · exact digL_dig k _ c h
      · rw [List.mem_singleton.1 h, dig_nat _ (by omega) (by omega)]; omega
    · rw [if_neg hm] at h; cases h
theorem digL_len : ∀ (j k : Nat) (m : Int), 0 ≤ m → m < 10 ^ j → (digL k m).length ≤ j
  | _, 0, m, _, _ => Nat.zero_le _
  | 0, k + 1, m, h0, h1 => by simp at h1; rw [digL, if_neg (by omega)]; exact Nat.le_refl _
  | j + 1, k + 1, m, h0, h1 => by
    rw [digL]
    by_cases h : 0 < m
    · rw [if_pos h, List.length_append, List.length_singleton]
      have := digL_len j k (m / 10) (by omega) (by rw [Int.pow_succ] at h1; omega)
      omega
    · rw [if_neg h]; exact Nat.zero_le _
theorem digL_head : ∀ (k : Nat) (m : Int), 0 < m → m < 10 ^ (k + 1) → ∃ c l, digL (k + 1) m = c :: l ∧ c.toNat ≠ 48
  | 0, m, h0, h1 => by
    simp at h1
    refine ⟨_, [], by rw [digL, if_pos h0, digL]; rfl, ?_⟩
    have := dig_nat (m % 10) (by omega) (by omega)
    omega
  | k + 1, m, h0, h1 => by
    rw [digL, if_pos h0]
    by_cases h : 0 < m / 10
    · obtain ⟨c, l, hc, hn⟩ := digL_head k (m / 10) h (by rw [Int.pow_succ] at h1; omega)
      exact ⟨c, l ++ [UInt8.ofNat (48 + (m % 10).toNat)], by rw [hc]; rfl, hn⟩
    · rw [digL, if_neg h]
      refine ⟨_, [], rfl, ?_⟩
      have := dig_nat (m % 10) (by omega) (by omega)
      omega
theorem nm_inj {n m : Int} (h0 : 0 ≤ n) (h1 : n ≤ 1099511627776) (k0 : 0 ≤ m) (k1 : m ≤ 1099511627776) (h : nm n = nm m) : n = m := by
  rw [nm_eq, nm_eq] at h
  have h2 := List.append_cancel_left h
  have e1 := digL_val 14 n h0 (by omega)
  have e2 := digL_val 14 m k0 (by omega)
  rw [← e1, ← e2, h2]
theorem bt_list (s : ByteArray) (i : Int) : bt s i = ((s.data.toList.getD i.toNat 0).toNat : Int) := by
  unfold bt
  by_cases h : i.toNat < s.size
  · rw [dif_pos h, List.getD_eq_getElem?_getD, List.getElem?_eq_getElem (by simpa using h)]
    rfl
  · rw [dif_neg h, List.getD_eq_getElem?_getD, List.getElem?_eq_none (by simpa using h)]
    rfl
theorem valL_ge : ∀ (l : List UInt8) (a : Int), 0 ≤ a → (∀ c ∈ l, 48 ≤ (c.toNat : Int) ∧ (c.toNat : Int) ≤ 57) → a ≤ valL l a
  | [], a, _, _ => Int.le_refl _
  | c :: l, a, h0, h => by
    have hc := h c (.head _)
    have := valL_ge l (10 * a + ((c.toNat : Int) - 48)) (by omega) (fun x hx => h x (.tail _ hx))
    show a ≤ valL l (10 * a + ((c.toNat : Int) - 48))
    omega
theorem number_l0' (s : ByteArray) (hs : s.size ≤ 1000) : ∀ (l : List UInt8) (k i : Nat) (a : Int), s.data.toList.drop i = l → i + l.length = s.size → l.length < k → 0 ≤ a → (∀ c ∈ l, 48 ≤ (c.toNat : Int) ∧ (c.toNat : Int) ≤ 57) → valL l a ≤ 1099511627776 →
    wal_number.l0 k s a i = some (valL l a)
  | [], k + 1, i, a, hl, hi, _, h0, _, hv => by
    rw [wal_number.l0, if_neg (by simp at hi; omega), if_neg (by have : valL [] a = a := rfl; omega)]
    rfl
  | c :: l, k + 1, i, a, hl, hi, hk, h0, hd, hv => by
    have hc := hd c (.head _)
    have hbt : bt s i = c.toNat := by
      rw [bt_list, Int.toNat_natCast, List.getD_eq_getElem?_getD]
      have : (s.data.toList.drop i)[0]? = some c := by rw [hl]; rfl
      rw [List.getElem?_drop, Nat.add_zero] at this
      rw [this]; rfl
    have hge := valL_ge l (10 * a + ((c.toNat : Int) - 48)) (by omega) (fun x hx => hd x (.tail _ hx))
    have hv' : valL l (10 * a + ((c.toNat : Int) - 48)) ≤ 1099511627776 := hv
    have hi' : i + (l.length + 1) = s.size := hi
    rw [wal_number.l0, if_pos (by omega), if_pos (by omega), hbt, if_neg (by omega), if_neg (by omega)]
    have e1 : wrap64 (wrap64 (10 * a) + ((c.toNat : Int) - 48) % 256) = 10 * a + ((c.toNat : Int) - 48) := by unfold wrap64; omega
    have e2 : wrap64 ((i : Int) + 1) = ((i + 1 : Nat) : Int) := by unfold wrap64; omega
    rw [e1, e2]
    exact number_l0' s hs l k (i + 1) _ (by rw [← List.drop_drop, hl]; rfl) (by omega) (by simp at hk; omega) (by omega) (fun x hx => hd x (.tail _ hx)) hv'
theorem nm_len {n : Int} (h0 : 1 ≤ n) (h1 : n ≤ 1099511627776) : 5 ≤ (nm n).length ∧ (nm n).length ≤ 17 := by
  rw [nm_eq]
  have l1 := digL_len 13 14 n (by omega) (by omega)
  obtain ⟨c, l, hc, _⟩ := digL_head 13 n (by omega) (by omega)
  rw [List.length_append]
  have : (digL 14 n).length = l.length + 1 := by rw [show (14 : Nat) = 13 + 1 from rfl, hc]; rfl
  simp only [List.length_cons, List.length_nil]
  omega
theorem number_name {n : Int} (h0 : 1 ≤ n) (h1 : n ≤ 1099511627776) : wal_number.f 40 (nameB n) = some n := by
  have hl := nm_len h0 h1
  have hsz : (nameB n).size = (nm n).length := by unfold nm; simp
  obtain ⟨c, l, hc, hcn⟩ := digL_head 13 n (by omega) (by omega)
  have hnm : (nameB n).data.toList = [119, 97, 108, 45] ++ digL 14 n := nm_eq n
  unfold wal_number.f
  rw [if_neg (by omega), if_neg (by omega), if_pos (by decide), if_pos (by omega)]
  have hex : ((nameB n).extract 0 4).toList = [119, 97, 108, 45] := by
    rw [ByteArray.toList_eq]
    have : ((nameB n).extract 0 4).data.toList = (nameB n).data.toList.take 4 := by simp
    rw [this, hnm]; rfl
  rw [if_pos hex, if_pos (by omega)]
  have hb4 : (bt (nameB n) 4 == 48) = false := by
    rw [bt_list, hnm]
    show ((((digL 14 n).getD 0 0).toNat : Int) == 48) = false
    rw [show digL 14 n = c :: l from hc]
    show ((c.toNat : Int) == 48) = false
    exact beq_eq_false_iff_ne.mpr (by omega)
  rw [hb4, wal_number.j0, if_neg (by decide)]
  have hv := digL_val 14 n (by omega) (by omega)
  have := number_l0' (nameB n) (by omega) (digL 14 n) 39 4 0 (by rw [hnm]; rfl) (by rw [hsz, nm_eq, List.length_append]; rfl) (by have := digL_len 13 14 n (by omega) (by omega); omega) (by omega) (digL_dig 14 n) (by rw [hv]; exact h1)
  rw [hv] at this
  exact this
theorem named_name {n : Int} (h0 : 1 ≤ n) (h1 : n ≤ 1099511627776) : namedB (nameB n) = true := by
  have hl := nm_len h0 h1
  have hsz : (nameB n).size = (nm n).length := by unfold nm; simp
  have hnm : (nameB n).data.toList = [119, 97, 108, 45] ++ digL 14 n := nm_eq n
  have hc : ∀ c ∈ (nameB n).data.toList, okc (c.toNat : Int) = true := fun c hc => by
    rw [hnm] at hc
    rcases List.mem_append.1 hc with hc | hc
    · simp at hc
      rcases hc with rfl | rfl | rfl | rfl <;> rfl
    · have := digL_dig 14 n c hc
      unfold okc
      simp; omega
  have hall : ∀ (m : Nat) (i : Nat), i + m ≤ (nameB n).size → allFrom (nameB n) m i = true := by
    intro m
    induction m with
    | zero => intro i _; rfl
    | succ m ih =>
      intro i hi
      have h2 := ih (i + 1) (by omega)
      rw [show ((i + 1 : Nat) : Int) = (i : Int) + 1 by omega] at h2
      rw [allFrom, h2, Bool.and_true, bt_list, Int.toNat_natCast]
      refine hc _ ?_
      rw [List.getD_eq_getElem?_getD, List.getElem?_eq_getElem (by simpa using (show i < (nameB n).size by omega))]
      exact List.getElem_mem _
  unfold namedB
  rw [decide_eq_true (by omega), decide_eq_true (by omega)]
  exact hall _ 0 (by omega)
end Go.Proofs.Ytmmiipnmimjojaa.PS
end
