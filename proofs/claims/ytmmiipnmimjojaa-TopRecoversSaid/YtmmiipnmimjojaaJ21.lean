/- The texts of this claim's seat, joined: part 21. -/
import Derived.Test.YtmmiipnmimjojaaJ20
section
namespace Go.Proofs.Ytmmiipnmimjojaa.PS
open Go.RowKit Go.Proofs.YtmmiipnmimjojaaW.PrintWords Go.Proofs.YtmmiipnmimjojaaW.PrintLast Go.Proofs.YtmmiipnmimjojaaW.PrintMore
open Go.Maps Go.Proofs.Ytmmiipnmimjojaa.PD
set_option linter.unusedVariables false
set_option linter.unusedSimpArgs false
/-- What Open leaves where no log can be made. -/
def OpenE (W0 W : World) (S : Nat → Prop) (g N : Nat) (x : Int) (D3 : Dsk) (e : Ending) (w' : World) : Prop :=
  e = .returned (.tuple #[.pointer none, .int .i64 x]) ∧ ∃ S', Dk W0 w' S' g (N + 1) D3 ∧ Bys W S w' S' W.heap.size
set_option maxHeartbeats 16000000 in
set_option maxRecDepth 100000 in
theorem open_full {W0 W : World} {S : Nat → Prop} {g N : Nat} {D : Dsk} (h : Dk W0 W S g N D) (hN : N ≤ 800000) (hf : (dRemove D tmpB).2.files = []) (hza : ¬ (lgAnew (dRemove D tmpB).2 ⟨0, 0, WS.zero⟩ WS.zero).1 = 0) :
    Calls Try.prog 26 #[.pointer (some ⟨g, 0, none⟩)] W (OpenE W0 W S g N (lgAnew (dRemove D tmpB).2 ⟨0, 0, WS.zero⟩ WS.zero).1 (lgAnew (dRemove D tmpB).2 ⟨0, 0, WS.zero⟩ WS.zero).2.1) := by
  have HZA := Aside0.mk hza
  obtain ⟨ks, hke⟩ : ∃ ks : List Int, ks = [] := ⟨_, rfl⟩
  have HKE := Aside0.mk hke
  have hks : namesB (dRemove D tmpB).2.files = ks.map nameB := by rw [hf, hke]; rfl
  have hk : ∀ k ∈ ks, 1 ≤ k ∧ k ≤ 1000000000 := fun k hk => by rw [hke] at hk; cases hk
  have hkl : ks.length ≤ 1000 := by rw [hke]; exact Nat.zero_le _
  clear hke hf hza
  obtain ⟨w1, hw1⟩ : ∃ w1, w1 = W.alloc (.cells #[.pointer (some ⟨g, 0, none⟩), .int .i64 0, .int .i64 0, .int .i64 0, .int .i64 0, .slice none 0 0, .int .i64 0, .int .i64 0] 126) := ⟨_, rfl⟩
  obtain ⟨hwl, hby⟩ := Wl.begin h w1 hw1
  obtain ⟨L, hL⟩ : ∃ L, W.heap.size = L := ⟨_, rfl⟩
  rw [hL] at hwl hby
  have HL := Aside0.mk hL
  have HW1 := Aside0.mk hwl
  have HB1 := Aside0.mk hby
  obtain ⟨D1, hD1⟩ : ∃ D1, (dRemove D tmpB).2 = D1 := ⟨_, rfl⟩
  rw [hD1] at hks
  have HD1 := Aside0.mk hD1
  have HKS := Aside0.mk hks
  have HK := Aside0.mk hk
  obtain ⟨NL, hNL⟩ : ∃ NL, ks.map nameB = NL := ⟨_, rfl⟩
  have HNL := Aside0.mk (show NL.length = ks.length by rw [← hNL, List.length_map])
  have HNA := Aside0.mk (show ∀ i : Nat, i < ks.length → NL.getD i ByteArray.empty = nameB (ks.getD i 0) from fun i hi => by
    rw [← hNL, List.getD_eq_getElem?_getD, List.getElem?_map, List.getElem?_eq_getElem hi, List.getD_eq_getElem?_getD, List.getElem?_eq_getElem hi]; rfl)
  have HKN := Aside0.mk (show namesB D1.files = NL by rw [hks, hNL])
  obtain ⟨k0, _, _⟩ := hwl.cell0
  have hnlen : NL.length ≤ 1000 := by rw [HNL.out]; exact hkl
  clear h hwl hby hks hk hNL hD1 hL
  go_enter Try.func26, Try.ntmps26
  go_upto_region 4 with (fail)
  rw [HL.out, ← hw1]
  clear hw1
  go_wp2_with fail
  refine (dk_remove (s := tmpB) HW1.out.dk (by decide)).mono ?_
  rintro e2 w2 ⟨rfl, hnx⟩
  rw [HD1.out] at hnx
  obtain ⟨S2, hw2, hB2⟩ := HW1.out.dstep hnx
  have HW2 := Aside0.mk hw2
  have HB2 := Aside0.mk (HB1.out.trans hB2)
  obtain ⟨k0', _, _⟩ := hw2.cell0
  clear hw2 hB2 k0 hnx
  go_wp2_with fail
  refine (dk_names HW2.out.dk).mono ?_
  rw [HKN.out]
  rintro e3 w3 ⟨A3, c3, rfl, hr3, hb3⟩
  have HW3 := Aside0.mk (HW2.out.below hb3)
  have HB3 := Aside0.mk (HB2.out.trans (Bys.of_below hb3))
  have HR3 := Aside0.mk (F_newG HW2.out (Nat.le_refl _) hr3)
  clear hr3 hb3 k0'
  go_wp2_with fail
  go_loopg [36] NL.length (fun kq v36 w' => ∃ i : Int, v36 = .int .i64 i ∧ 0 ≤ i ∧ i + kq = NL.length ∧ Aside0 (∃ S', Wl W0 w' S' (fun k => k = L) g N L D1 ⟨maxL (ks.take i.toNat), 0, WS.zero⟩ ∧ Bys w3 S2 w' S' L))
  case atStart => exact ⟨0, rfl, by omega, by omega, ⟨S2, HW3.out, Bys.refl _ _ _⟩⟩
  case round =>
    obtain ⟨i, rfl, i0, i1, HREL⟩ := hrel
    by_cases hi : i < (NL.length : Int)
    · have c6 : decide (i < (NL.length : Int)) = true := decide_eq_true hi
      obtain ⟨S4, hw4, hB4⟩ := HREL.out
      have hF4 := F_bysG hB4 HR3.out
      have hi' : i.toNat < ks.length := by have := HNL.out; omega
      obtain ⟨ad, rfl⟩ : ∃ ad, A3 = some ad := by
        obtain ⟨ad, c, e, _⟩ := Kd.F_get hF4 ByteArray.empty i i0 hi
        exact ⟨ad, e⟩
      have hcell := cellS (Kd.F_now hF4) i0 hi
      rw [HNA.out _ hi'] at hcell
      obtain ⟨k, hkk⟩ : ∃ k, ks.getD i.toNat 0 = k := ⟨_, rfl⟩
      rw [hkk] at hcell
      have hkm : k ∈ ks := by rw [← hkk, List.getD_eq_getElem?_getD, List.getElem?_eq_getElem hi']; exact List.getElem_mem _
      have hkb := HK.out k hkm
      have htk : ks.take (i + 1).toNat = ks.take i.toNat ++ [k] := by
        rw [show (i + 1).toNat = i.toNat + 1 by omega, List.take_add_one, List.getElem?_eq_getElem hi']
        rw [List.getD_eq_getElem?_getD, List.getElem?_eq_getElem hi'] at hkk
        rw [← hkk]; rfl
      have HTK := Aside0.mk (show max (maxL (ks.take i.toNat)) k = maxL (ks.take (i + 1).toNat) by rw [htk, maxL_snoc])
      obtain ⟨l0, l6, _⟩ := hw4.cell0
      obtain ⟨AL, cL, hbL, _⟩ := hw4.cells
      have lf6 := blk_frozen hbL 6
      obtain ⟨m, hm⟩ : ∃ m, maxL (ks.take i.toNat) = m := ⟨_, rfl⟩
      have HMM := Aside0.mk hm
      replace l6 : wr.cell? ⟨L, 6, none⟩ = some (.int .i64 m) := by rw [← hm]; exact l6
      obtain ⟨mx, hmx⟩ : ∃ mx, max m k = mx := ⟨_, rfl⟩
      have HMX := Aside0.mk hmx
      have HNC := Aside0.mk (fun w => wnumber_calls hkb.1 (by omega) w)
      have HW4 := Aside0.mk hw4
      have HB4 := Aside0.mk hB4
      have p0 := eq_true i0
      have p1 := eq_true hi
      have hni : IntKind.i64.wrap (i + 1) = i + 1 := IntWalk.i64_in _ ⟨by omega, by omega⟩
      clear hw4 hB4 hF4 htk hkk hm hkm hbL
      go_wp2_with fail
      go_region_law (first
        | (go_simp; go_at_call 66; refine (HNC.out _).mono ?_; rintro e5 w5 ⟨rfl, hd⟩; obtain ⟨nd, rfl⟩ := hd.out)
        | fail)
      all_goals
        go_wp2_with fail
        go_roundg (gk - 1)
        case measure => omega
        case rel =>
          refine ⟨i + 1, rfl, by omega, by omega, ⟨?_⟩⟩
          have hmx2 : mx = maxL (ks.take (i + 1).toNat) := by rw [← HTK.out, HMM.out, HMX.out]
          obtain ⟨S5, hw5, hB5⟩ := HW4.out.setN mx (1 + nd)
          rw [← hmx2]
          exact ⟨S5, hw5, HB4.out.trans hB5⟩
    · have c6 : decide (i < (NL.length : Int)) = false := decide_eq_false hi
      have he : i.toNat = ks.length := by have := HNL.out; omega
      have hrel2 := HREL.out
      rw [he, List.take_length] at hrel2
      have HREL2 := Aside0.mk hrel2
      clear he hrel2 HREL
      obtain ⟨wo, rfl⟩ : ∃ wo : World, wo = wr := ⟨_, rfl⟩
      obtain ⟨S3, hwo, hBo⟩ := HREL2.out
      obtain ⟨n, hn⟩ : ∃ n, maxL ks = n := ⟨_, rfl⟩
      rw [hn] at hwo
      have HWo := Aside0.mk hwo
      have HBo := Aside0.mk (HB3.out.trans hBo)
      have HRo := Aside0.mk (F_bysG hBo HR3.out)
      have HN := Aside0.mk hn
      have hn0 : 0 ≤ n := by rw [← hn]; exact maxL_ge
      have hn1 : n ≤ 1000000000 := by rw [← hn]; exact maxL_le (by omega) (fun k hk => (HK.out k hk).2)
      clear hwo hBo hn HREL2
      go_wp2_with fail
      clear c6 i0 i1 hi
      go_loopg [53] NL.length (fun kq v53 w' => ∃ i : Int, v53 = .int .i64 i ∧ 0 ≤ i ∧ i + kq = NL.length ∧ Aside0 (∃ S', Wl W0 w' S' (fun k => k = L) g N L (dropL n (ks.take i.toNat) D1) ⟨n, 0, WS.zero⟩ ∧ Bys wo S3 w' S' L))
      case atStart => exact ⟨0, rfl, by omega, by omega, ⟨S3, HWo.out, Bys.refl _ _ _⟩⟩
      case round =>
        obtain ⟨i, rfl, i0, i1, HREL⟩ := hrel
        by_cases hi : i < (NL.length : Int)
        · have c6 : decide (i < (NL.length : Int)) = true := decide_eq_true hi
          obtain ⟨S4, hw4, hB4⟩ := HREL.out
          have hF4 := F_bysG hB4 HRo.out
          have hi' : i.toNat < ks.length := by have := HNL.out; omega
          obtain ⟨ad, rfl⟩ : ∃ ad, A3 = some ad := by
            obtain ⟨ad, c, e, _⟩ := Kd.F_get hF4 ByteArray.empty i i0 hi
            exact ⟨ad, e⟩
          have hcell := cellS (Kd.F_now hF4) i0 hi
          rw [HNA.out _ hi'] at hcell
          obtain ⟨k, hkk⟩ : ∃ k, ks.getD i.toNat 0 = k := ⟨_, rfl⟩
          rw [hkk] at hcell
          have hkm : k ∈ ks := by rw [← hkk, List.getD_eq_getElem?_getD, List.getElem?_eq_getElem hi']; exact List.getElem_mem _
          have hkb := HK.out k hkm
          have htk : ks.take (i + 1).toNat = ks.take i.toNat ++ [k] := by
            rw [show (i + 1).toNat = i.toNat + 1 by omega, List.take_add_one, List.getElem?_eq_getElem hi']
            rw [List.getD_eq_getElem?_getD, List.getElem?_eq_getElem hi'] at hkk
            rw [← hkk]; rfl
          have HTK := Aside0.mk htk
          have HNC := Aside0.mk (wnumber_calls hkb.1 (by omega) wr)
          have HW4 := Aside0.mk hw4
          have HB4 := Aside0.mk hB4
          have p0 := eq_true i0
          have p1 := eq_true hi
          have hni : IntKind.i64.wrap (i + 1) = i + 1 := IntWalk.i64_in _ ⟨by omega, by omega⟩
          have ck : decide (0 < k) = true := decide_eq_true (by omega)
          clear hw4 hB4 hF4 htk hkk hkm
          go_wp2_with fail
          refine HNC.out.mono ?_
          rintro e5 w5 ⟨rfl, hd⟩
          have HW5 := Aside0.mk (HW4.out.below hd.below)
          have HB5 := Aside0.mk (HB4.out.trans (Bys.of_below hd.below))
          obtain ⟨l0, l6, _⟩ := HW5.out.cell0
          replace l6 : w5.cell? ⟨L, 6, none⟩ = some (.int .i64 n) := l6
          clear hd hcell
          by_cases hkn : k < n
          · have ckn : decide (k < n) = true := decide_eq_true hkn
            have HDR := Aside0.mk (show (dRemove (dropL n (ks.take i.toNat) D1) (nameB k)).2 = dropL n (ks.take (i + 1).toNat) D1 by rw [HTK.out, dropL_snoc, if_pos hkn])
            clear hkn
            go_wp2_with fail
            refine (dk_remove (s := nameB k) HW5.out.dk (name_size _)).mono ?_
            rintro e6 w6 ⟨rfl, hnx⟩
            rw [HDR.out] at hnx
            obtain ⟨S6, hw6, hB6⟩ := HW5.out.dstep hnx
            have HFN := Aside0.mk (show ∃ S', Wl W0 w6 S' (fun k => k = L) g N L (dropL n (ks.take (i + 1).toNat) D1) ⟨n, 0, WS.zero⟩ ∧ Bys wo S3 w6 S' L from ⟨S6, hw6, HB5.out.trans hB6⟩)
            clear hw6 hB6 hnx l0 l6
            go_wp2_with fail
            go_roundg (gk - 1)
            case measure => omega
            case rel => exact ⟨i + 1, rfl, by omega, by omega, HFN⟩
          · have ckn : decide (k < n) = false := decide_eq_false hkn
            have HFN := Aside0.mk (show ∃ S', Wl W0 w5 S' (fun k => k = L) g N L (dropL n (ks.take (i + 1).toNat) D1) ⟨n, 0, WS.zero⟩ ∧ Bys wo S3 w5 S' L from ⟨S4, by rw [HTK.out, dropL_snoc, if_neg hkn]; exact HW5.out, HB5.out⟩)
            clear hkn
            go_wp2_with fail
            go_roundg (gk - 1)
            case measure => omega
            case rel => exact ⟨i + 1, rfl, by omega, by omega, HFN⟩
        · have c6 : decide (i < (NL.length : Int)) = false := decide_eq_false hi
          have he : i.toNat = ks.length := by have := HNL.out; omega
          have hrel2 := HREL.out
          rw [he, List.take_length] at hrel2
          obtain ⟨Sx, hwx, hBx⟩ := hrel2
          obtain ⟨D2, hD2⟩ : ∃ D2, dropL n ks D1 = D2 := ⟨_, rfl⟩
          rw [hD2] at hwx
          have HWX := Aside0.mk hwx
          have HBX := Aside0.mk (HBo.out.trans hBx)
          have HD2 := Aside0.mk hD2
          obtain ⟨l0, l6, _⟩ := hwx.cell0
          replace l6 : wr.cell? ⟨L, 6, none⟩ = some (.int .i64 n) := l6
          clear he hwx hBx hD2 HREL HNA HRo HBo HWo
          have hn00 : n = 0 := by rw [← HN.out, HKE.out]; rfl
          have c18 : (n == 0) = true := by rw [hn00]; rfl
          have HMX0 : Aside0 (MOk ⟨n, 0, WS.zero⟩) := ⟨⟨WOk.zero, Nat.zero_le _, ⟨hn0, hn1⟩, ⟨Int.le_refl _, by dsimp only; omega⟩⟩⟩
          have HD12 := Aside0.mk (show D2 = D1 by rw [← HD2.out, HKE.out]; rfl)
          obtain ⟨e0, he0⟩ : ∃ e0, (lgAnew D1 ⟨0, 0, WS.zero⟩ WS.zero).1 = e0 := ⟨_, rfl⟩
          have HE0 := Aside0.mk he0
          have HAN := Aside0.mk (anew_calls (s := WS.zero) (v := .slice none 0 0) HWX.out (by omega) WOk.zero (Nat.zero_le _) ⟨none, 0, rfl, Nat.zero_le _, Kd.F_nil _ _ _⟩ HMX0.out (by rw [hn00]; exact named_name (n := 0 + 1) (by omega) (by omega)))
          have HAN2 : Aside0 (Calls Try.prog 67 #[.pointer (some ⟨L, 0, none⟩), .agg #[.int .i64 0, .int .i64 0, .int .i64 0, .int .i64 0, .slice none 0 0]] wr (ErrP W0 wr Sx (fun k => k = L) g (N + 1) L (lgAnew D1 ⟨0, 0, WS.zero⟩ WS.zero))) := ⟨by
            have h := HAN.out
            rw [HD12.out, hn00] at h
            exact h⟩
          have HLx := Aside0.mk HWX.out.lt
          clear hn00 he0 HAN
          have hz0 : ¬ e0 = 0 := by rw [← HE0.out, ← HD1.out]; exact HZA.out
          have t1 : (e0 == 0) = false := beq_eq_false_iff_ne.mpr hz0
          have t2 : (e0 != 0) = true := by simp [bne, t1]
          clear hz0
          go_wp2_with fail
          refine HAN2.out.mono ?_
          rintro e9 w9 ⟨rfl, S9, Q9', hw9, hB9, hq9⟩
          rw [HE0.out]
          have HW9 := Aside0.mk hw9
          have HB9 := Aside0.mk (HBX.out.trans hB9)
          clear hw9 hB9 hq9 l0 l6
          go_wp2_with fail
          go_ret2
          refine ⟨by rw [HD1.out, HE0.out]; rfl, S9, by rw [HD1.out]; exact HW9.out.dk, by rw [HL.out]; exact HB9.out⟩

set_option maxHeartbeats 16000000 in
set_option maxRecDepth 100000 in
theorem open_new {W0 W : World} {S : Nat → Prop} {g N : Nat} {D : Dsk} (h : Dk W0 W S g N D) (hN : N ≤ 800000) (hf : (dRemove D tmpB).2.files = []) (hza : (lgAnew (dRemove D tmpB).2 ⟨0, 0, WS.zero⟩ WS.zero).1 = 0)
    (hrd : (dRead (lgAnew (dRemove D tmpB).2 ⟨0, 0, WS.zero⟩ WS.zero).2.1 (nameB 1)).1 = WS.zero.bytes) :
    Calls Try.prog 26 #[.pointer (some ⟨g, 0, none⟩)] W (OpenP W0 W S g N 1 (lgAnew (dRemove D tmpB).2 ⟨0, 0, WS.zero⟩ WS.zero).2.1 WS.zero.recs [] WS.zero) := by
  have HRD0 := Aside0.mk (show (lgAnew (dRemove D tmpB).2 ⟨0, 0, WS.zero⟩ WS.zero).1 = 0 → _ from fun _ => hrd)
  have HZA := Aside0.mk hza
  obtain ⟨ks, hke⟩ : ∃ ks : List Int, ks = [] := ⟨_, rfl⟩
  have HKE := Aside0.mk hke
  have hks : namesB (dRemove D tmpB).2.files = ks.map nameB := by rw [hf, hke]; rfl
  have hk : ∀ k ∈ ks, 1 ≤ k ∧ k ≤ 1000000000 := fun k hk => by rw [hke] at hk; cases hk
  have hkl : ks.length ≤ 1000 := by rw [hke]; exact Nat.zero_le _
  obtain ⟨D9, hD9⟩ : ∃ D9, (lgAnew (dRemove D tmpB).2 ⟨0, 0, WS.zero⟩ WS.zero).2.1 = D9 := ⟨_, rfl⟩
  have HD9 := Aside0.mk hD9
  rw [hD9]
  clear hD9
  obtain ⟨recs, hrecs⟩ : ∃ recs, WS.zero.recs = recs := ⟨_, rfl⟩
  obtain ⟨t, ht0⟩ : ∃ t : List Int, [] = t := ⟨_, rfl⟩
  obtain ⟨s, hs0⟩ : ∃ s : WS, WS.zero = s := ⟨_, rfl⟩
  have HRT := Aside0.mk (And.intro hrecs (And.intro ht0 hs0))
  have HRK := Aside0.mk (show ∀ r ∈ recs, r.ok by rw [← hrecs]; exact WOk.zero.recs_ok)
  have HRN := Aside0.mk (show WS.zero.run recs = some s by rw [← hrecs, ← hs0]; exact WOk.zero.recs_run _)
  have HHD := Aside0.mk (show ∃ i t rest, recs = .mark i t :: rest by rw [← hrecs]; exact ⟨_, _, _, rfl⟩)
  have HTT := Aside0.mk (show Torn t by rw [← ht0]; exact torn_nil)
  have hps : OpenP W0 W S g N 1 D9 WS.zero.recs [] WS.zero = OpenP W0 W S g N 1 D9 recs t s := by rw [hrecs, ht0, ← hs0]
  rw [hps]
  clear hke hf hza hrd hrecs ht0 hs0 hps
  obtain ⟨w1, hw1⟩ : ∃ w1, w1 = W.alloc (.cells #[.pointer (some ⟨g, 0, none⟩), .int .i64 0, .int .i64 0, .int .i64 0, .int .i64 0, .slice none 0 0, .int .i64 0, .int .i64 0] 126) := ⟨_, rfl⟩
  obtain ⟨hwl, hby⟩ := Wl.begin h w1 hw1
  obtain ⟨L, hL⟩ : ∃ L, W.heap.size = L := ⟨_, rfl⟩
  rw [hL] at hwl hby
  have HL := Aside0.mk hL
  have HW1 := Aside0.mk hwl
  have HB1 := Aside0.mk hby
  obtain ⟨D1, hD1⟩ : ∃ D1, (dRemove D tmpB).2 = D1 := ⟨_, rfl⟩
  rw [hD1] at hks
  have HD1 := Aside0.mk hD1
  have HKS := Aside0.mk hks
  have HK := Aside0.mk hk
  obtain ⟨NL, hNL⟩ : ∃ NL, ks.map nameB = NL := ⟨_, rfl⟩
  have HNL := Aside0.mk (show NL.length = ks.length by rw [← hNL, List.length_map])
  have HNA := Aside0.mk (show ∀ i : Nat, i < ks.length → NL.getD i ByteArray.empty = nameB (ks.getD i 0) from fun i hi => by
    rw [← hNL, List.getD_eq_getElem?_getD, List.getElem?_map, List.getElem?_eq_getElem hi, List.getD_eq_getElem?_getD, List.getElem?_eq_getElem hi]; rfl)
  have HKN := Aside0.mk (show namesB D1.files = NL by rw [hks, hNL])
  obtain ⟨k0, _, _⟩ := hwl.cell0
  have hnlen : NL.length ≤ 1000 := by rw [HNL.out]; exact hkl
  clear h hwl hby hks hk hNL hD1 hL
  go_enter Try.func26, Try.ntmps26
  go_upto_region 4 with (fail)
  rw [HL.out, ← hw1]
  clear hw1
  go_wp2_with fail
  refine (dk_remove (s := tmpB) HW1.out.dk (by decide)).mono ?_
  rintro e2 w2 ⟨rfl, hnx⟩
  rw [HD1.out] at hnx
  obtain ⟨S2, hw2, hB2⟩ := HW1.out.dstep hnx
  have HW2 := Aside0.mk hw2
  have HB2 := Aside0.mk (HB1.out.trans hB2)
  obtain ⟨k0', _, _⟩ := hw2.cell0
  clear hw2 hB2 k0 hnx
  go_wp2_with fail
  refine (dk_names HW2.out.dk).mono ?_
  rw [HKN.out]
  rintro e3 w3 ⟨A3, c3, rfl, hr3, hb3⟩
  have HW3 := Aside0.mk (HW2.out.below hb3)
  have HB3 := Aside0.mk (HB2.out.trans (Bys.of_below hb3))
  have HR3 := Aside0.mk (F_newG HW2.out (Nat.le_refl _) hr3)
  clear hr3 hb3 k0'
  go_wp2_with fail
  go_loopg [36] NL.length (fun kq v36 w' => ∃ i : Int, v36 = .int .i64 i ∧ 0 ≤ i ∧ i + kq = NL.length ∧ Aside0 (∃ S', Wl W0 w' S' (fun k => k = L) g N L D1 ⟨maxL (ks.take i.toNat), 0, WS.zero⟩ ∧ Bys w3 S2 w' S' L))
  case atStart => exact ⟨0, rfl, by omega, by omega, ⟨S2, HW3.out, Bys.refl _ _ _⟩⟩
  case round =>
    obtain ⟨i, rfl, i0, i1, HREL⟩ := hrel
    by_cases hi : i < (NL.length : Int)
    · have c6 : decide (i < (NL.length : Int)) = true := decide_eq_true hi
      obtain ⟨S4, hw4, hB4⟩ := HREL.out
      have hF4 := F_bysG hB4 HR3.out
      have hi' : i.toNat < ks.length := by have := HNL.out; omega
      obtain ⟨ad, rfl⟩ : ∃ ad, A3 = some ad := by
        obtain ⟨ad, c, e, _⟩ := Kd.F_get hF4 ByteArray.empty i i0 hi
        exact ⟨ad, e⟩
      have hcell := cellS (Kd.F_now hF4) i0 hi
      rw [HNA.out _ hi'] at hcell
      obtain ⟨k, hkk⟩ : ∃ k, ks.getD i.toNat 0 = k := ⟨_, rfl⟩
      rw [hkk] at hcell
      have hkm : k ∈ ks := by rw [← hkk, List.getD_eq_getElem?_getD, List.getElem?_eq_getElem hi']; exact List.getElem_mem _
      have hkb := HK.out k hkm
      have htk : ks.take (i + 1).toNat = ks.take i.toNat ++ [k] := by
        rw [show (i + 1).toNat = i.toNat + 1 by omega, List.take_add_one, List.getElem?_eq_getElem hi']
        rw [List.getD_eq_getElem?_getD, List.getElem?_eq_getElem hi'] at hkk
        rw [← hkk]; rfl
      have HTK := Aside0.mk (show max (maxL (ks.take i.toNat)) k = maxL (ks.take (i + 1).toNat) by rw [htk, maxL_snoc])
      obtain ⟨l0, l6, _⟩ := hw4.cell0
      obtain ⟨AL, cL, hbL, _⟩ := hw4.cells
      have lf6 := blk_frozen hbL 6
      obtain ⟨m, hm⟩ : ∃ m, maxL (ks.take i.toNat) = m := ⟨_, rfl⟩
      have HMM := Aside0.mk hm
      replace l6 : wr.cell? ⟨L, 6, none⟩ = some (.int .i64 m) := by rw [← hm]; exact l6
      obtain ⟨mx, hmx⟩ : ∃ mx, max m k = mx := ⟨_, rfl⟩
      have HMX := Aside0.mk hmx
      have HNC := Aside0.mk (fun w => wnumber_calls hkb.1 (by omega) w)
      have HW4 := Aside0.mk hw4
      have HB4 := Aside0.mk hB4
      have p0 := eq_true i0
      have p1 := eq_true hi
      have hni : IntKind.i64.wrap (i + 1) = i + 1 := IntWalk.i64_in _ ⟨by omega, by omega⟩
      clear hw4 hB4 hF4 htk hkk hm hkm hbL
      go_wp2_with fail
      go_region_law (first
        | (go_simp; go_at_call 66; refine (HNC.out _).mono ?_; rintro e5 w5 ⟨rfl, hd⟩; obtain ⟨nd, rfl⟩ := hd.out)
        | fail)
      all_goals
        go_wp2_with fail
        go_roundg (gk - 1)
        case measure => omega
        case rel =>
          refine ⟨i + 1, rfl, by omega, by omega, ⟨?_⟩⟩
          have hmx2 : mx = maxL (ks.take (i + 1).toNat) := by rw [← HTK.out, HMM.out, HMX.out]
          obtain ⟨S5, hw5, hB5⟩ := HW4.out.setN mx (1 + nd)
          rw [← hmx2]
          exact ⟨S5, hw5, HB4.out.trans hB5⟩
    · have c6 : decide (i < (NL.length : Int)) = false := decide_eq_false hi
      have he : i.toNat = ks.length := by have := HNL.out; omega
      have hrel2 := HREL.out
      rw [he, List.take_length] at hrel2
      have HREL2 := Aside0.mk hrel2
      clear he hrel2 HREL
      obtain ⟨wo, rfl⟩ : ∃ wo : World, wo = wr := ⟨_, rfl⟩
      obtain ⟨S3, hwo, hBo⟩ := HREL2.out
      obtain ⟨n, hn⟩ : ∃ n, maxL ks = n := ⟨_, rfl⟩
      rw [hn] at hwo
      have HWo := Aside0.mk hwo
      have HBo := Aside0.mk (HB3.out.trans hBo)
      have HRo := Aside0.mk (F_bysG hBo HR3.out)
      have HN := Aside0.mk hn
      have hn0 : 0 ≤ n := by rw [← hn]; exact maxL_ge
      have hn1 : n ≤ 1000000000 := by rw [← hn]; exact maxL_le (by omega) (fun k hk => (HK.out k hk).2)
      clear hwo hBo hn HREL2
      go_wp2_with fail
      clear c6 i0 i1 hi
      go_loopg [53] NL.length (fun kq v53 w' => ∃ i : Int, v53 = .int .i64 i ∧ 0 ≤ i ∧ i + kq = NL.length ∧ Aside0 (∃ S', Wl W0 w' S' (fun k => k = L) g N L (dropL n (ks.take i.toNat) D1) ⟨n, 0, WS.zero⟩ ∧ Bys wo S3 w' S' L))
      case atStart => exact ⟨0, rfl, by omega, by omega, ⟨S3, HWo.out, Bys.refl _ _ _⟩⟩
      case round =>
        obtain ⟨i, rfl, i0, i1, HREL⟩ := hrel
        by_cases hi : i < (NL.length : Int)
        · have c6 : decide (i < (NL.length : Int)) = true := decide_eq_true hi
          obtain ⟨S4, hw4, hB4⟩ := HREL.out
          have hF4 := F_bysG hB4 HRo.out
          have hi' : i.toNat < ks.length := by have := HNL.out; omega
          obtain ⟨ad, rfl⟩ : ∃ ad, A3 = some ad := by
            obtain ⟨ad, c, e, _⟩ := Kd.F_get hF4 ByteArray.empty i i0 hi
            exact ⟨ad, e⟩
          have hcell := cellS (Kd.F_now hF4) i0 hi
          rw [HNA.out _ hi'] at hcell
          obtain ⟨k, hkk⟩ : ∃ k, ks.getD i.toNat 0 = k := ⟨_, rfl⟩
          rw [hkk] at hcell
          have hkm : k ∈ ks := by rw [← hkk, List.getD_eq_getElem?_getD, List.getElem?_eq_getElem hi']; exact List.getElem_mem _
          have hkb := HK.out k hkm
          have htk : ks.take (i + 1).toNat = ks.take i.toNat ++ [k] := by
            rw [show (i + 1).toNat = i.toNat + 1 by omega, List.take_add_one, List.getElem?_eq_getElem hi']
            rw [List.getD_eq_getElem?_getD, List.getElem?_eq_getElem hi'] at hkk
            rw [← hkk]; rfl
          have HTK := Aside0.mk htk
          have HNC := Aside0.mk (wnumber_calls hkb.1 (by omega) wr)
          have HW4 := Aside0.mk hw4
          have HB4 := Aside0.mk hB4
          have p0 := eq_true i0
          have p1 := eq_true hi
          have hni : IntKind.i64.wrap (i + 1) = i + 1 := IntWalk.i64_in _ ⟨by omega, by omega⟩
          have ck : decide (0 < k) = true := decide_eq_true (by omega)
          clear hw4 hB4 hF4 htk hkk hkm
          go_wp2_with fail
          refine HNC.out.mono ?_
          rintro e5 w5 ⟨rfl, hd⟩
          have HW5 := Aside0.mk (HW4.out.below hd.below)
          have HB5 := Aside0.mk (HB4.out.trans (Bys.of_below hd.below))
          obtain ⟨l0, l6, _⟩ := HW5.out.cell0
          replace l6 : w5.cell? ⟨L, 6, none⟩ = some (.int .i64 n) := l6
          clear hd hcell
          by_cases hkn : k < n
          · have ckn : decide (k < n) = true := decide_eq_true hkn
            have HDR := Aside0.mk (show (dRemove (dropL n (ks.take i.toNat) D1) (nameB k)).2 = dropL n (ks.take (i + 1).toNat) D1 by rw [HTK.out, dropL_snoc, if_pos hkn])
            clear hkn
            go_wp2_with fail
            refine (dk_remove (s := nameB k) HW5.out.dk (name_size _)).mono ?_
            rintro e6 w6 ⟨rfl, hnx⟩
            rw [HDR.out] at hnx
            obtain ⟨S6, hw6, hB6⟩ := HW5.out.dstep hnx
            have HFN := Aside0.mk (show ∃ S', Wl W0 w6 S' (fun k => k = L) g N L (dropL n (ks.take (i + 1).toNat) D1) ⟨n, 0, WS.zero⟩ ∧ Bys wo S3 w6 S' L from ⟨S6, hw6, HB5.out.trans hB6⟩)
            clear hw6 hB6 hnx l0 l6
            go_wp2_with fail
            go_roundg (gk - 1)
            case measure => omega
            case rel => exact ⟨i + 1, rfl, by omega, by omega, HFN⟩
          · have ckn : decide (k < n) = false := decide_eq_false hkn
            have HFN := Aside0.mk (show ∃ S', Wl W0 w5 S' (fun k => k = L) g N L (dropL n (ks.take (i + 1).toNat) D1) ⟨n, 0, WS.zero⟩ ∧ Bys wo S3 w5 S' L from ⟨S4, by rw [HTK.out, dropL_snoc, if_neg hkn]; exact HW5.out, HB5.out⟩)
            clear hkn
            go_wp2_with fail
            go_roundg (gk - 1)
            case measure => omega
            case rel => exact ⟨i + 1, rfl, by omega, by omega, HFN⟩
        · have c6 : decide (i < (NL.length : Int)) = false := decide_eq_false hi
          have he : i.toNat = ks.length := by have := HNL.out; omega
          have hrel2 := HREL.out
          rw [he, List.take_length] at hrel2
          obtain ⟨Sx, hwx, hBx⟩ := hrel2
          obtain ⟨D2, hD2⟩ : ∃ D2, dropL n ks D1 = D2 := ⟨_, rfl⟩
          rw [hD2] at hwx
          have HWX := Aside0.mk hwx
          have HBX := Aside0.mk (HBo.out.trans hBx)
          have HD2 := Aside0.mk hD2
          obtain ⟨l0, l6, _⟩ := hwx.cell0
          replace l6 : wr.cell? ⟨L, 6, none⟩ = some (.int .i64 n) := l6
          clear he hwx hBx hD2 HREL HNA HRo HBo HWo
          have hn00 : n = 0 := by rw [← HN.out, HKE.out]; rfl
          have c18 : (n == 0) = true := by rw [hn00]; rfl
          have HMX0 : Aside0 (MOk ⟨n, 0, WS.zero⟩) := ⟨⟨WOk.zero, Nat.zero_le _, ⟨hn0, hn1⟩, ⟨Int.le_refl _, by dsimp only; omega⟩⟩⟩
          have HD12 := Aside0.mk (show D2 = D1 by rw [← HD2.out, HKE.out]; rfl)
          obtain ⟨e0, he0⟩ : ∃ e0, (lgAnew D1 ⟨0, 0, WS.zero⟩ WS.zero).1 = e0 := ⟨_, rfl⟩
          have HE0 := Aside0.mk he0
          have HAN := Aside0.mk (anew_calls (s := WS.zero) (v := .slice none 0 0) HWX.out (by omega) WOk.zero (Nat.zero_le _) ⟨none, 0, rfl, Nat.zero_le _, Kd.F_nil _ _ _⟩ HMX0.out (by rw [hn00]; exact named_name (n := 0 + 1) (by omega) (by omega)))
          have HAN2 : Aside0 (Calls Try.prog 67 #[.pointer (some ⟨L, 0, none⟩), .agg #[.int .i64 0, .int .i64 0, .int .i64 0, .int .i64 0, .slice none 0 0]] wr (ErrP W0 wr Sx (fun k => k = L) g (N + 1) L (lgAnew D1 ⟨0, 0, WS.zero⟩ WS.zero))) := ⟨by
            have h := HAN.out
            rw [HD12.out, hn00] at h
            exact h⟩
          have HLx := Aside0.mk HWX.out.lt
          clear hn00 he0 HAN
          have hz0 : e0 = 0 := by rw [← HE0.out, ← HD1.out]; exact HZA.out
          have t1 : (e0 == 0) = true := by rw [hz0]; rfl
          have t2 : (e0 != 0) = false := by simp [bne, t1]
          obtain ⟨D3, hD3⟩ : ∃ D3, (lgAnew D1 ⟨0, 0, WS.zero⟩ WS.zero).2.1 = D3 := ⟨_, rfl⟩
          obtain ⟨z0, hz00⟩ : ∃ z0 : Int, (WS.zero.bytes.length : Int) = z0 := ⟨_, rfl⟩
          have hz01 : 0 ≤ z0 ∧ z0 ≤ 1000000 := by
            have h1 := (recsB_len (WOk.zero.recs_ok)).2
            have h2 : WS.zero.recs.length = 2 := rfl
            have h3 : WS.zero.bytes.length = (recsB WS.zero.recs).length := rfl
            omega
          have hM3 : (lgAnew D1 ⟨0, 0, WS.zero⟩ WS.zero).2.2 = ⟨1, z0, WS.zero⟩ := by
            have h1 := HE0.out
            unfold lgAnew mAnew at *
            dsimp only at h1 ⊢
            unfold dAnew at h1
            by_cases hw : (dWrite D1 tmpB 0 WS.zero.bytes).1 = 0
            · rw [if_pos hw, hz00]; rfl
            · rw [if_neg hw] at h1
              dsimp only at h1
              exact absurd (h1.trans hz0) hw
          have HD3M := Aside0.mk (And.intro hD3 hM3)
          have HRD := Aside0.mk (show (dRead D3 (nameB 1)).1 = recsB recs ++ t by
            have h1 := HRD0.out
            rw [HD1.out] at h1
            rw [← hD3, h1 (HE0.out.trans hz0), ← HRT.out.1, ← HRT.out.2.1, List.append_nil]; rfl)
          obtain rfl : D9 = D3 := by rw [← hD3, ← HD9.out, HD1.out]
          clear hD3 hM3 hz00 hz0
          go_wp2_with fail
          refine HAN2.out.mono ?_
          rintro e9 w9 ⟨rfl, S9, Q9', hw9, hB9, hq9⟩
          rw [HE0.out]
          rw [HD3M.out.1, HD3M.out.2] at hw9
          have HWX := Aside0.mk hw9
          have HBX := Aside0.mk (HBX.out.trans hB9)
          have HQX := Aside0.mk (show ∀ k, Q9' k → L ≤ k from fun k hk => by
            by_cases h : k < wr.heap.size
            · exact Nat.le_of_eq (hq9 k h hk).symm
            · have := HLx.out; omega)
          have HMX : Aside0 (MOk ⟨1, z0, WS.zero⟩) := ⟨⟨WOk.zero, Nat.zero_le _, ⟨by dsimp only; omega, by dsimp only; omega⟩, hz01⟩⟩
          have HNX := Aside0.mk (show N + 1 ≤ 1000000 by omega)
          clear hw9 hB9 hq9 l0 l6
          go_wp2_with fail
          obtain ⟨B, hB⟩ : ∃ B, (dRead D9 (nameB 1)).1 = B := ⟨_, rfl⟩
          have HBB := Aside0.mk (show B = recsB recs ++ t by rw [← hB]; exact HRD.out)
          have hbl : B.length ≤ 262144 := by rw [← hB]; exact (wread_len HWX.out.dk.2.2.2 _).1
          have HBE := Aside0.mk hB
          have HWD := Aside0.mk (HWX.out.below (below_drew1 (Below.refl _ _)))
          have HFL := Aside0.mk (HWD.out.file HMX.out)
          have HRDC := Aside0.mk (dk_read (s := nameB 1) HWD.out.dk HNX.out (name_size _))
          rw [hB] at HRDC
          obtain ⟨l00, _, _⟩ := HWX.out.cell0
          clear hB
          go_wp2_with fail
          go_region_held3 (fun w' => w'.cell? ⟨L, 0, none⟩ = some (.pointer (some ⟨g, 0, none⟩))) (first | go_keep | exact HC5.out) (first
            | (go_at_call 50; refine HFL.out.mono ?_; rintro e w' ⟨rfl, rfl⟩)
            | (go_at_call 23; refine HRDC.out.mono ?_; rintro e5 w5 ⟨AB, cB, rfl, hr5, hb5⟩; have HC5 := Aside0.mk ((HWD.out.below hb5).cell0.1); have HW5 := Aside0.mk (HWD.out.below hb5); have HB5 := Aside0.mk ((HBX.out.trans (Bys.of_below (below_drew1 (Below.refl _ _)))).trans (Bys.of_below hb5)); have HR5 := Aside0.mk (Kd.R_reads' hr5); clear hr5 hb5))
          have HALL := Aside0.mk (all_calls (c := cB) (qs := recs.map Rc.enc) (tail := t) HR5.out.2.2 HR5.out.2.1 (by omega) HBB.out (fun q hq => by obtain ⟨r, hr, rfl⟩ := List.mem_map.1 hq; have := Rc.enc_bytes (HRK.out r hr); omega) HTT.out)
          obtain ⟨z, hz⟩ : ∃ z, (B.length : Int) - t.length = z := ⟨_, rfl⟩
          have HZ := Aside0.mk (show z = ((recsB recs).length : Int) by rw [← hz, HBB.out, List.length_append]; omega)
          have HZT := Aside0.mk hz
          rw [hz] at HALL
          clear hz l00
          go_wp2_with fail
          refine HALL.out.mono ?_
          rintro e6 w6 ⟨v6, rows, rfl, hr6, hrr6, hb6⟩
          obtain ⟨A6, c6', rfl⟩ := Kd.R_slice hr6
          have HW6 := Aside0.mk (HW5.out.below hb6)
          have HB6 := Aside0.mk (HB5.out.trans (Bys.of_below hb6))
          have HR6 := Aside0.mk hr6
          have HRR6 := Aside0.mk hrr6
          have HRL := Aside0.mk (show rows.length = recs.length by rw [hrr6.len, List.length_map])
          have hrl0 : rows.length ≤ 100000 := by
            have h1 := (recsB_len HRK.out).1
            have h2 := HRL.out
            have h3 : (recsB recs).length ≤ 262144 := by have h4 := HBB.out; rw [h4, List.length_append] at hbl; omega
            omega
          clear hr6 hrr6 hb6
          go_upto_region 25 with (fail)
          obtain ⟨w7, hw7⟩ : ∃ w7, w7 = w6.alloc (.cells #[.int .i64 0, .int .i64 0, .int .i64 0, .int .i64 0, .slice none 0 0] 124) := ⟨_, rfl⟩
          obtain ⟨T, hT⟩ : ∃ T, w6.heap.size = T := ⟨_, rfl⟩
          have hb7 : Below w6.heap.size w6 w7 := by rw [hw7]; exact below_alloc (Below.refl _ _) _
          have hbk7 : w7.heap[T]? = some (.cells #[.int .i64 0, .int .i64 0, .int .i64 0, .int .i64 0, .slice none 0 0] 124 (0, 0)) := by rw [hw7, ← hT]; exact blk_new w6 _
          have HTT2 := Aside0.mk hT
          have HB7 := Aside0.mk hb7
          have HBK7 := Aside0.mk hbk7
          clear hT hb7 hbk7
          rw [HTT2.out, ← hw7]
          clear hw7
          go_wp2_with fail
          go_loopg [104] rows.length (fun kq v104 w' => ∃ i : Int, v104 = .int .i64 i ∧ 0 ≤ i ∧ i + kq = rows.length ∧ Aside0 (∃ (st : WS) (v : Value), WS.zero.run (recs.take i.toNat) = some st ∧ w'.heap[T]? = some (.cells #[.int .i64 st.bi, .int .i64 st.bt, .int .i64 st.ht, .int .i64 st.hv, v] 124 (0, 0)) ∧ Kd.V k48 48 w' 0 (fun k => T < k) v st.es ∧ Below w6.heap.size w6 w'))
          case atStart => exact ⟨0, rfl, by omega, by omega, ⟨WS.zero, .slice none 0 0, rfl, HBK7.out, ⟨none, 0, rfl, Nat.zero_le _, Kd.F_nil _ _ _⟩, HB7.out⟩⟩
          case round =>
            obtain ⟨i, rfl, i0, i1, HREL⟩ := hrel
            by_cases hi : i < (rows.length : Int)
            · have c6 : decide (i < (rows.length : Int)) = true := decide_eq_true hi
              obtain ⟨st, v, hrun, hTb, hV, hBw⟩ := HREL.out
              obtain ⟨g1, vq, q, rfl, hq, hcell, hRq⟩ := row_at (Kd.R_below HR6.out hBw) (HRR6.out.imp (fun v q h => Kd.R_below h hBw)) i0 hi
              have hri : i.toNat < recs.length := by have := HRL.out; omega
              obtain ⟨r, hr⟩ : ∃ r, recs[i.toNat]? = some r := ⟨_, List.getElem?_eq_getElem hri⟩
              have hrm : r ∈ recs := List.mem_of_getElem? hr
              have hqr : q = r.enc := by rw [List.getElem?_map, hr] at hq; exact (Option.some.inj hq).symm
              have hrk := HRK.out r hrm
              have henc := Rc.enc_bytes hrk
              rw [← hqr] at henc
              obtain ⟨gq, cq, rfl, hgq, _⟩ := Kd.R_form hRq (by omega)
              have hrq := Kd.R_reads' hRq
              have htk : recs.take (i + 1).toNat = recs.take i.toNat ++ [r] := by
                rw [show (i + 1).toNat = i.toNat + 1 by omega, List.take_add_one, hr]; rfl
              have hrun2 := WS.run_snoc r hrun
              rw [← htk] at hrun2
              have hpre : ∃ st', st.step r = some st' := by
                have h1 := HRN.out
                rw [show recs = recs.take (i + 1).toNat ++ recs.drop (i + 1).toNat from (List.take_append_drop _ _).symm, WS.run_append, hrun2] at h1
                cases h2 : st.step r with
                | none => rw [h2] at h1; cases h1
                | some st' => exact ⟨st', rfl⟩
              obtain ⟨st', hst'⟩ := hpre
              rw [hst'] at hrun2
              have hwok : WOk st := WOk.zero.run (fun r hr => HRK.out r (List.mem_of_mem_take hr)) hrun
              have hfew : st.es.length ≤ 1000000 := by have h1 := run_len hrun; have h2 := HRL.out; simp only [List.length_take, WS.zero, List.length_nil] at h1; omega
              have HTC : Aside0 (Calls Try.prog 69 #[.pointer (some ⟨T, 0, none⟩), .slice (some ⟨gq, 0, none⟩) q.length cq, .bool (decide (i = 0))] wr (TkP wr T (fun k => T < k) st')) := ⟨by
                by_cases hi0 : i = 0
                · obtain ⟨i9, t9, rest9, h9⟩ := HHD.out
                  have hr9 : r = .mark i9 t9 := by rw [h9, hi0] at hr; exact (Option.some.inj hr).symm
                  subst hr9
                  cases hst'
                  exact take_mark _ hTb hqr hrk hrq.2.2 hrq.2.1
                · rw [decide_eq_false hi0]
                  cases r with
                  | mark i9 t9 => cases hst'; exact take_mark _ hTb hqr hrk hrq.2.2 hrq.2.1
                  | hard t9 u9 => cases hst'; exact take_hard hTb hV (Nat.lt_irrefl T) hqr hrk hrq.2.2 hrq.2.1
                  | ent x9 =>
                    replace hst' : (if st.fit x9 then some (st.add x9) else none) = some st' := hst'
                    by_cases hf : st.fit x9
                    · rw [if_pos hf] at hst'
                      cases hst'
                      exact take_ent hTb hV (Nat.lt_irrefl T) hwok hfew hf hqr hrk hrq.2.2 hrq.2.1
                    · rw [if_neg hf] at hst'; cases hst'⟩
              have HRU := Aside0.mk hrun2
              have HBw := Aside0.mk hBw
              have HTlt := Aside0.mk (blk_lt hTb)
              have p0 := eq_true i0
              have p1 := eq_true hi
              have hni : IntKind.i64.wrap (i + 1) = i + 1 := IntWalk.i64_in _ ⟨by omega, by omega⟩
              have hbz : (i == 0) = decide (i = 0) := by by_cases h : i = 0 <;> simp [h]
              obtain ⟨bz, hbz2⟩ : ∃ bz, decide (i = 0) = bz := ⟨_, rfl⟩
              rw [hbz2] at HTC hbz
              clear hrun hTb hV hBw hq hRq hr hrm hrk henc hrq htk hrun2 hst' hwok hfew hqr hbz2
              go_wp2_with fail
              refine HTC.out.mono ?_
              rintro e8 w8 ⟨rfl, v8, hT8, hV8, hK8⟩
              have HFN := Aside0.mk (show ∃ (st : WS) (v : Value), WS.zero.run (recs.take (i + 1).toNat) = some st ∧ w8.heap[T]? = some (.cells #[.int .i64 st.bi, .int .i64 st.bt, .int .i64 st.ht, .int .i64 st.hv, v] 124 (0, 0)) ∧ Kd.V k48 48 w8 0 (fun k => T < k) v st.es ∧ Below w6.heap.size w6 w8 from
                ⟨st', v8, HRU.out, hT8, Kd.V_map hV8 fun A hF => Kd.F_mono hF (fun k hk => hk.elim (fun h => h.1) (fun h => Nat.lt_of_lt_of_le HTlt.out h)), HBw.out.trans (hK8.below (B := w6.heap.size) (fun k hk _ => by rw [hk, HTT2.out]; exact Nat.le_refl _) HBw.out.size)⟩)
              clear hT8 hV8 hK8
              go_wp2_with fail
              go_roundg (gk - 1)
              case measure => omega
              case rel => exact ⟨i + 1, rfl, by omega, by omega, HFN⟩
            · have c6 : decide (i < (rows.length : Int)) = false := decide_eq_false hi
              have he : i.toNat = recs.length := by have := HRL.out; omega
              have hrel2 := HREL.out
              rw [he, List.take_length] at hrel2
              obtain ⟨st, v, hrun, hTb, hV, hBw⟩ := hrel2
              rw [HRN.out] at hrun
              cases hrun
              have hrpos : ((rows.length : Int) == 0) = false := by
                obtain ⟨i9, t9, rest9, h9⟩ := HHD.out
                have h1 := HRL.out
                rw [h9, List.length_cons] at h1
                exact beq_eq_false_iff_ne.mpr (by omega)
              have hLT : L < T := by have h1 := HW6.out.lt; have h2 := HTT2.out; omega
              obtain ⟨Av, cv, rfl, hcv, hFv⟩ := hV
              obtain ⟨Q9, hq9, hv9, hqq⟩ := open_mid HW6.out HTT2.out hBw hcv hFv
              have HW9 := Aside0.mk hq9
              have HV9 := Aside0.mk hv9
              have HQ9 := Aside0.mk (show ∀ k, Q9 k → L ≤ k from fun k hk => (hqq k hk).elim (fun h => HQX.out k h) (fun h => by omega))
              have HB9 := Aside0.mk (HB6.out.trans (Bys.of_below hBw))
              have HT9 := Aside0.mk (show By wr S9 L T (.cells #[.int .i64 s.bi, .int .i64 s.bt, .int .i64 s.ht, .int .i64 s.hv, .slice Av s.es.length cv] 124) from ⟨hTb, fun hS => by have h1 := (HW6.out.dk.2.1 T hS).2; have h2 := HTT2.out; omega, by omega⟩)
              obtain ⟨l0, _, _⟩ := hq9.cell0
              obtain ⟨n3, hn3⟩ : ∃ n3, nameB 1 = n3 := ⟨_, rfl⟩
              have HNSZ := Aside0.mk (name_size 1)
              have HNE := Aside0.mk hn3
              have HFIL := Aside0.mk (show ∀ (w : World) (S' : Nat → Prop) (N' : Nat) (D' : Dsk), Wl W0 w S' Q9 g N' L D' ⟨1, z0, WS.zero⟩ → Calls Try.prog 50 #[.pointer (some ⟨L, 0, none⟩)] w fun e w' => e = .returned (.string n3) ∧ w = w' from fun w S' N' D' hw => by
                have h1 := hw.file HMX.out
                rw [hn3] at h1
                exact h1)
              rw [hn3] at HNSZ
              clear hTb hFv hq9 hv9 hqq hBw hLT he hn3
              by_cases ht : t = []
              · have hzB : z = B.length := by rw [← HZT.out, ht]; simp
                have c33 : decide (z < (B.length : Int)) = false := decide_eq_false (by omega)
                have HOP := Aside0.mk (show opD D9 1 recs t = (dSync D9 n3).2 by unfold opD; rw [if_pos ht, HNE.out])
                have HWA := Aside0.mk (HW9.out.below (below_drew1 (Below.refl _ _)))
                have HBA := Aside0.mk (Bys.of_below (S := S9) (L := L) (below_drew1 (Below.refl wr.heap.size wr)))
                clear hzB ht
                go_wp2_with fail
                have HNY := Aside0.mk (show (N + 1) ≤ 1000000 from HNX.out)
                go_region_held3 (fun w' => w'.cell? ⟨L, 0, none⟩ = some (.pointer (some ⟨g, 0, none⟩))) (first | go_keep | exact HCS.out) (first
                  | (go_at_call 50; refine (HFIL.out _ _ _ _ HWA.out).mono ?_; rintro e w' ⟨rfl, rfl⟩)
                  | (go_at_call 21; refine (dk_sync (s := n3) HWA.out.dk HNY.out HNSZ.out).mono ?_; rintro e11 w11 ⟨rfl, hnx⟩; obtain ⟨S11, hw11, hB11⟩ := HWA.out.dstep hnx; have HCS := Aside0.mk (hw11.cell0.1); have HW11 := Aside0.mk hw11; have HB11 := Aside0.mk (HBA.out.trans hB11); clear hnx hw11 hB11))
                have HT11 := Aside0.mk (HB11.out.keep _ _ HT9.out)
                have HV11 := Aside0.mk (V_bys HB11.out (fun k hk => (HW9.out.q k hk).2.2) HV9.out)
                obtain ⟨AL, cL, hbL, _⟩ := HW11.out.cells
                have b1 : w11.cell? ⟨L, 1, none⟩ = some (.int .i64 0) := blk_cell hbL 1
                have b2 : w11.cell? ⟨L, 2, none⟩ = some (.int .i64 0) := blk_cell hbL 2
                have b3 : w11.cell? ⟨L, 3, none⟩ = some (.int .i64 0) := blk_cell hbL 3
                have b4 : w11.cell? ⟨L, 4, none⟩ = some (.int .i64 0) := blk_cell hbL 4
                have b5 := blk_cell hbL 5
                replace b5 : w11.cell? ⟨L, 5, none⟩ = some (.slice AL 0 cL) := b5
                have b7 := blk_cell hbL 7
                replace b7 : w11.cell? ⟨L, 7, none⟩ = some (.int .i64 z0) := b7
                have bf := blk_frozen hbL
                have y0 : w11.cell? ⟨T, 0, none⟩ = some (.int .i64 s.bi) := blk_cell HT11.out.at_ 0
                have y1 : w11.cell? ⟨T, 1, none⟩ = some (.int .i64 s.bt) := blk_cell HT11.out.at_ 1
                have y2 : w11.cell? ⟨T, 2, none⟩ = some (.int .i64 s.ht) := blk_cell HT11.out.at_ 2
                have y3 : w11.cell? ⟨T, 3, none⟩ = some (.int .i64 s.hv) := blk_cell HT11.out.at_ 3
                have y4 : w11.cell? ⟨T, 4, none⟩ = some (.slice Av s.es.length cv) := blk_cell HT11.out.at_ 4
                clear hbL
                go_wp2_with fail
                go_ret2
                obtain ⟨S12, hw12, hB12⟩ := Wl.setAll z HW11.out HV11.out
                rw [← HOP.out] at hw12
                refine ⟨S12, Q9, by rw [HL.out]; rfl, ?_, ?_, fun k hk => by rw [HL.out]; exact HQ9.out k hk⟩
                · rw [HL.out, ← HZ.out]
                  exact hw12.mono (by omega)
                · rw [HL.out]
                  exact (HB9.out.trans HB11.out).trans hB12
              · have htl : 0 < t.length := Nat.pos_of_ne_zero (fun h => ht (List.eq_nil_of_length_eq_zero h))
                have c33 : decide (z < (B.length : Int)) = true := decide_eq_true (by have := HZT.out; omega)
                have HOP := Aside0.mk (show opD D9 1 recs t = (dSync (dCut D9 n3 z).2 n3).2 by unfold opD; rw [if_neg ht, HNE.out, HZ.out])
                have HWC := Aside0.mk (HW9.out.below (below_drew1 (Below.refl _ _)))
                clear ht htl
                go_wp2_with fail
                go_region_held3 (fun w' => w'.cell? ⟨L, 0, none⟩ = some (.pointer (some ⟨g, 0, none⟩))) (first | go_keep | exact HCA.out) (first
                  | (go_at_call 50; refine (HFIL.out _ _ _ _ HWC.out).mono ?_; rintro e w' ⟨rfl, rfl⟩)
                  | (go_at_call 35; refine (dk_cut (s := n3) (z := z) HWC.out.dk HNX.out HNSZ.out).mono ?_; rintro e10 w10 ⟨rfl, hnx⟩; obtain ⟨S10, hw10, hB10⟩ := HWC.out.dstep hnx; have HCA := Aside0.mk (hw10.cell0.1); have HW10 := Aside0.mk hw10; have HB10 := Aside0.mk ((Bys.of_below (S := S9) (L := L) (below_drew1 (Below.refl wr.heap.size wr))).trans hB10); clear hnx hw10 hB10))
                have HWA := Aside0.mk (HW10.out.below (below_drew1 (Below.refl _ _)))
                have HBA := Aside0.mk (HB10.out.trans (Bys.of_below (below_drew1 (Below.refl _ _))))
                obtain ⟨l0', _, _⟩ := HW10.out.cell0
                clear l0
                go_wp2_with fail
                have HNY := Aside0.mk (show (N + 1) + 1 ≤ 1000000 by omega)
                go_region_held3 (fun w' => w'.cell? ⟨L, 0, none⟩ = some (.pointer (some ⟨g, 0, none⟩))) (first | go_keep | exact HCS.out) (first
                  | (go_at_call 50; refine (HFIL.out _ _ _ _ HWA.out).mono ?_; rintro e w' ⟨rfl, rfl⟩)
                  | (go_at_call 21; refine (dk_sync (s := n3) HWA.out.dk HNY.out HNSZ.out).mono ?_; rintro e11 w11 ⟨rfl, hnx⟩; obtain ⟨S11, hw11, hB11⟩ := HWA.out.dstep hnx; have HCS := Aside0.mk (hw11.cell0.1); have HW11 := Aside0.mk hw11; have HB11 := Aside0.mk (HBA.out.trans hB11); clear hnx hw11 hB11))
                have HT11 := Aside0.mk (HB11.out.keep _ _ HT9.out)
                have HV11 := Aside0.mk (V_bys HB11.out (fun k hk => (HW9.out.q k hk).2.2) HV9.out)
                obtain ⟨AL, cL, hbL, _⟩ := HW11.out.cells
                have b1 : w11.cell? ⟨L, 1, none⟩ = some (.int .i64 0) := blk_cell hbL 1
                have b2 : w11.cell? ⟨L, 2, none⟩ = some (.int .i64 0) := blk_cell hbL 2
                have b3 : w11.cell? ⟨L, 3, none⟩ = some (.int .i64 0) := blk_cell hbL 3
                have b4 : w11.cell? ⟨L, 4, none⟩ = some (.int .i64 0) := blk_cell hbL 4
                have b5 := blk_cell hbL 5
                replace b5 : w11.cell? ⟨L, 5, none⟩ = some (.slice AL 0 cL) := b5
                have b7 := blk_cell hbL 7
                replace b7 : w11.cell? ⟨L, 7, none⟩ = some (.int .i64 z0) := b7
                have bf := blk_frozen hbL
                have y0 : w11.cell? ⟨T, 0, none⟩ = some (.int .i64 s.bi) := blk_cell HT11.out.at_ 0
                have y1 : w11.cell? ⟨T, 1, none⟩ = some (.int .i64 s.bt) := blk_cell HT11.out.at_ 1
                have y2 : w11.cell? ⟨T, 2, none⟩ = some (.int .i64 s.ht) := blk_cell HT11.out.at_ 2
                have y3 : w11.cell? ⟨T, 3, none⟩ = some (.int .i64 s.hv) := blk_cell HT11.out.at_ 3
                have y4 : w11.cell? ⟨T, 4, none⟩ = some (.slice Av s.es.length cv) := blk_cell HT11.out.at_ 4
                clear hbL
                go_wp2_with fail
                go_ret2
                obtain ⟨S12, hw12, hB12⟩ := Wl.setAll z HW11.out HV11.out
                rw [← HOP.out] at hw12
                refine ⟨S12, Q9, by rw [HL.out]; rfl, ?_, ?_, fun k hk => by rw [HL.out]; exact HQ9.out k hk⟩
                · rw [HL.out, ← HZ.out]
                  exact hw12.mono (by omega)
                · rw [HL.out]
                  exact (HB9.out.trans HB11.out).trans hB12

end Go.Proofs.Ytmmiipnmimjojaa.PS
end
section
namespace Go.Proofs.Ytmmiipnmimjojaa.PS
open Go.RowKit Go.Proofs.YtmmiipnmimjojaaW.PrintWords Go.Proofs.YtmmiipnmimjojaaW.PrintLast Go.Proofs.YtmmiipnmimjojaaW.PrintMore
open Go.Maps Go.Proofs.Ytmmiipnmimjojaa.PD
set_option linter.unusedVariables false
set_option linter.unusedSimpArgs false
end Go.Proofs.Ytmmiipnmimjojaa.PS
end
