/- The texts of this claim's seat, joined: part 23. -/
import Derived.Test.YtmmiipnmimjojaaJ22
import Derived.Test.YtmmiipnmimjojaaRows
import Derived.Deep.Slices
import Derived.SizedLaws
import Derived.ProofKit
section
namespace Go.Proofs.Ytmmiipnmimjojaa.PS
open Go.RowKit Go.Proofs.YtmmiipnmimjojaaW.PrintWords Go.Proofs.YtmmiipnmimjojaaW.PrintLast Go.Proofs.YtmmiipnmimjojaaW.PrintMore
open Go.Maps Go.Proofs.Ytmmiipnmimjojaa.PD
set_option linter.unusedVariables false
set_option linter.unusedSimpArgs false
attribute [local go_sem high] eqA81
theorem wroom_write (D : Dsk) (s : ByteArray) (at_ : Int) (b : List Int) : (dWrite D s at_ b).2.room = D.room := by
  unfold dWrite dW2; split; rfl; split; rfl; split; rfl; split <;> rfl
theorem wroom_sync (D : Dsk) (s : ByteArray) : (dSync D s).2.room = D.room := by unfold dSync; split <;> rfl
theorem wroom_remove (D : Dsk) (s : ByteArray) : (dRemove D s).2.room = D.room := by unfold dRemove; split <;> rfl
theorem wroom_rename (D : Dsk) (s t : ByteArray) : (dRename D s t).2.room = D.room := by unfold dRename; split; rfl; split; rfl; split <;> rfl
theorem wroom_anew (D : Dsk) (M : LM) (s : WS) : (lgAnew D M s).2.1.room = D.room := by
  unfold lgAnew dAnew
  dsimp only
  split
  · dsimp only
    split
    · rw [wroom_remove, wroom_rename, wroom_sync, wroom_write]
    · rw [wroom_rename, wroom_sync, wroom_write]
  · dsimp only
    rw [wroom_remove, wroom_write]
theorem wroom_put1 (D : Dsk) (M : LM) (b : List Int) : (lgPut1 D M b).2.1.room = D.room := wroom_write _ _ _ _
theorem wroom_put (D : Dsk) (M : LM) (b : List Int) : (lgPut D M b).2.1.room = D.room := by
  unfold lgPut
  split
  · split
    · rw [wroom_put1, wroom_anew]
    · exact wroom_anew _ _ _
  · exact wroom_put1 _ _ _
theorem wroom_append (D : Dsk) (M : LM) (es : List S48) : (lgAppend D M es).2.1.room = D.room := by
  unfold lgAppend
  split; rfl
  split; rfl
  split; rfl
  split
  · exact wroom_put _ _ _
  · exact wroom_put _ _ _
theorem hard_room2 {D : Dsk} {M : LM} {recs : List Rc} {p : Nat} {t u : Int} (h : LI D M recs p) (he : hardErr t u = 0) (h1 : ((recsB recs).length : Int) + (recsB [.hard t u]).length ≤ 262144) (h2 : ((recsB recs).length : Int) + (recsB [.hard t u]).length ≤ D.room) : (lgHard D M t u).1 = 0 := by
  unfold lgHard
  rw [if_neg (by rw [he]; decide)]
  split
  · rfl
  · have := write_room (rs := [.hard t u]) h h1 h2
    rw [if_pos this]
theorem put_n {D : Dsk} {M : LM} {b : List Int} (h : ¬ 262144 < M.sz + (b.length : Int)) : (lgPut D M b).2.2.n = M.n := by
  unfold lgPut
  rw [if_neg h]
  unfold lgPut1
  dsimp only
  split <;> rfl
theorem append_n {D : Dsk} {M : LM} {es : List S48} (h : ¬ 262144 < M.sz + ((recsB (es.map .ent)).length : Int)) : (lgAppend D M es).2.2.n = M.n := by
  have h1 := put_n (D := D) h
  unfold lgAppend
  split; rfl
  split; rfl
  split; rfl
  split
  · exact h1
  · exact h1
theorem hard_n {D : Dsk} {M : LM} {t u : Int} (h : ¬ 262144 < M.sz + ((recsB [.hard t u]).length : Int)) : (lgHard D M t u).2.2.n = M.n := by
  have h1 := put_n (D := D) h
  unfold lgHard
  split; rfl
  split; rfl
  split
  · exact h1
  · exact h1
def xL : S48 := ⟨1, 2, 1, []⟩
theorem xL_ok : EOk xL := ⟨by decide, rfl⟩
theorem entB_len {x : S48} (h : EOk x) : (recsB [.ent x]).length ≤ 2076 := by
  have := (recsB_len (rs := [.ent x]) (fun r hr => by rw [List.mem_singleton.1 hr]; exact h)).2
  simpa using this
theorem nm1 : nameB 1 = ⟨#[119, 97, 108, 45, 49]⟩ := by rfl
theorem zeroB_len : (recsB WS.zero.recs).length = 22 := zero_len
set_option maxHeartbeats 8000000 in
set_option maxRecDepth 100000 in
theorem wlive_calls (W : World) : Calls Try.prog 47 #[] W fun e w' => e = .returned (.bool true) ∧ Below W.heap.size W w' := by
  go_enter Try.func47, Try.ntmps47
  go_wp2_with fail
  refine (dk_new 1000 (by decide) W).mono ?_
  rintro e w1 ⟨g, S1, rfl, hd1⟩
  have hd1' : Dk W w1 S1 g 0 ⟨1000, []⟩ := hd1
  have HD1 := Aside0.mk hd1'
  clear hd1 hd1'
  go_wp2_with fail
  refine (lg_begin HD1.out (by decide)).mono ?_
  rintro e w2 ⟨S2, Q2, L, D2, M2, rfl, hl2, hn2, hs2, hr2, hB2, hL2, hq2⟩
  have HL2 := Aside0.mk hl2
  have HM2 := Aside0.mk (And.intro hn2 (And.intro hs2 hr2))
  clear hl2 hn2 hs2 hr2 hB2 hL2 hq2
  go_wp2_with fail
  have hba := below_alloc (Below.refl w2.heap.size w2) (.cells #[.int .i64 1, .int .i64 2, .int .i64 1, .slice none 0 0] 48)
  have HL3 := Aside0.mk (HL2.out.below hba)
  have HE3 := Aside0.mk (show Kd.F k48 (w2.alloc (.cells #[.int .i64 1, .int .i64 2, .int .i64 1, .slice none 0 0] 48)) (fun k => (¬ S2 k ∧ k ≠ L) ∧ k < (w2.alloc (.cells #[.int .i64 1, .int .i64 2, .int .i64 1, .slice none 0 0] 48)).heap.size) (some ⟨w2.heap.size, 0, none⟩) 1 [xL] from
    Kd.F_mono (F_one (x := xL) (Ax := none) (cx := 0) (ok := fun _ => False) (blk_new w2 _) (Nat.le_refl _) (Kd.F_nil _ _ _)) (fun k hk => by
      rcases hk with hk | hk
      · exact hk.elim
      · rw [hk]
        exact ⟨⟨fun hS => by have := (HL2.out.wl.dk.2.1 _ hS).2; omega, fun e => by have := HL2.out.wl.lt; omega⟩, by rw [World.size_alloc]; exact Nat.lt_succ_self _⟩))
  have hap := append_room (es := [xL]) HL2.out.li rfl (by rw [HM2.out.2.1]; exact ⟨⟨by decide, by decide⟩, trivial⟩) (by have h1 := zeroB_len; have h2 := entB_len xL_ok; rw [h1]; exact (by omega : (22 : Int) + ((recsB [.ent xL]).length : Int) ≤ 262144)) (by
    have h1 := zeroB_len
    have h2 : (recsB [.ent xL]).length = 8 + 5 := by rw [recsB_one, frameB_len]; rfl
    rw [HM2.out.2.2, h1]
    show (22 : Int) + ((recsB [.ent xL]).length : Int) ≤ 1000
    omega)
  have HAP := Aside0.mk hap
  clear hba hap
  refine (lg_append (es := [xL]) HL3.out (by decide) HE3.out (by decide) (by decide) (fun x hx => by rw [List.mem_singleton.1 hx]; rfl)).mono ?_
  rintro e w4 ⟨rfl, S4, Q4, recs4, p4, hl4, hc4, hB4, hq4⟩
  rw [HAP.out]
  obtain ⟨hf4, hs4, hrc4⟩ := hc4.1 HAP.out
  have hrc4' : recs4 = WS.zero.recs ++ [.ent xL] := by
    rcases hrc4 with ⟨h, _⟩ | ⟨h, _⟩
    · exact h
    · rw [h, HM2.out.2.1]; rfl
  have HRC4 := Aside0.mk hrc4'
  have HS4 := Aside0.mk (show (lgAppend D2 M2 [xL]).2.2.st = ⟨0, 0, 0, 0, [xL]⟩ by rw [hs4, HM2.out.2.1]; rfl)
  have HL4 := Aside0.mk hl4
  clear hl4 hc4 hB4 hq4 hf4 hs4 hrc4 hrc4'
  go_wp2_with fail
  refine (lg_sync HL4.out (by decide)).mono ?_
  rintro e w5 ⟨rfl, S5, Q5, recs5, p5, hl5, ⟨rfl, rfl⟩, hB5, hq5⟩
  have HL5 := Aside0.mk hl5
  clear hl5 hB5 hq5
  have hlen : (recsB recs5).length = 35 := by
    rw [HRC4.out, recsB_append, List.length_append, zeroB_len, recsB_one, frameB_len]; rfl
  have hhl : (recsB [.hard 3 1]).length = 11 := by rw [recsB_one, frameB_len]; rfl
  have hrm : (dSync (lgAppend D2 M2 [xL]).2.1 (nameB (lgAppend D2 M2 [xL]).2.2.n)).2.room = 1000 := by rw [wroom_sync, wroom_append, HM2.out.2.2]
  have HHD := Aside0.mk (hard_room2 (t := 3) (u := 1) HL5.out.li rfl (by rw [hlen, hhl]; decide) (by rw [hrm, hlen, hhl]; decide))
  have HNN := Aside0.mk (show (lgHard (dSync (lgAppend D2 M2 [xL]).2.1 (nameB (lgAppend D2 M2 [xL]).2.2.n)).2 (lgAppend D2 M2 [xL]).2.2 3 1).2.2.n = 1 by
    have h1 : (lgAppend D2 M2 [xL]).2.2.n = M2.n := append_n (by
      have h2 : (recsB ([xL].map .ent)).length = 13 := by rw [show [xL].map Rc.ent = [.ent xL] from rfl, recsB_one, frameB_len]; rfl
      rw [h2, HL2.out.li.sz, zeroB_len]; decide)
    rw [hard_n (by rw [HL5.out.li.sz, hlen, hhl]; decide), h1, HM2.out.1])
  clear hlen hhl hrm
  go_wp2_with fail
  refine (lg_hard (t := 3) (u := 1) HL5.out (by decide)).mono ?_
  rintro e w6 ⟨rfl, S6, Q6, recs6, p6, hl6, ⟨_, hc6⟩, hB6, hq6⟩
  rw [HHD.out]
  have HRC6 := Aside0.mk (show recs6.take p6 = recs5 by
    have h0 : (lgAppend D2 M2 [xL]).2.2.st.recs = recs5 := by rw [HS4.out, HRC4.out]; rfl
    rcases hc6 with ⟨rfl, rfl⟩ | ⟨rfl, rfl⟩ | ⟨⟨rfl, rfl⟩ | ⟨rfl, rfl⟩, _⟩
    · rw [List.take_length]
    · rw [List.take_length]; exact h0
    · rw [List.take_left']; rfl
    · show List.take _ ((lgAppend D2 M2 [xL]).2.2.st.recs ++ _) = _
      rw [List.take_left' rfl]; exact h0)
  have HL6 := Aside0.mk hl6
  clear hl6 hc6 hB6 hq6
  go_wp2_with fail
  refine (dk_crash (keep := []) HL6.out.wl.dk (by decide) (Kd.C_nil _ _) (fun ad e => by cases e) (fun z hz => (List.not_mem_nil hz).elim)).mono ?_
  rintro e w7 ⟨rfl, hnx⟩
  obtain ⟨S7, hd7, _, _, _⟩ := Bys.of_nx (L := L) hnx
  obtain ⟨st, hst, hop⟩ := HL6.out.li.crash0
  rw [HRC6.out] at hst hop
  have hst2 : st = ⟨0, 0, 0, 0, [xL]⟩ := by
    rw [HRC4.out, WS.run_append, WOk.zero.recs_run] at hst
    exact (Option.some.inj hst).symm
  subst hst2
  have HD7 := Aside0.mk hd7
  have HOP := Aside0.mk hop
  have HN7 := Aside0.mk HL6.out.n
  clear hnx hd7 hst hop
  go_wp2_with fail
  refine (lg_open HD7.out (by decide) HOP.out HN7.out).mono ?_
  rintro e w8 ⟨S8, Q8, L8, D8, M8, rfl, hl8, hn8, hs8, hr8, hB8, hL8, hq8⟩
  have HL8 := Aside0.mk hl8
  have HS8 := Aside0.mk hs8
  have HN8 := Aside0.mk hn8
  have HTC := Aside0.mk (term_calls (i := 1) hl8.wl hl8.mok ⟨by decide, by decide⟩)
  have htm : M8.st.term 1 = some 2 := by rw [hs8]; rfl
  rw [htm] at HTC
  clear hl8 hn8 hs8 hr8 hB8 hL8 hq8 htm
  go_wp2_with fail
  refine HTC.out.mono ?_
  rintro e w9 ⟨rfl, hb9⟩
  have HL9 := Aside0.mk (HL8.out.below hb9)
  have hls := HL9.out.wl.last HL9.out.mok
  have hla : M8.st.last = 1 := by rw [HS8.out]; rfl
  rw [hla] at hls
  have HLS := Aside0.mk hls
  clear hb9 hls hla
  go_wp2_with fail
  refine HLS.out.mono ?_
  rintro e w10 ⟨rfl, rfl⟩
  have HL10 := Aside0.mk (HL9.out.below (pw_below_drewN (Below.refl _ _) 1))
  obtain ⟨A1, c1, ⟨_, _, k3, k4, _⟩, _⟩ := HL10.out.wl.cell1
  rw [HS8.out] at k3 k4
  have HHC := Aside0.mk (hard_calls k3 k4)
  clear k3 k4
  go_wp2_with fail
  refine HHC.out.mono ?_
  rintro e w11 ⟨rfl, hb11⟩
  have HL11 := Aside0.mk (HL10.out.below hb11)
  have hfl := HL11.out.wl.file HL11.out.mok
  have hnn : M8.n = 1 := by
    rw [HN8.out]
    exact HNN.out
  rw [hnn, nm1] at hfl
  have HFL := Aside0.mk hfl
  clear hb11 hfl hnn
  go_wp2_with fail
  refine HFL.out.mono ?_
  rintro e w12 ⟨rfl, rfl⟩
  go_wp2_with fail
  go_ret
  exact ⟨rfl, HL11.out.wl.dk.1⟩
end Go.Proofs.Ytmmiipnmimjojaa.PS
end
section
namespace Go.Proofs.Ytmmiipnmimjojaa.PS
open Go.RowKit Go.Proofs.YtmmiipnmimjojaaW.PrintWords Go.Proofs.YtmmiipnmimjojaaW.PrintLast Go.Proofs.YtmmiipnmimjojaaW.PrintMore
open Go.Maps Go.Proofs.Ytmmiipnmimjojaa.PD
set_option linter.unusedVariables false
set_option linter.unusedSimpArgs false
theorem sameEntry_any (x y : S48) : ∃ r, tollgateref02_SameEntry.f x.f0 x.f1 x.f2 x.f3 y.f0 y.f1 y.f2 y.f3 = some r ∧ (x = y → r = true) := by
  unfold tollgateref02_SameEntry.f
  by_cases h0 : x.f0 = y.f0
  · rw [if_pos h0]
    by_cases h1 : x.f1 = y.f1
    · rw [if_pos h1]
      by_cases h2 : x.f2 = y.f2
      · rw [if_pos h2]
        exact ⟨_, rfl, fun e => by rw [e]; exact beq_self_eq_true _⟩
      · rw [if_neg h2]; exact ⟨_, rfl, fun e => absurd (by rw [e]) h2⟩
    · rw [if_neg h1]; exact ⟨_, rfl, fun e => absurd (by rw [e]) h1⟩
  · rw [if_neg h0]; exact ⟨_, rfl, fun e => absurd (by rw [e]) h0⟩
theorem sameEntries_l0 {a b : List S48} (hl : a.length = b.length) (hb : a.length ≤ 1000000000) : ∀ (m k : Nat) (i : Int), 0 ≤ i → i + m = a.length → m < k → ∃ r, tollgateref02_SameEntries.l0 k a b i = some r ∧ (a = b → r = true)
  | 0, k + 1, i, h0, h1, _ => by
    rw [tollgateref02_SameEntries.l0, if_neg (by omega)]
    exact ⟨true, rfl, fun _ => rfl⟩
  | m + 1, k + 1, i, h0, h1, hk => by
    rw [tollgateref02_SameEntries.l0, if_pos (by omega), if_pos h0, if_pos (by omega)]
    obtain ⟨r, hr, hrt⟩ := sameEntry_any (rd_T48 a i) (rd_T48 b i)
    rw [hr, Option.bind_some]
    cases r with
    | false => exact ⟨false, rfl, fun e => absurd (hrt (by rw [e])) (by decide)⟩
    | true =>
      rw [if_pos rfl, show wrap64 (i + 1) = i + 1 by unfold wrap64; omega]
      exact sameEntries_l0 hl hb m k (i + 1) (by omega) (by omega) (by omega)
theorem sameEntries_f {a b : List S48} (hb : a.length ≤ 1000000000) {k : Nat} (hk : a.length < k) : ∃ r, tollgateref02_SameEntries.f k a b = some r ∧ (a = b → r = true) := by
  unfold tollgateref02_SameEntries.f
  by_cases h : (a.length : Int) = b.length
  · rw [if_pos h]
    exact sameEntries_l0 (by omega) hb a.length k 0 (by omega) (by omega) hk
  · rw [if_neg h]
    exact ⟨false, rfl, fun e => absurd (by rw [e]) h⟩
theorem short_l0 {es : List S48} {kp : List Int} (a0 a1 a2 a3 a4 : Int) (hl : es.length ≤ 140737488355328) : ∀ (m k : Nat) (x3 : Int) (i : Nat), 20 * (i : Int) ≤ x3 → x3 ≤ 13000 → (x3 ≤ 6000 → 6000 - x3 < 20 * m) → m < k → i ≤ es.length →
    ∃ b, tollgatelaw06_short.l0 k x3 i a0 es a1 a2 a3 a4 kp = some b ∧ (b = true → es.length ≤ 301 ∧ kp.length ≤ 50)
  | m, k + 1, x3, i, h0, hx, hm, hk, hi => by
    rw [tollgatelaw06_short.l0]
    by_cases h1 : (i : Int) < es.length
    · rw [if_pos h1]
      by_cases h2 : x3 ≤ 6000
      · rw [if_pos h2, if_pos (by omega)]
        have hmn : 0 ≤ mn ((rd_T48 es i).f3.length : Int) 6000 ∧ mn ((rd_T48 es i).f3.length : Int) 6000 ≤ 6000 := by unfold mn; split <;> omega
        have e1 : wrap64 (x3 + (20 + mn ((rd_T48 es i).f3.length : Int) 6000)) = x3 + (20 + mn ((rd_T48 es i).f3.length : Int) 6000) := by unfold wrap64; omega
        have e2 : wrap64 ((i : Int) + 1) = ((i + 1 : Nat) : Int) := by unfold wrap64; omega
        rw [e1, e2]
        cases m with
        | zero => exact absurd (hm h2) (by omega)
        | succ m => exact short_l0 a0 a1 a2 a3 a4 hl m k _ (i + 1) (by omega) (by omega) (fun h => by have := hm h2; omega) (by omega) (by omega)
      · rw [if_neg h2]; exact ⟨false, rfl, fun h => by cases h⟩
    · rw [if_neg h1]
      by_cases h2 : x3 ≤ 6000
      · rw [if_pos h2]
        exact ⟨_, rfl, fun h => ⟨by omega, by have := of_decide_eq_true h; omega⟩⟩
      · rw [if_neg h2]; exact ⟨false, rfl, fun h => by cases h⟩
theorem short_calls6 {W : World} {x : S85} {A1 A6 : Option Addr} {c1 c6 : Nat} (h1 : k48.C W A1 x.f1.length x.f1) (l1 : x.f1.length ≤ c1) (h6 : (Kd.int .i64).C W A6 x.f4.length x.f4) (l6 : x.f4.length ≤ c6) (hl : x.f1.length ≤ 140737488355328) :
    ∃ b : Bool, (b = true → x.f1.length ≤ 301 ∧ x.f4.length ≤ 50) ∧ Calls Try.prog 48 #[.agg #[.int .i64 x.f0, .slice A1 x.f1.length c1, .int .i64 x.f2.f0, .int .i64 x.f2.f1, .int .i64 x.f3.f0, .int .i64 x.f3.f1, .slice A6 x.f4.length c6]] W fun e w' => e = .returned (.bool b) ∧ Below W.heap.size W w' := by
  obtain ⟨b, hb, hbt⟩ := short_l0 (es := x.f1) (kp := x.f4) x.f0 x.f2.f0 x.f2.f1 x.f3.f0 x.f3.f1 hl 400 500 0 0 (by omega) (by omega) (fun _ => by omega) (by omega) (Nat.zero_le _)
  exact ⟨b, hbt, tollgatelaw06_short.calls 500 x.f0 A1 c1 x.f1 x.f2.f0 x.f2.f1 x.f3.f0 x.f3.f1 A6 c6 x.f4 b W h1 l1 h6 l6 hb⟩
end Go.Proofs.Ytmmiipnmimjojaa.PS
end
section
namespace Go.Proofs.Ytmmiipnmimjojaa.PS
open Go.RowKit Go.Proofs.YtmmiipnmimjojaaW.PrintWords Go.Proofs.YtmmiipnmimjojaaW.PrintLast Go.Proofs.YtmmiipnmimjojaaW.PrintMore
open Go.Maps Go.Proofs.Ytmmiipnmimjojaa.PD
set_option linter.unusedVariables false
set_option linter.unusedSimpArgs false
/-- What is known of a deed. -/
structure DOk (x : S85) : Prop where
  es : ∀ y ∈ x.f1, okBytes y.f3 = true
  mark : -9223372036854775808 ≤ x.f3.f0 ∧ x.f3.f0 ≤ 9223372036854775807
  len : x.f1.length ≤ 140737488355328
/-- A deed, as it is read at W; its cells. -/
structure DeedC (W : World) (ad : Addr) (i : Int) (x : S85) (A1 : Option Addr) (c1 : Nat) (A6 : Option Addr) (c6 : Nat) : Prop where
  n0 : W.cell? (ad.add (i.toNat * 7)) = some (.int .i64 x.f0)
  n1 : W.cell? ⟨(ad.add (i.toNat * 7)).block, (ad.add (i.toNat * 7)).off + 1, none⟩ = some (.slice A1 x.f1.length c1)
  n2 : W.cell? ⟨(ad.add (i.toNat * 7)).block, (ad.add (i.toNat * 7)).off + 2, none⟩ = some (.int .i64 x.f2.f0)
  n3 : W.cell? ⟨(ad.add (i.toNat * 7)).block, (ad.add (i.toNat * 7)).off + 3, none⟩ = some (.int .i64 x.f2.f1)
  n4 : W.cell? ⟨(ad.add (i.toNat * 7)).block, (ad.add (i.toNat * 7)).off + 4, none⟩ = some (.int .i64 x.f3.f0)
  n5 : W.cell? ⟨(ad.add (i.toNat * 7)).block, (ad.add (i.toNat * 7)).off + 5, none⟩ = some (.int .i64 x.f3.f1)
  n6 : W.cell? ⟨(ad.add (i.toNat * 7)).block, (ad.add (i.toNat * 7)).off + 6, none⟩ = some (.slice A6 x.f4.length c6)
theorem DeedC.below {W W1 : World} {ad : Addr} {i : Int} {x : S85} {A1 A6 : Option Addr} {c1 c6 : Nat} (h : DeedC W ad i x A1 c1 A6 c6) (hb : Below W.heap.size W W1) : DeedC W1 ad i x A1 c1 A6 c6 :=
  ⟨(hb.cell (World.block_lt_of_cell? W _ h.n0)).trans h.n0, (hb.cell (World.block_lt_of_cell? W _ h.n1)).trans h.n1, (hb.cell (World.block_lt_of_cell? W _ h.n2)).trans h.n2, (hb.cell (World.block_lt_of_cell? W _ h.n3)).trans h.n3,
    (hb.cell (World.block_lt_of_cell? W _ h.n4)).trans h.n4, (hb.cell (World.block_lt_of_cell? W _ h.n5)).trans h.n5, (hb.cell (World.block_lt_of_cell? W _ h.n6)).trans h.n6⟩
/-- Its rows. -/
structure DeedF (W : World) (x : S85) (A1 : Option Addr) (c1 : Nat) (A6 : Option Addr) (c6 : Nat) : Prop where
  l1 : x.f1.length ≤ c1
  C1 : k48.C W A1 x.f1.length x.f1
  l6 : x.f4.length ≤ c6
  C6 : (Kd.int .i64).C W A6 x.f4.length x.f4
/-- A state that was told: its entries. -/
def WasF (w : World) (S : Nat → Prop) (L : Nat) (s : WS) (A : Option Addr) (c : Nat) : Prop := s.es.length ≤ c ∧ Kd.F k48 w (fun k => (¬ S k ∧ k ≠ L) ∧ k < w.heap.size) A s.es.length s.es
theorem was_of {W0 W w : World} {S Q : Nat → Prop} {g N L : Nat} {D : Dsk} {M : LM} {s : WS} {A : Option Addr} {c : Nat} (hw : Wl W0 W S Q g N L D M) (hn : Kd.N k48 48 w W.heap.size (fun k => W.heap.size ≤ k) (.slice A s.es.length c) s.es) : WasF w S L s A c := by
  refine ⟨(Kd.N_reads' hn).2.1, Kd.F_mono (Kd.F_bound (Kd.N_F hn)) (fun k hk => ⟨⟨fun hS => ?_, fun e => ?_⟩, hk.2⟩)⟩
  · have := (hw.dk.2.1 k hS).2; have := hk.1; omega
  · have := (hw.q L hw.lg.1).2.1; have := hk.1; omega
theorem WasF.bys {w w' : World} {S S' : Nat → Prop} {L : Nat} {s : WS} {A : Option Addr} {c : Nat} (h : WasF w S L s A c) (hb : Bys w S w' S' L) : WasF w' S' L s A c := ⟨h.1, F_bysE hb h.2 hb.size⟩
theorem WasF.below {w w' : World} {S : Nat → Prop} {L : Nat} {s : WS} {A : Option Addr} {c : Nat} (h : WasF w S L s A c) (hb : Below w.heap.size w w') : WasF w' S L s A c := h.bys (Bys.of_below hb)
theorem LG.few {W0 W : World} {S Q : Nat → Prop} {g N L p : Nat} {D : Dsk} {M : LM} {recs : List Rc} (h : LG W0 W S Q g N L D M recs p) : M.st.es.length ≤ 1000000000 := by
  have := h.mok.few
  omega
/-- What a deed of a script leaves; r: its answer. -/
def DidA (W0 W : World) (S Q : Nat → Prop) (g N L : Nat) (M : LM) (r : Int) (w' : World) : Prop := ∃ S' Q' D' M' recs' p', LG W0 w' S' Q' g (N + 2) L D' M' recs' p' ∧ (r ≠ 0 → M'.st = M.st) ∧ Bys W S w' S' L
theorem DidA.of {W0 W : World} {S Q : Nat → Prop} {g N N' L : Nat} {M : LM} {r : Int × Dsk × LM} {P : List Rc → Nat → Prop} {w' : World} (h : AfL W0 W S Q g N' L r P w') (hN : N' ≤ N + 2) (hr : ∀ recs' p', P recs' p' → r.1 ≠ 0 → r.2.2.st = M.st) : DidA W0 W S Q g N L M r.1 w' := by
  obtain ⟨S', Q', recs', p', hl, hp, hb, _⟩ := h
  exact ⟨S', Q', _, _, recs', p', ⟨hl.wl.mono hN, hl.li, by have := hl.n; omega⟩, hr recs' p' hp, hb⟩
end Go.Proofs.Ytmmiipnmimjojaa.PS
end
section
namespace Go.Proofs.Ytmmiipnmimjojaa.PS
open Go.RowKit Go.Proofs.YtmmiipnmimjojaaW.PrintWords Go.Proofs.YtmmiipnmimjojaaW.PrintLast Go.Proofs.YtmmiipnmimjojaaW.PrintMore
open Go.Maps Go.Proofs.Ytmmiipnmimjojaa.PD
set_option linter.unusedVariables false
set_option linter.unusedSimpArgs false
/-- The log of this law. -/
structure OvI (W0 w : World) (S Q : Nat → Prop) (g N L : Nat) (D : Dsk) (M : LM) (recs : List Rc) (p : Nat) (E : List S48) (m : Nat) : Prop where
  lg : LG W0 w S Q g N L D M recs p
  st : M.st = ⟨0, 0, 0, 0, E⟩
  room : D.room = 262144
  recs : recs.length ≤ m + 2
  es : E.length ≤ m
  nn : N ≤ 1000
theorem recsB_ents {es : List S48} (h : ∀ x ∈ es, EOk x) : (recsB (es.map .ent)).length ≤ 2076 * es.length := by
  have := (recsB_len (rs := es.map .ent) (fun r hr => by obtain ⟨x, hx, rfl⟩ := List.mem_map.1 hr; exact h x hx)).2
  rw [List.length_map] at this
  omega
end Go.Proofs.Ytmmiipnmimjojaa.PS
end
section
namespace Go.Proofs.Ytmmiipnmimjojaa.PS
open Go.RowKit Go.Proofs.YtmmiipnmimjojaaW.PrintWords Go.Proofs.YtmmiipnmimjojaaW.PrintLast Go.Proofs.YtmmiipnmimjojaaW.PrintMore
open Go.Maps Go.Proofs.Ytmmiipnmimjojaa.PD
set_option linter.unusedVariables false
set_option linter.unusedSimpArgs false
/-- No block of the disk, nor of the log. -/
def okQ (S Q : Nat → Prop) (L k : Nat) : Prop := ¬ S k ∧ k ≠ L ∧ ¬ Q k
theorem LG.grown {W0 w w1 : World} {S Q : Nat → Prop} {g N L p : Nat} {D : Dsk} {M : LM} {recs : List Rc} {row : Option Nat} (h : LG W0 w S Q g N L D M recs p) (hg : w.grownBy w1 row) (hb : Below W0.heap.size W0 w1) (hr : ∀ k, row = some k → k < w.heap.size → okQ S Q L k) : LG W0 w1 S Q g N L D M recs p := by
  obtain ⟨hQ, v, hh, hv⟩ := h.wl.lg
  have hL := h.wl.q L hQ
  have keep : ∀ k, Q k → w1.heap[k]? = w.heap[k]? := fun k hk => hg.block k (h.wl.q k hk).2.1 (fun e => (hr k e.symm (h.wl.q k hk).2.1).2.2 hk)
  refine ⟨⟨h.wl.dk.kp hb (P := fun k => row = some k) ⟨hg.os, hg.tape, hg.output, hg.size, fun k hk hn => hg.block k hk (fun e => hn e.symm)⟩ (fun k hS e => (hr k e (h.wl.dk.2.1 k hS).2).1 hS), ⟨hQ, v, (keep L hQ).trans hh, Kd.V_map hv fun A hF => Kd.F_step hF fun k hk _ => keep k hk.1⟩, fun k hk => ⟨(h.wl.q k hk).1, Nat.lt_of_lt_of_le (h.wl.q k hk).2.1 hg.size, (h.wl.q k hk).2.2⟩⟩, h.li, h.n⟩
theorem OvI.grown {W0 w w1 : World} {S Q : Nat → Prop} {g N L p m : Nat} {D : Dsk} {M : LM} {recs : List Rc} {E : List S48} {row : Option Nat} (h : OvI W0 w S Q g N L D M recs p E m) (hg : w.grownBy w1 row) (hb : Below W0.heap.size W0 w1) (hr : ∀ k, row = some k → k < w.heap.size → okQ S Q L k) : OvI W0 w1 S Q g N L D M recs p E m :=
  ⟨h.lg.grown hg hb hr, h.st, h.room, h.recs, h.es, h.nn⟩
theorem OvI.below {W0 w w1 : World} {S Q : Nat → Prop} {g N L p m : Nat} {D : Dsk} {M : LM} {recs : List Rc} {E : List S48} (h : OvI W0 w S Q g N L D M recs p E m) (hb : Below w.heap.size w w1) : OvI W0 w1 S Q g N L D M recs p E m :=
  ⟨h.lg.below hb, h.st, h.room, h.recs, h.es, h.nn⟩
end Go.Proofs.Ytmmiipnmimjojaa.PS
end
section
namespace Go.Proofs.Ytmmiipnmimjojaa.PS
open Go.RowKit Go.Proofs.YtmmiipnmimjojaaW.PrintWords Go.Proofs.YtmmiipnmimjojaaW.PrintLast Go.Proofs.YtmmiipnmimjojaaW.PrintMore
open Go.Maps Go.Proofs.Ytmmiipnmimjojaa.PD
set_option linter.unusedVariables false
set_option linter.unusedSimpArgs false
/-- What a crash may leave is among what was seen; the last of it is what the log is. -/
structure Seen (M : LM) (recs : List Rc) (p : Nat) (l : List WS) : Prop where
  all : ∀ q st, p ≤ q → q ≤ recs.length → WS.zero.run (recs.take q) = some st → st ∈ l
  last : ∃ l0, l = l0 ++ [M.st]
theorem Seen.one {D : Dsk} {M : LM} {recs : List Rc} {p : Nat} (h : LI D M recs p) (hp : p = recs.length) : Seen M recs p [M.st] := by
  refine ⟨fun q st h1 h2 hr => ?_, [], rfl⟩
  have hq : q = recs.length := by omega
  rw [hq, List.take_length, h.run] at hr
  cases hr
  exact List.mem_singleton.2 rfl
theorem Seen.mem {M : LM} {recs : List Rc} {p : Nat} {l : List WS} (h : Seen M recs p l) : M.st ∈ l := by
  obtain ⟨l0, rfl⟩ := h.last
  exact List.mem_append_right _ (.head _)
theorem Seen.next {D D' : Dsk} {M M' : LM} {recs recs' rs : List Rc} {p p' : Nat} {l : List WS} (h : Seen M recs p l) (li : LI D M recs p) (li' : LI D' M' recs' p') (hrs : rs.length ≤ 1)
    (hc : (recs' = recs ++ rs ∧ p' = p) ∨ (recs' = M.st.recs ++ rs ∧ p' = M.st.recs.length)) : Seen M' recs' p' (l ++ [M'.st]) := by
  refine ⟨fun q st h1 h2 hr => ?_, l, rfl⟩
  by_cases hq : q = recs'.length
  · rw [hq, List.take_length, li'.run] at hr
    cases hr
    exact List.mem_append_right _ (.head _)
  · refine List.mem_append_left _ ?_
    rcases hc with ⟨e, hp⟩ | ⟨e, hp⟩
    · rw [e, List.length_append] at h2 hq
      rw [e, List.take_append_of_le_length (by omega)] at hr
      exact h.all q st (by omega) (by omega) hr
    · rw [e, List.length_append] at h2 hq
      have hq2 : q = M.st.recs.length := by omega
      rw [e, hq2, List.take_append_of_le_length (Nat.le_refl _), List.take_length, li.wok.recs_run] at hr
      cases hr
      exact h.mem
def WS.s87 (s : WS) : S87 := ⟨⟨s.bi, s.bt⟩, ⟨s.ht, s.hv⟩, s.es⟩
theorem N_bysQ {α : Type} {d : Kd α} {e base : Nat} {w w' : World} {S Q S' Q' : Nat → Prop} {L : Nat} {v : Value} {xs : List α} (h : Bys w S w' S' L) (hq : ∀ k, k < w.heap.size → Q' k → Q k) (hr : Kd.N d e w base (okQ S Q L) v xs) : Kd.N d e w' base (okQ S' Q' L) v xs :=
  Kd.N_mono (Kd.N_step (Kd.N_bound hr) (fun k hk hlt => (h.step hlt hk.1.1 hk.1.2.1).1)) (fun k hk => ⟨(h.step hk.2 hk.1.1 hk.1.2.1).2, hk.1.2.1, fun hQ => hk.1.2.2 (hq k hk.2 hQ)⟩)
/-- The states that were seen lie in a row beside the log. -/
def SeenR (W0 w : World) (S Q : Nat → Prop) (L : Nat) (v : Value) (l : List WS) : Prop := Kd.N k87 87 w W0.heap.size (okQ S Q L) v (l.map WS.s87)
theorem SeenR.bys {W0 w w' : World} {S Q S' Q' : Nat → Prop} {L : Nat} {v : Value} {l : List WS} (h : SeenR W0 w S Q L v l) (hb : Bys w S w' S' L) (hq : ∀ k, k < w.heap.size → Q' k → Q k) : SeenR W0 w' S' Q' L v l := N_bysQ hb hq h
theorem SeenR.below {W0 w w' : World} {S Q : Nat → Prop} {L : Nat} {v : Value} {l : List WS} (h : SeenR W0 w S Q L v l) (hb : Below w.heap.size w w') : SeenR W0 w' S Q L v l := Kd.N_below h hb
/-- The state that was seen last. -/
theorem row87_at {w : World} {base : Nat} {ok : Nat → Prop} {v : Value} {l : List WS} (h : Kd.N k87 87 w base ok v (l.map WS.s87)) {j : Nat} {s : WS} (hj : l[j]? = some s) :
    ∃ ad c A4 c4, v = .slice (some ad) l.length c ∧ w.cell? (ad.add (j * 5)) = some (.int .i64 s.bi) ∧ w.cell? ⟨(ad.add (j * 5)).block, (ad.add (j * 5)).off + 1, none⟩ = some (.int .i64 s.bt) ∧ w.cell? ⟨(ad.add (j * 5)).block, (ad.add (j * 5)).off + 2, none⟩ = some (.int .i64 s.ht) ∧ w.cell? ⟨(ad.add (j * 5)).block, (ad.add (j * 5)).off + 3, none⟩ = some (.int .i64 s.hv) ∧ w.cell? ⟨(ad.add (j * 5)).block, (ad.add (j * 5)).off + 4, none⟩ = some (.slice A4 s.es.length c4) ∧ s.es.length ≤ c4 ∧ k48.C w A4 s.es.length s.es := by
  obtain ⟨A, c, rfl, hc, hC⟩ := Kd.N_reads h
  rw [List.length_map] at hC hc ⊢
  have hlt : j < l.length := by
    rcases Nat.lt_or_ge j l.length with h1 | h1
    · exact h1
    · rw [List.getElem?_eq_none h1] at hj; cases hj
  obtain ⟨ad, A4, c4, hA, x0, x1, x2, x3, x4, l4, C4⟩ := at_T87 hC (j : Int) (by omega) (by omega)
  have hr : rd_T87 (l.map WS.s87) (j : Int) = s.s87 := by
    unfold rd_T87
    rw [Int.toNat_natCast, List.getD_eq_getElem?_getD, List.getElem?_map, hj]
    rfl
  rw [hr] at x0 x1 x2 x3 x4 l4 C4
  rw [Int.toNat_natCast] at x0 x1 x2 x3 x4
  subst hA
  exact ⟨ad, c, A4, c4, rfl, x0, x1, x2, x3, x4, l4, C4⟩
theorem SeenR.at_ {W0 w : World} {S Q : Nat → Prop} {L : Nat} {v : Value} {l : List WS} (h : SeenR W0 w S Q L v l) {j : Nat} {s : WS} (hj : l[j]? = some s) :
    ∃ ad c A4 c4, v = .slice (some ad) l.length c ∧ w.cell? (ad.add (j * 5)) = some (.int .i64 s.bi) ∧ s.es.length ≤ c4 ∧ k48.C w A4 s.es.length s.es := by
  obtain ⟨ad, c, A4, c4, e, x0, _, _, _, _, l4, C4⟩ := row87_at h hj
  exact ⟨ad, c, A4, c4, e, x0, l4, C4⟩
/-- A state that was seen, in its row; a state in a block of its own. -/
def RowC (w : World) (ad : Addr) (j : Nat) (s : WS) (A : Option Addr) (c : Nat) : Prop := w.cell? (ad.add (j * 5)) = some (.int .i64 s.bi) ∧ w.cell? ⟨(ad.add (j * 5)).block, (ad.add (j * 5)).off + 1, none⟩ = some (.int .i64 s.bt) ∧ w.cell? ⟨(ad.add (j * 5)).block, (ad.add (j * 5)).off + 2, none⟩ = some (.int .i64 s.ht) ∧ w.cell? ⟨(ad.add (j * 5)).block, (ad.add (j * 5)).off + 3, none⟩ = some (.int .i64 s.hv) ∧ w.cell? ⟨(ad.add (j * 5)).block, (ad.add (j * 5)).off + 4, none⟩ = some (.slice A s.es.length c)
def OwnC (w : World) (U : Nat) (s : WS) (A : Option Addr) (c : Nat) : Prop := w.cell? ⟨U, 0, none⟩ = some (.int .i64 s.bi) ∧ w.cell? ⟨U, 1, none⟩ = some (.int .i64 s.bt) ∧ w.cell? ⟨U, 2, none⟩ = some (.int .i64 s.ht) ∧ w.cell? ⟨U, 3, none⟩ = some (.int .i64 s.hv) ∧ w.cell? ⟨U, 4, none⟩ = some (.slice A s.es.length c)
theorem ownC_of {w : World} {U : Nat} {s : WS} {A : Option Addr} {c : Nat} (h : w.heap[U]? = some (.cells #[.int .i64 s.bi, .int .i64 s.bt, .int .i64 s.ht, .int .i64 s.hv, .slice A s.es.length c] 87 (0, 0))) : OwnC w U s A c := ⟨blk_cell h 0, blk_cell h 1, blk_cell h 2, blk_cell h 3, blk_cell h 4⟩
theorem cell_below {w w' : World} {a : Addr} {v : Value} (hb : Below w.heap.size w w') (h : w.cell? a = some v) : w'.cell? a = some v := (hb.cell (World.block_lt_of_cell? w _ h)).trans h
theorem RowC.below {w w' : World} {ad : Addr} {j : Nat} {s : WS} {A : Option Addr} {c : Nat} (h : RowC w ad j s A c) (hb : Below w.heap.size w w') : RowC w' ad j s A c := ⟨cell_below hb h.1, cell_below hb h.2.1, cell_below hb h.2.2.1, cell_below hb h.2.2.2.1, cell_below hb h.2.2.2.2⟩
theorem OwnC.below {w w' : World} {U : Nat} {s : WS} {A : Option Addr} {c : Nat} (h : OwnC w U s A c) (hb : Below w.heap.size w w') : OwnC w' U s A c := ⟨cell_below hb h.1, cell_below hb h.2.1, cell_below hb h.2.2.1, cell_below hb h.2.2.2.1, cell_below hb h.2.2.2.2⟩
/-- SameState, whichever the world. -/
theorem sameState_all {s1 s2 : WS} (hb : s1.es.length ≤ 1000000000) :
    ∃ r : Bool, (s1 = s2 → r = true) ∧ ∀ (W : World) (A1 A2 : Option Addr) (c1 c2 : Nat), k48.C W A1 s1.es.length s1.es → s1.es.length ≤ c1 → k48.C W A2 s2.es.length s2.es → s2.es.length ≤ c2 → Calls Try.prog 52 #[.agg #[.int .i64 s1.bi, .int .i64 s1.bt, .int .i64 s1.ht, .int .i64 s1.hv, .slice A1 s1.es.length c1], .agg #[.int .i64 s2.bi, .int .i64 s2.bt, .int .i64 s2.ht, .int .i64 s2.hv, .slice A2 s2.es.length c2]] W fun e w' => e = .returned (.bool r) ∧ Below W.heap.size W w' := by
  obtain ⟨r, hr, hrt⟩ := sameEntries_f (a := s1.es) (b := s2.es) hb (Nat.lt_succ_self _)
  have key : ∃ r : Bool, (s1 = s2 → r = true) ∧ tollgateref06_SameState.f (s1.es.length + 1) s1.bi s1.bt s1.ht s1.hv s1.es s2.bi s2.bt s2.ht s2.hv s2.es = some r := by
    unfold tollgateref06_SameState.f
    by_cases h3 : (s1.bi == s2.bi && (s1.bt == s2.bt)) = true
    · rw [if_pos h3]
      by_cases h4 : (s1.ht == s2.ht && (s1.hv == s2.hv)) = true
      · rw [if_pos h4, hr]
        exact ⟨r, fun e => hrt (by rw [e]), rfl⟩
      · rw [if_neg h4]
        exact ⟨false, fun e => absurd (by rw [e]; simp) h4, rfl⟩
    · rw [if_neg h3]
      exact ⟨false, fun e => absurd (by rw [e]; simp) h3, rfl⟩
  obtain ⟨r2, hr2, hf⟩ := key
  exact ⟨r2, hr2, fun W A1 A2 c1 c2 h1 l1 h2 l2 => tollgateref06_SameState.calls _ _ _ _ _ A1 c1 _ _ _ _ _ A2 c2 _ r2 W h1 l1 h2 l2 hf⟩
/-- The log of WalLasts, and what was seen of it. -/
structure LsI (W0 w : World) (S Q : Nat → Prop) (g N L : Nat) (D : Dsk) (M : LM) (recs : List Rc) (p : Nat) (v : Value) (l : List WS) : Prop where
  lg : LG W0 w S Q g N L D M recs p
  seen : Seen M recs p l
  row : SeenR W0 w S Q L v l
  few : ∀ s ∈ l, s.es.length ≤ 1000000000
/-- The same ahead of the state's being seen. -/
structure LsP (W0 w : World) (S Q : Nat → Prop) (g N L : Nat) (D : Dsk) (M : LM) (recs : List Rc) (p : Nat) (v : Value) (l : List WS) : Prop where
  lg : LG W0 w S Q g N L D M recs p
  seen : Seen M recs p (l ++ [M.st])
  row : SeenR W0 w S Q L v l
  few : ∀ s ∈ l, s.es.length ≤ 1000000000
section
variable {W0 w w' w2 : World} {S Q S' Q' : Nat → Prop} {g N N' L p p' : Nat} {D D' : Dsk} {M M' : LM} {recs recs' rs : List Rc} {v v' : Value} {l : List WS}
theorem LsI.below (h : LsI W0 w S Q g N L D M recs p v l) (hb : Below w.heap.size w w') : LsI W0 w' S Q g N L D M recs p v l := ⟨h.lg.below hb, h.seen, h.row.below hb, h.few⟩
theorem LsP.below (h : LsP W0 w S Q g N L D M recs p v l) (hb : Below w.heap.size w w') : LsP W0 w' S Q g N L D M recs p v l := ⟨h.lg.below hb, h.seen, h.row.below hb, h.few⟩
theorem LsP.mono (h : LsP W0 w S Q g N L D M recs p v l) (hN : N ≤ N') : LsP W0 w S Q g N' L D M recs p v l := ⟨⟨h.lg.wl.mono hN, h.lg.li, by have := h.lg.n; omega⟩, h.seen, h.row, h.few⟩
/-- A deed that leaves what was seen. -/
theorem LsI.deed (h : LsI W0 w S Q g N L D M recs p v l) (hl : LG W0 w' S' Q' g N' L D' M' recs' p') (hrs : rs.length ≤ 1) (hc : (recs' = recs ++ rs ∧ p' = p) ∨ (recs' = M.st.recs ++ rs ∧ p' = M.st.recs.length)) (hb : Bys w S w' S' L) (hq : ∀ k, k < w.heap.size → Q' k → Q k) : LsP W0 w' S' Q' g N' L D' M' recs' p' v l :=
  ⟨hl, h.seen.next h.lg.li hl.li hrs hc, h.row.bys hb hq, h.few⟩
/-- The state is seen. -/
theorem LsP.more {row : Option Nat} (h : LsP W0 w S Q g N L D M recs p v l) (hv : row = v.ownBlock) (hg : w.grownBy w2 row) (hb : Below W0.heap.size W0 w2) (hN : Kd.N k87 87 w2 W0.heap.size (okQ S Q L) v' (l.map WS.s87 ++ [M.st.s87])) : LsI W0 w2 S Q g N L D M recs p v' (l ++ [M.st]) :=
  ⟨h.lg.grown hg hb (fun k hk _ => h.row.1 k (hv ▸ hk)), h.seen, by unfold SeenR; rw [List.map_append]; exact hN, fun s hs => (List.mem_append.1 hs).elim (h.few s) (fun hs => by rw [List.mem_singleton.1 hs]; exact h.lg.few)⟩
end
end Go.Proofs.Ytmmiipnmimjojaa.PS
end
section
namespace Go.Proofs.Ytmmiipnmimjojaa.PS
open Go.RowKit Go.Proofs.YtmmiipnmimjojaaW.PrintWords Go.Proofs.YtmmiipnmimjojaaW.PrintLast Go.Proofs.YtmmiipnmimjojaaW.PrintMore
open Go.Maps Go.Proofs.Ytmmiipnmimjojaa.PD
set_option linter.unusedVariables false
set_option linter.unusedSimpArgs false
/-- A file whose bytes last. -/
def sureF (b : List Int) : Fil := ⟨b, b, true, []⟩
def freshF (b : List Int) : Fil := ⟨b, [], false, [⟨false, 0, 0, b⟩]⟩
theorem write_fresh {D : Dsk} {s : ByteArray} {b : List Int} (hn : namedB s = true) (hg : aget s.data.toList D.files = none) (hl : D.files.length < 16) (hb : (b.length : Int) ≤ 262144) (hr : (usedB D.files : Int) + b.length ≤ D.room) : dWrite D s 0 b = (0, ⟨D.room, aput s.data.toList (freshF b) D.files⟩) := by
  have h1 : (dWrite D s 0 b).1 = 0 := by
    unfold dWrite
    rw [if_neg (by rw [hn]; decide), hg]
    unfold dW2
    have hm : moreB ((none : Option Fil).getD z110) 0 b = b.length := by
      unfold moreB
      show max 0 (0 + (b.length : Int) - ((z110.f0.length : Nat) : Int)) = _
      have : z110.f0.length = 0 := rfl
      omega
    have hz : ((((none : Option Fil).getD z110).f0.length : Nat) : Int) = 0 := rfl
    rw [hm, hz]
    rw [if_neg (by omega), if_neg (by omega), if_neg (by omega)]
  have h2 := (write_ok h1).1
  rw [hg] at h2
  have hwf : wFil ((none : Option Fil).getD z110) 0 b = freshF b := by
    unfold wFil layL freshF
    simp [z110]
  rw [hwf] at h2
  exact Prod.ext h1 h2
theorem sync_put {room : Int} {s : ByteArray} {f : Fil} {l : List (Nm × Fil)} (hs : Srt l) : dSync ⟨room, aput s.data.toList f l⟩ s = (0, ⟨room, aput s.data.toList (sureF f.f0) l⟩) := by
  unfold dSync
  rw [show aget s.data.toList (aput s.data.toList f l) = _ from (aget_put hs).trans (if_pos rfl)]
  dsimp only
  rw [aput_put hs]
  rfl
theorem nm2_not1 : nm 1 ≠ nm 2 := fun h => by have := nm_inj (by omega) (by omega) (by omega) (by omega) h; omega
theorem put_two (f g : Fil) : aput (nm 2) g [(nm 1, f)] = [(nm 1, f), (nm 2, g)] := by
  rw [aput, if_neg nm2_not1, if_neg (show ¬ nlt (nm 2) (nm 1) = true by decide)]
  rfl
theorem put_tmp (f g : Fil) : aput tmpB.data.toList g [(nm 1, f)] = [(nm 1, f), (tmpB.data.toList, g)] := by
  rw [aput, if_neg (nm_tmp (by omega) (by omega)), if_neg (show ¬ nlt tmpB.data.toList (nm 1) = true by decide)]
  rfl
theorem crF_sure (b : List Int) (k : Int) : crF (sureF b) k = some (sureF b) := by
  unfold crF
  rw [if_neg (by unfold sureF; simp)]
  rfl
theorem crash_one {room : Int} {n : Nm} {b : List Int} (keep : List Int) : dCrash ⟨room, [(n, sureF b)]⟩ keep = ⟨room, [(n, sureF b)]⟩ := by
  unfold dCrash crL
  dsimp only
  rw [crF_sure]
  rfl
theorem crash_two {room : Int} {n m : Nm} {b c : List Int} (keep : List Int) : dCrash ⟨room, [(n, sureF b), (m, sureF c)]⟩ keep = ⟨room, [(n, sureF b), (m, sureF c)]⟩ := by
  unfold dCrash crL
  dsimp only
  rw [crF_sure]
  unfold crL
  dsimp only
  rw [crF_sure]
  rfl
theorem rm_one {room : Int} {f : Fil} : (dRemove ⟨room, [(nm 1, f)]⟩ tmpB).2 = ⟨room, [(nm 1, f)]⟩ := (rm_tmp (D := ⟨room, [(nm 1, f)]⟩) rfl (by omega) (by omega)).1
/-- wal.tmp torn, or not there: it is taken away. -/
theorem crash_tmp {room : Int} {b : List Int} {f : Fil} (keep : List Int) : (dRemove (dCrash ⟨room, [(nm 1, sureF b), (tmpB.data.toList, f)]⟩ keep) tmpB).2 = ⟨room, [(nm 1, sureF b)]⟩ := by
  have hne : nm 1 ≠ tmpB.data.toList := nm_tmp (by omega) (by omega)
  unfold dCrash crL
  dsimp only
  rw [crF_sure]
  unfold crL
  dsimp only
  cases crF f (kOf keep (0 + 1)) with
  | none => exact rm_one
  | some f' =>
    show (dRemove ⟨room, [(nm 1, sureF b), (tmpB.data.toList, f')]⟩ tmpB).2 = _
    unfold dRemove
    dsimp only
    rw [show aget tmpB.data.toList [(nm 1, sureF b), (tmpB.data.toList, f')] = some f' from by rw [aget, if_neg hne, aget, if_pos rfl]]
    dsimp only
    unfold adel
    rw [List.filter_cons, if_pos (by simp [hne]), List.filter_cons, if_neg (by simp)]
    rfl
theorem crash_tmp' {room : Int} {b : List Int} {c : List Int} (keep : List Int) : (dRemove (dCrash (dWrite ⟨room, [(nm 1, sureF b)]⟩ tmpB 0 c).2 keep) tmpB).2 = ⟨room, [(nm 1, sureF b)]⟩ := by
  by_cases h : (dWrite ⟨room, [(nm 1, sureF b)]⟩ tmpB 0 c).1 = 0
  · rw [(write_ok h).1]
    dsimp only
    rw [put_tmp]
    exact crash_tmp keep
  · have h2 : (dWrite ⟨room, [(nm 1, sureF b)]⟩ tmpB 0 c).2 = ⟨room, [(nm 1, sureF b)]⟩ := by
      unfold dWrite at h ⊢
      split
      · rfl
      · next h1 =>
        rw [if_neg h1] at h
        unfold dW2 at h ⊢
        split
        · rfl
        · next h3 =>
          rw [if_neg h3] at h
          split
          · rfl
          · next h4 =>
            rw [if_neg h4] at h
            split
            · rfl
            · next h5 => rw [if_neg h5] at h; exact absurd rfl h
    rw [h2, crash_one, rm_one]
theorem used_one {n : Nm} {b : List Int} : usedB [(n, sureF b)] = b.length := by unfold usedB sureF; simp
/-- The first file is laid, and lasts. -/
theorem lay_one {room : Int} {b : List Int} (hb : (b.length : Int) ≤ 262144) (hr : (b.length : Int) ≤ room) : (dWrite ⟨room, []⟩ (nameB 1) 0 b).2 = ⟨room, [(nm 1, freshF b)]⟩ ∧ (dSync ⟨room, [(nm 1, freshF b)]⟩ (nameB 1)).2 = ⟨room, [(nm 1, sureF b)]⟩ := by
  have h1 := write_fresh (D := ⟨room, []⟩) (s := nameB 1) (b := b) (named_name (by omega) (by omega)) rfl (by show 0 < 16; decide) hb (by show ((usedB [] : Nat) : Int) + _ ≤ room; unfold usedB; simp; exact hr)
  refine ⟨by rw [h1]; rfl, ?_⟩
  have h2 := sync_put (room := room) (s := nameB 1) (f := freshF b) (l := []) srt_nil
  exact congrArg Prod.snd h2
theorem lay_two {room : Int} {b c : List Int} (hc : (c.length : Int) ≤ 262144) (hr : (b.length : Int) + c.length ≤ room) : (dWrite ⟨room, [(nm 1, sureF b)]⟩ (nameB 2) 0 c).2 = ⟨room, [(nm 1, sureF b), (nm 2, freshF c)]⟩ ∧ (dSync ⟨room, [(nm 1, sureF b), (nm 2, freshF c)]⟩ (nameB 2)).2 = ⟨room, [(nm 1, sureF b), (nm 2, sureF c)]⟩ := by
  have h1 := write_fresh (D := ⟨room, [(nm 1, sureF b)]⟩) (s := nameB 2) (b := c) (named_name (by omega) (by omega)) (by rw [nm_name]; show aget (nm 2) [(nm 1, sureF b)] = none; rw [aget, if_neg nm2_not1]; rfl) (by show 1 < 16; decide) hc (by show ((usedB [(nm 1, sureF b)] : Nat) : Int) + _ ≤ room; rw [used_one]; exact hr)
  refine ⟨by rw [h1, nm_name]; show (⟨room, aput (nm 2) (freshF c) [(nm 1, sureF b)]⟩ : Dsk) = _; rw [put_two], ?_⟩
  have h2 := sync_put (room := room) (s := nameB 2) (f := freshF c) (l := [(nm 1, sureF b)]) (List.pairwise_singleton _ _)
  rw [nm_name, put_two, put_two] at h2
  exact congrArg Prod.snd h2
theorem drop_two {room : Int} {b c : List Int} : dropL 2 [1, 2] ⟨room, [(nm 1, sureF b), (nm 2, sureF c)]⟩ = ⟨room, [(nm 2, sureF c)]⟩ := by
  have h0 : dropL 2 [1, 2] ⟨room, [(nm 1, sureF b), (nm 2, sureF c)]⟩ = (dRemove ⟨room, [(nm 1, sureF b), (nm 2, sureF c)]⟩ (nameB 1)).2 := rfl
  rw [h0]
  unfold dRemove
  rw [nm_name]
  dsimp only
  rw [show aget (nm 1) [(nm 1, sureF b), (nm 2, sureF c)] = some (sureF b) from by rw [aget, if_pos rfl]]
  dsimp only
  unfold adel
  rw [List.filter_cons, if_neg (by simp), List.filter_cons, if_pos (by simp [nm2_not1.symm])]
  rfl
theorem rm_two {room : Int} {b c : List Int} : (dRemove ⟨room, [(nm 1, sureF b), (nm 2, sureF c)]⟩ tmpB).2 = ⟨room, [(nm 1, sureF b), (nm 2, sureF c)]⟩ := by
  have hg : aget tmpB.data.toList [(nm 1, sureF b), (nm 2, sureF c)] = none := by rw [aget, if_neg (nm_tmp (by omega) (by omega)), aget, if_neg (nm_tmp (by omega) (by omega))]; rfl
  unfold dRemove
  dsimp only
  rw [hg]
/-- What Open takes, whatever it takes away first. -/
theorem lg_open3 {W0 W : World} {S : Nat → Prop} {g N : Nat} {D D2 D3 : Dsk} {ks : List Int} {n : Int} {recs : List Rc} {t : List Int} {s : WS} (h : Dk W0 W S g N D) (hN : N ≤ 800000) (h2 : (dRemove D tmpB).2 = D2) (hks : namesB D2.files = ks.map nameB) (hk : ∀ k ∈ ks, 1 ≤ k ∧ k ≤ 1000000000) (hkl : ks.length ≤ 1000) (hne : ks ≠ []) (hm : maxL ks = n) (hd : dropL n ks D2 = D3) (ho : OpenOk D3 n recs t s) (hn : n ≤ N + 1) :
    Calls Try.prog 26 #[.pointer (some ⟨g, 0, none⟩)] W fun e w' => ∃ S' Q' L D' M, e = .returned (.tuple #[.pointer (some ⟨L, 0, none⟩), .int .i64 0]) ∧ LG W0 w' S' Q' g (N + 2) L D' M recs recs.length ∧ M.n = n ∧ M.st = s ∧ D'.files.length = 1 ∧ Bys W S w' S' L ∧ W.heap.size ≤ L ∧ ∀ k, Q' k → W.heap.size ≤ k := by
  have hp := ho.pre
  have hli := ho.li
  have hrm : (dRemove D3 tmpB).2 = D3 := by
    obtain ⟨f, hf, _⟩ := ho.file
    exact (rm_tmp hf ho.n.1 (by have := ho.n.2; omega)).1
  have hrd : (dRead D3 (nameB n)).1 = recsB recs ++ t := by
    obtain ⟨f, hf, hf0⟩ := ho.file
    unfold dRead
    rw [nm_name, hf, aget, if_pos rfl]
    exact hf0
  refine (open_old (ks := ks) h hN (by rw [h2]; exact hks) hk hkl hne (by rw [hm, h2, hd]; exact hrd) ho.ok ho.run ho.head ho.torn).mono ?_
  rintro e w' ⟨S', Q', rfl, hw, hB, hq⟩
  rw [hm, h2, hd] at hw
  refine ⟨S', Q', _, _, _, rfl, ⟨hw, hli, by dsimp only; omega⟩, rfl, rfl, ?_, hB, Nat.le_refl _, hq⟩
  obtain ⟨f, hf, _⟩ := hli.files
  rw [hf]
  rfl
/-- No log is written anew while there is room in its file. -/
theorem append_nth {D : Dsk} {M : LM} {recs : List Rc} {p : Nat} {es : List S48} (h : LI D M recs p) (hb : ∀ x ∈ es, okBytes x.f3 = true) (h1 : 2076 * ((recs.length : Int) + es.length) ≤ 262144) : (lgAppend D M es).2.2.n = M.n := by
  unfold lgAppend
  by_cases he : entsErr es = 0
  · rw [if_neg (by rw [he]; decide)]
    by_cases hf : fitsOk M.st es
    · rw [if_neg (fun hh => hh hf)]
      by_cases h3 : es = []
      · rw [if_pos h3]
      · rw [if_neg h3]
        have hr0 := (recsB_len h.ok).2
        have hr1 := recsB_ents (es := es) (fun x hx => ⟨entsErr_zero he x hx, hb x hx⟩)
        have hp : (lgPut D M (recsB (es.map .ent))).2.2.n = M.n := by
          unfold lgPut
          rw [if_neg (by rw [h.sz]; omega)]
          unfold lgPut1
          dsimp only
          split <;> rfl
        split
        · exact hp
        · exact hp
    · rw [if_pos hf]
  · rw [if_pos he]
theorem compact_n {D : Dsk} {M : LM} {i : Int} (h : (lgCompact D M i).1 = 0) (hi : M.st.bi < i) : (lgCompact D M i).2.2.n = M.n + 1 := by
  unfold lgCompact at h ⊢
  cases ht : M.st.term i with
  | none => rw [ht] at h; exact absurd h (show ¬ (2 : Int) = 0 by decide)
  | some t =>
    rw [ht] at h
    dsimp only at h ⊢
    rw [if_neg (by omega)] at h ⊢
    unfold lgAnew dAnew mAnew at *
    dsimp only at h ⊢
    by_cases hd : (dWrite D tmpB 0 (WS.bytes ⟨i, t, M.st.ht, M.st.hv, M.st.es.drop (i - M.st.bi).toNat⟩)).1 = 0
    · rw [if_pos hd]
    · rw [if_neg hd] at h
      exact absurd h hd
/-- Calls beside a told state. -/
theorem live_own {w : World} {U : Nat} {s : WS} {A : Option Addr} {c : Nat} (hU : OwnC w U s A c) (X : World) (hX : Below w.heap.size w X) : Calls Try.prog 47 #[] X fun e w' => e = .returned (.bool true) ∧ OwnC w' U s A c ∧ Aside0 (Below w.heap.size w w') := by
  refine (wlive_calls X).mono ?_
  rintro e w' ⟨rfl, hb⟩
  have hb' := below_step hX hb
  exact ⟨rfl, hU.below hb', ⟨hb'⟩⟩
theorem state_own {W0 w : World} {S Q : Nat → Prop} {g N L p : Nat} {D : Dsk} {M : LM} {recs : List Rc} {s : WS} {U : Nat} {A : Option Addr} {c : Nat} (hl : LG W0 w S Q g N L D M recs p) (hs : M.st = s) (hU : OwnC w U s A c) (he : k48.C w A s.es.length s.es) (hc : s.es.length ≤ c) (X : World) (hX : Below w.heap.size w X) :
    Calls Try.prog 49 #[.pointer (some ⟨L, 0, none⟩)] X fun e w' => ∃ A2 c2, e = .returned (.agg #[.int .i64 s.bi, .int .i64 s.bt, .int .i64 s.ht, .int .i64 s.hv, .slice A2 s.es.length c2]) ∧ OwnC w' U s A c ∧ Aside0 (k48.C w' A2 s.es.length s.es ∧ s.es.length ≤ c2 ∧ k48.C w' A s.es.length s.es ∧ s.es.length ≤ c ∧ Below w.heap.size w w') := by
  have h1 := lg_state (hl.below hX)
  rw [hs] at h1
  refine h1.mono ?_
  rintro e w' ⟨v, rfl, hn, hb⟩
  obtain ⟨A2, c2, rfl⟩ := Kd.N_slice hn
  have hb' := below_step hX hb
  exact ⟨A2, c2, rfl, hU.below hb', ⟨(Kd.N_reads' hn).2.2, (Kd.N_reads' hn).2.1, Kd.C_below he hb', hc, hb'⟩⟩
theorem names_own {W0 w : World} {S Q : Nat → Prop} {g N L p : Nat} {D : Dsk} {M : LM} {recs : List Rc} {s : WS} {U : Nat} {A : Option Addr} {c : Nat} (hl : LG W0 w S Q g N L D M recs p) (h1 : D.files.length = 1) (hU : OwnC w U s A c) (X : World) (hX : Below w.heap.size w X) :
    Calls Try.prog 25 #[.pointer (some ⟨g, 0, none⟩)] X fun e w' => ∃ A2 c2, e = .returned (.slice A2 1 c2) ∧ OwnC w' U s A c ∧ Aside0 (Below w.heap.size w w') := by
  refine (dk_names (hl.wl.dk.step hX)).mono ?_
  rintro e w' ⟨A2, c2, rfl, _, hb⟩
  have hn : (namesB D.files).length = 1 := by unfold namesB; rw [List.length_map, h1]
  rw [hn]
  exact ⟨A2, c2, rfl, hU.below (below_step hX hb), ⟨below_step hX hb⟩⟩
theorem same_self {s : WS} (hb : s.es.length ≤ 1000000000) (W : World) (A1 A2 : Option Addr) (c1 c2 : Nat) (h1 : k48.C W A1 s.es.length s.es) (l1 : s.es.length ≤ c1) (h2 : k48.C W A2 s.es.length s.es) (l2 : s.es.length ≤ c2) :
    Calls Try.prog 52 #[.agg #[.int .i64 s.bi, .int .i64 s.bt, .int .i64 s.ht, .int .i64 s.hv, .slice A1 s.es.length c1], .agg #[.int .i64 s.bi, .int .i64 s.bt, .int .i64 s.ht, .int .i64 s.hv, .slice A2 s.es.length c2]] W fun e w' => e = .returned (.bool true) ∧ Below W.heap.size W w' := by
  obtain ⟨r, hr, hc⟩ := sameState_all (s1 := s) (s2 := s) hb
  have h := hc W A1 A2 c1 c2 h1 l1 h2 l2
  rw [hr rfl] at h
  exact h
theorem openOk_sure {room : Int} {n : Int} {recs : List Rc} {b : List Int} {s : WS} {D : Dsk} {M : LM} {p : Nat} (h : LI D M recs p) (hs : M.st = s) (hb : recsB recs = b) (hn : 1 ≤ n ∧ n ≤ 1000000000) : OpenOk ⟨room, [(nm n, sureF b)]⟩ n recs [] s :=
  ⟨⟨sureF b, rfl, by rw [← hb, List.append_nil]; rfl⟩, torn_nil, h.ok, by rw [← hs]; exact h.run, h.head, hn⟩
end Go.Proofs.Ytmmiipnmimjojaa.PS
end
section
namespace Go.Proofs.Ytmmiipnmimjojaa.OpenK
open Go.RowKit Go.Deep Go.ChangeShapes Go.WideShapes Go.Proofs.YtmmiipnmimjojaaW.PrintWords

/-- Whatever can be read at this type, and is no larger than the form lets in, is told by this kind. 'small': with the datum's bulk, what its lengths are at most. -/
structure Opens {α : Type} (P : Program) (t : TypeId) (d : Kd α) (good : α → Prop) (small : Nat → α → Prop) : Prop where
  mono : ∀ (B B' : Nat) (a : α), B ≤ B' → small B a → small B' a
  open_ : ∀ {H : Type} {enc : TypeId × Value → H} {w : World} {base : Nat} {spare : Nat → Bool} {held : Bool} {n : Nat} {cs : List Value} {x : DataW H × List MemPlace},
    DataW.trod enc P w base spare held n t cs = some x → (∀ m ∈ x.1.weights P t, m ≤ reachBytes) → ∃ a, d.K w a cs ∧ good a ∧ small (Rows.uptoBulk x.1) a

theorem one_le {H : Type} (d : DataW H) : 1 ≤ Rows.uptoBulk d := by
  cases d with
  | lit l => cases l <;> simp [Rows.uptoBulk]
  | nil => simp [Rows.uptoBulk]
  | ptr d => simp [Rows.uptoBulk]
  | slice elems spare => simp [Rows.uptoBulk]
  | agg parts => simp [Rows.uptoBulk]
  | iface t d => simp [Rows.uptoBulk]
  | map entries => simp [Rows.uptoBulk]
  | held h => simp [Rows.uptoBulk]
theorem part_le {H : Type} {d : DataW H} {l : List (DataW H)} (h : d ∈ l) : Rows.uptoBulk d ≤ Rows.uptoBulkAll l := by
  induction l with
  | nil => cases h
  | cons x r ih =>
    simp only [Rows.uptoBulkAll]
    rcases List.mem_cons.1 h with rfl | e
    · omega
    · have := ih e; omega
theorem length_le {H : Type} (l : List (DataW H)) : l.length ≤ Rows.uptoBulkAll l := by
  induction l with
  | nil => simp [Rows.uptoBulkAll]
  | cons x r ih => have := one_le x; simp only [Rows.uptoBulkAll, List.length_cons]; omega

theorem opens_int {P : Program} {t : TypeId} {k : IntKind} (ht : P.underlying t = some (.int k)) : Opens P t (Kd.int k) (fun n => (Lit.int k n).wf = true) (fun _ _ => True) where
  mono := fun _ _ _ _ h => h
  open_ := by
    intro H enc w base spare held n cs x h _
    obtain ⟨z, rfl, _, hw⟩ := DataW.trod_int ht h
    exact ⟨z, rfl, hw, trivial⟩
theorem weights_all {H : Type} {P : Program} {e : TypeId} : ∀ {l : List (DataW H)} {d : DataW H}, d ∈ l → ∀ m ∈ d.weights P e, m ∈ DataW.weightsAll P e l
  | [], _, h, _, _ => by cases h
  | d0 :: l, d, h, m, hm => by
    simp only [DataW.weightsAll, List.mem_append]
    rcases List.mem_cons.1 h with rfl | h
    · exact .inl hm
    · exact .inr (weights_all h m hm)
theorem opens_slice {α : Type} {P : Program} {t e : TypeId} {d : Kd α} {g : α → Prop} {s : Nat → α → Prop} {B : Nat} (ht : P.underlying t = some (.slice e)) (hE : Opens P e d g s) (hc : P.cellsOf e = d.sz) (hB : P.bytesOf e = B) :
    Opens P t (Kd.slice e d) (fun xs => xs.length * B ≤ reachBytes ∧ xs.length ≤ maxLen ∧ ∀ x ∈ xs, g x) (fun b xs => xs.length ≤ b ∧ ∀ x ∈ xs, s b x) := by
  refine ⟨fun b b' xs hb h => ⟨Nat.le_trans h.1 hb, fun x hx => hE.mono _ _ _ hb (h.2 x hx)⟩, ?_⟩
  intro H enc w base spare held n cs x h hs
  rcases open_slice ht h with ⟨rfl, rfl⟩ | ⟨a, len, cap, m, n', D, Pl, rfl, hb, hl, hm, hmm, rfl, hi⟩
  · exact ⟨[], ⟨none, 0, rfl, Nat.le_refl _, Kd.C_nil d w⟩, ⟨by simp, by simp, by simp⟩, by simp, by simp⟩
  · have hle : len ≤ m := by rw [hmm]; split <;> omega
    obtain ⟨bk, hbk⟩ : ∃ bk, bk = Rows.uptoBulk (DataW.slice ((List.range len).map D) ((List.range (m - len)).map fun j => D (len + j))) := ⟨_, rfl⟩
    have hblen : len ≤ bk := by
      have := length_le ((List.range len).map D)
      simp only [List.length_map, List.length_range] at this
      rw [hbk]; simp only [Rows.uptoBulk]; omega
    have hel : ∀ i, i < len → ∃ a', ∃ c, w.cells? base (a.add (i * P.cellsOf e)) (P.cellsOf e) = some c ∧ d.K w a' c ∧ g a' ∧ s bk a' := by
      intro i hil
      obtain ⟨c, h1, h2⟩ := hi i (by omega)
      obtain ⟨a', h3, h4, h5⟩ := hE.open_ h2 (fun q hq => hs q (by
        simp only [DataW.weights, ht, List.mem_cons, List.mem_append]
        exact .inr (.inl (weights_all (List.mem_map.2 ⟨i, by simpa using hil, rfl⟩) q hq))))
      refine ⟨a', c, h1, h3, h4, hE.mono _ _ _ ?_ h5⟩
      have := part_le (l := (List.range len).map D) (d := D i) (List.mem_map.2 ⟨i, by simpa using hil, rfl⟩)
      rw [hbk]; simp only [Rows.uptoBulk]; omega
    have hex : ∃ xs : List α, xs.length = len ∧ ∀ (i : Nat) (y : α), xs[i]? = some y → ∃ c, w.cells? base (a.add (i * P.cellsOf e)) (P.cellsOf e) = some c ∧ d.K w y c ∧ g y ∧ s bk y := by
      clear hs hi hmm hm hl hle h hbk hblen
      induction len with
      | zero => exact ⟨[], rfl, fun i y hy => by simp at hy⟩
      | succ k ih =>
        obtain ⟨xs, h1, h2⟩ := ih (fun i hik => hel i (by omega))
        obtain ⟨y, c, h3, h4, h5⟩ := hel k (by omega)
        refine ⟨xs ++ [y], by simp [h1], fun i z hz => ?_⟩
        rcases Nat.lt_or_ge i xs.length with hix | hix
        · rw [List.getElem?_append_left hix] at hz
          exact h2 i z hz
        · rw [List.getElem?_append_right hix] at hz
          have hik : i = k := by
            rcases Nat.lt_or_ge (i - xs.length) 1 with h6 | h6
            · omega
            · rw [List.getElem?_eq_none (by simpa using h6)] at hz; cases hz
          subst hik
          rw [h1, Nat.sub_self] at hz
          simp at hz
          subst hz
          exact ⟨c, h3, h4, h5⟩
    obtain ⟨xs, hxl, hx⟩ := hex
    have hw := hs ((((List.range len).map D).length + ((List.range (m - len)).map fun j => D (len + j)).length) * P.bytesOf e) (by simp [DataW.weights, ht])
    refine ⟨xs, ⟨some a, cap, by rw [hxl], by omega, rfl, by rw [hxl]; exact Nat.le_trans hl (Nat.le_trans hm (by decide)), fun _ => ⟨a, rfl, fun j y hy => ?_⟩⟩, ⟨?_, by omega, fun y hy => ?_⟩, by show xs.length ≤ _; rw [← hbk]; omega, fun y hy => ?_⟩
    · obtain ⟨c, h1, h2, _⟩ := hx j y hy
      obtain ⟨_, hcl, hat⟩ := World.cells?_some h1
      refine ⟨c, by rw [hcl, hc], h2, fun i u hu => ?_⟩
      have hic : i < P.cellsOf e := by rw [← hcl]; exact (List.getElem?_eq_some_iff.1 hu).1
      have := hat i hic
      rw [Go.Deep.add_add, hc] at this
      rw [this, hu]
    · rw [hB] at hw
      simp only [List.length_map, List.length_range] at hw
      exact Nat.le_trans (Nat.mul_le_mul_right B (by omega)) hw
    · obtain ⟨i, hi', rfl⟩ := List.mem_iff_getElem.1 hy
      obtain ⟨_, _, _, h3, _⟩ := hx i _ (List.getElem?_eq_getElem hi')
      exact h3
    · obtain ⟨i, hi', rfl⟩ := List.mem_iff_getElem.1 hy
      obtain ⟨_, _, _, _, h3⟩ := hx i _ (List.getElem?_eq_getElem hi')
      show s (Rows.uptoBulk (DataW.slice _ _)) _
      rw [← hbk]
      exact h3

/-- Fields, one behind the other. -/
inductive Fs (P : Program) : List Field → Nat → {α : Type} → Kd α → (α → Prop) → (Nat → α → Prop) → Prop
  | one {f : Field} {o : Nat} {α : Type} {d : Kd α} {g : α → Prop} {s : Nat → α → Prop} (ho : f.offset = o) (hc : P.cellsOf f.type = d.sz) (h : Opens P f.type d g s) : Fs P [f] o d g s
  | cons {f : Field} {fs : List Field} {o : Nat} {α β : Type} {d : Kd α} {g : α → Prop} {s : Nat → α → Prop} {d' : Kd β} {g' : β → Prop} {s' : Nat → β → Prop} (ho : f.offset = o) (hc : P.cellsOf f.type = d.sz) (h : Opens P f.type d g s)
      (hr : Fs P fs (o + d.sz) d' g' s') : Fs P (f :: fs) o (Kd.pair d d') (fun x => g x.1 ∧ g' x.2) (fun b x => s b x.1 ∧ s' b x.2)
theorem fs_mono {P : Program} {fs : List Field} {o : Nat} {α : Type} {d : Kd α} {g : α → Prop} {s : Nat → α → Prop} (hF : Fs P fs o d g s) : ∀ (B B' : Nat) (a : α), B ≤ B' → s B a → s B' a := by
  induction hF with
  | one ho hc h => exact h.mono
  | cons ho hc h hr ih => exact fun B B' a hb hs => ⟨h.mono _ _ _ hb hs.1, ih _ _ _ hb hs.2⟩
theorem fs_open {P : Program} {fs : List Field} {o : Nat} {α : Type} {d : Kd α} {g : α → Prop} {s : Nat → α → Prop} (hF : Fs P fs o d g s) : ∀ {H : Type} {enc : TypeId × Value → H} {w : World} {base : Nat} {spare : Nat → Bool} {held : Bool} {n : Nat} {cs : List Value} {xs : List (DataW H × List MemPlace)},
    xs.length = fs.length → cs.length = o + d.sz → (∀ (i : Nat) (f : Field), fs[i]? = some f → DataW.trod enc P w base spare held n f.type ((cs.drop f.offset).take (P.cellsOf f.type)) = xs[i]?) →
    (∀ m ∈ DataW.weightsEach P (fs.map (·.type)) (xs.map (·.1)), m ≤ reachBytes) → ∃ a, d.K w a (cs.drop o) ∧ g a ∧ s (Rows.uptoBulkAll (xs.map (·.1))) a := by
  induction hF with
  | one ho hc h =>
    intro H enc w base spare held n cs xs hl hcl ht hs
    match xs, hl with
    | [x], _ =>
      have h1 := ht 0 _ rfl
      rw [ho, hc, List.take_of_length_le (by rw [List.length_drop]; omega)] at h1
      obtain ⟨a, h2, h3, h4⟩ := h.open_ h1 (fun m hm => hs m (by simp only [List.map_cons, List.map_nil, DataW.weightsEach, List.append_nil]; exact hm))
      exact ⟨a, h2, h3, h.mono _ _ _ (by simp only [List.map_cons, List.map_nil, Rows.uptoBulkAll]; omega) h4⟩
  | @cons f fs o α β d g s d' g' s' ho hc h hr ih =>
    intro H enc w base spare held n cs xs hl hcl ht hs
    match xs, hl with
    | x :: xs, hl =>
      have h1 := ht 0 _ rfl
      rw [ho, hc] at h1
      obtain ⟨a, ha, hg, hsm⟩ := h.open_ h1 (fun m hm => hs m (by simp only [List.map_cons, DataW.weightsEach, List.mem_append]; exact .inl hm))
      have hsz : (Kd.pair d d').sz = d.sz + d'.sz := rfl
      obtain ⟨b, hb, hgb, hsb⟩ := ih (cs := cs) (xs := xs) (by simpa using hl) (by rw [hcl, hsz]; omega) (fun i f' hf => ht (i + 1) f' hf) (fun m hm => hs m (by simp only [List.map_cons, DataW.weightsEach, List.mem_append]; exact .inr hm))
      refine ⟨(a, b), ⟨_, _, ?_, ha, hb⟩, ⟨hg, hgb⟩, h.mono _ _ _ ?_ hsm, fs_mono hr _ _ _ ?_ hsb⟩
      · rw [← List.drop_drop, List.take_append_drop]
      · simp only [List.map_cons, Rows.uptoBulkAll]; omega
      · simp only [List.map_cons, Rows.uptoBulkAll]; omega
theorem opens_struct {P : Program} {t : TypeId} {fs : Array Field} {α β : Type} {d : Kd α} {g : α → Prop} {s : Nat → α → Prop} (f : β → α) (fi : α → β) (hf : ∀ x, f (fi x) = x) (ht : P.underlying t = some (.struct fs)) (hc : P.cellsOf t = d.sz) (hF : Fs P fs.toList 0 d g s) :
    Opens P t (Kd.iso d f) (fun x => g (f x)) (fun b x => s b (f x)) := by
  refine ⟨fun B B' a hb h => fs_mono hF _ _ _ hb h, ?_⟩
  intro H enc w base spare held n cs x h hs
  obtain ⟨xs, n', rfl, rfl, hcl, hxl, hfs⟩ := DataW.trod_struct ht h
  obtain ⟨a, ha, hg, hsm⟩ := fs_open hF (cs := cs) (xs := xs) (by simpa using hxl) (by rw [hcl, hc]; omega) (fun i fd hfd => hfs i fd (by simpa using hfd)) (fun m hm => hs m (by simpa [DataW.weights, ht] using hm))
  refine ⟨fi a, ?_, by show g (f (fi a)); rw [hf]; exact hg, ?_⟩
  · show d.K w (f (fi a)) cs
    rw [hf]
    simpa using ha
  · show s _ (f (fi a))
    rw [hf]
    exact fs_mono hF _ _ _ (by simp only [Rows.uptoBulk]; omega) hsm
/-- An argument: its datum's own weights are among the form's. -/
theorem arg_sized {H : Type} {P : Program} {ts : List TypeId} {ds : List (DataW H)} {j : Nat} {t : TypeId} {d : DataW H} (hsz : (DataW.weightsEach P ts ds).all (· ≤ reachBytes) = true) (ht : ts[j]? = some t) (hd : ds[j]? = some d) :
    ∀ m ∈ d.weights P t, m ≤ reachBytes := fun m hm => by
  have := List.all_eq_true.1 hsz m (DataW.weights_mem_each ht hd m hm)
  simpa using this
end Go.Proofs.Ytmmiipnmimjojaa.OpenK
end
