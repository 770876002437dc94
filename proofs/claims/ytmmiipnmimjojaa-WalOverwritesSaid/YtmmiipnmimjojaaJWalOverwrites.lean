/- The law's texts and its row. -/
import Derived.Test.YtmmiipnmimjojaaJ26
import Derived.Test.YtmmiipnmimjojaaRows
import Derived.WalkKit
import Derived.ProofKit
import Derived.OpenShut
import Derived.ShutString
import Derived.ChangeOld
import Derived.Below
import Derived.SizedLaws
section
/- WalOverwrites. -/
namespace Go.Proofs.Ytmmiipnmimjojaa.PS
open Go.RowKit Go.Proofs.YtmmiipnmimjojaaW.PrintWords Go.Proofs.YtmmiipnmimjojaaW.PrintLast Go.Proofs.YtmmiipnmimjojaaW.PrintMore
open Go.Maps Go.Proofs.Ytmmiipnmimjojaa.PD
set_option linter.unusedVariables false
set_option linter.unusedSimpArgs false
theorem info3 : (Try.prog.info? 3).map (fun i => (i.zero, i.size, i.bytes)) = some (some (.int .i64 0), 1, 8) := by kernel_rfl
theorem ov_mem {l : List Int} {i : Int} (h0 : 0 ≤ i) (h1 : i < (l.length : Int)) : l.getD i.toNat 0 ∈ l := by
  rw [List.getD_eq_getElem?_getD, List.getElem?_eq_getElem (by omega)]
  exact List.getElem_mem _
theorem ov_take {l : List Int} {i : Int} (h0 : 0 ≤ i) (h1 : i < (l.length : Int)) {x : Int} (hx : l.getD i.toNat 0 = x) : l.take (i + 1).toNat = l.take i.toNat ++ [x] := by
  rw [show (i + 1).toNat = i.toNat + 1 by omega, List.take_add_one, List.getElem?_eq_getElem (by omega)]
  rw [List.getD_eq_getElem?_getD, List.getElem?_eq_getElem (by omega)] at hx
  rw [← hx]; rfl
theorem ovA_terms {E : List S48} {us xs : List Int} {k : Nat} (hE : E.map (fun x => x.f1) = xs) : (ovA E us k).map (fun x => x.f1) = if us = [] then xs else xs.take k ++ us.map (· + 1) := by
  unfold ovA
  by_cases h : us = []
  · rw [if_pos h, if_pos h, hE]
  · rw [if_neg h, if_neg h, List.map_append, List.map_take, hE, ovE_terms]
theorem ov_term {E : List S48} {ys : List Int} {j : Nat} (hy : E.map (fun x => x.f1) = ys) (hj : j < ys.length) : (⟨0, 0, 0, 0, E⟩ : WS).term ((j : Int) + 1) = some (ys.getD j 0) := by
  have hl : ys.length = E.length := by rw [← hy, List.length_map]
  unfold WS.term WS.last
  dsimp only
  rw [if_neg (by omega), if_neg (by omega), show ((j : Int) + 1 - 0 - 1).toNat = j by omega, ← List.getElem?_map, hy, List.getD_eq_getElem?_getD, List.getElem?_eq_getElem hj]
  rfl
theorem ov_term_none {E : List S48} : (⟨0, 0, 0, 0, E⟩ : WS).term ((E.length : Int) + 1) = none := by
  unfold WS.term WS.last
  dsimp only
  rw [if_pos (by omega)]
theorem ov_from {E : List S48} : (⟨0, 0, 0, 0, E⟩ : WS).from_ 1 (E.length : Int) = E := by
  unfold WS.from_ WS.last
  dsimp only
  rw [show min (E.length : Int) (0 + (E.length : Int)) = (E.length : Int) by omega, show max (1 : Int) (0 + 1) = 1 by omega]
  by_cases h : (E.length : Int) < 1
  · rw [if_pos h]; exact (List.eq_nil_of_length_eq_zero (by omega)).symm
  · rw [if_neg h, show ((E.length : Int) - 0).toNat = E.length by omega, List.take_length, show ((1 : Int) - 0 - 1).toNat = 0 by omega, List.drop_zero]
theorem ovE_at {us : List Int} {k j : Nat} (hj : j < us.length) : (rd_T48 (ovE us k) (j : Int)).f1 = us.getD j 0 + 1 := by
  have h1 := ovE_terms us k
  have hl := ovE_len us k
  have h2 : ((ovE us k).map (fun x => x.f1))[j]? = (us.map (· + 1))[j]? := by rw [h1]
  rw [List.getElem?_map, List.getElem?_map, List.getElem?_eq_getElem hj, List.getElem?_eq_getElem (by omega)] at h2
  unfold rd_T48
  rw [Int.toNat_natCast, List.getD_eq_getElem?_getD, List.getD_eq_getElem?_getD, List.getElem?_eq_getElem hj, List.getElem?_eq_getElem (by omega)]
  exact Option.some.inj h2
set_option maxHeartbeats 8000000 in
set_option maxRecDepth 100000 in
theorem walOverwrites_calls {W : World} {A B : Option Addr} {ca cb : Nat} {a b : List Int} {t : Int} (hA : k8.C W A a.length a) (hca : a.length ≤ ca) (hB : k8.C W B b.length b) (hcb : b.length ≤ cb) (ha : ∀ z ∈ a, 0 ≤ z ∧ z ≤ 255) (hb : ∀ z ∈ b, 0 ≤ z ∧ z ≤ 255) (ht : 0 ≤ t ∧ t ≤ 255) (hal : a.length ≤ 140737488355328) (hbl : b.length ≤ 140737488355328) :
    Calls Try.prog 13 #[.slice A a.length ca, .slice B b.length cb, .int .u8 t] W fun e w' => e = .returned (.bool true) ∧ Below W.heap.size W w' := by
  have HA := Aside0.mk hA
  have HB := Aside0.mk hB
  have HAV := Aside0.mk ha
  have HBV := Aside0.mk hb
  clear hA hB ha hb
  go_enter Try.func13, Try.ntmps13
  go_wp2_with fail
  refine (dk_new 262144 (by decide) W).mono ?_
  rintro e w1 ⟨g, S1, rfl, hd1⟩
  have hd1' : Dk W w1 S1 g 0 ⟨262144, []⟩ := hd1
  have HD1 := Aside0.mk hd1'
  clear hd1 hd1'
  go_wp2_with fail
  refine (lg_begin HD1.out (by decide)).mono ?_
  rintro e w2 ⟨S2, Q2, L, D2, M2, rfl, hl2, hn2, hs2, hr2, hB2, hL2, hq2⟩
  have HI2 := Aside0.mk (show OvI W w2 S2 Q2 g 2 L D2 M2 WS.zero.recs 2 (ovE (a.take 0) 0) 0 from ⟨hl2, hs2, hr2, Nat.le_refl _, Nat.le_refl _, by decide⟩)
  clear hl2 hn2 hs2 hr2 hB2 hL2 hq2
  go_upto_block 0 with (fail)
  go_cut [10, 11] (fun v10 v11 w' => ∃ (n : Nat) (v : Value) (v' : Value), v10 = v ∧ v11 = v' ∧ n ≤ 40 ∧ n ≤ a.length ∧ Aside0 (∃ S Q N D M recs p, OvI W w' S Q g N L D M recs p (ovE (a.take n) 0) n ∧ (N : Int) ≤ 2 + 2 * n ∧ (Kd.int .i64).R 3 w' W.heap.size (okQ S Q L) v ((a.take n).map (· + 1))))
  case first =>
    go_wp2_with fail
    go_loopg [10, 11] 40 (fun kq v10 v11 w' => ∃ (i : Int) (v : Value), v11 = .int .i64 i ∧ v10 = v ∧ 0 ≤ i ∧ i + kq = 40 ∧ i ≤ a.length ∧ Aside0 (∃ S Q N D M recs p, OvI W w' S Q g N L D M recs p (ovE (a.take i.toNat) 0) i.toNat ∧ (N : Int) ≤ 2 + 2 * i ∧ (Kd.int .i64).R 3 w' W.heap.size (okQ S Q L) v ((a.take i.toNat).map (· + 1))))
    case atStart => exact ⟨0, _, rfl, rfl, by omega, by omega, by omega, ⟨_, _, _, _, _, _, _, HI2.out, by omega, Kd.R_nil _ _ _ _ _⟩⟩
    case round =>
      obtain ⟨i, v, rfl, rfl, i0, i1, i2, HREL⟩ := hrel
      obtain ⟨n, rfl⟩ : ∃ n : Nat, i = n := ⟨i.toNat, by omega⟩
      obtain ⟨S, Q, N, D, M, recs, p, hi, hN, hR⟩ := HREL.out
      rw [Int.toNat_natCast] at hi hR
      have HI := Aside0.mk hi
      have HR := Aside0.mk hR
      clear hi hR HREL HI2
      by_cases h1 : (n : Int) < (a.length : Int)
      · by_cases h2 : (n : Int) < 40
        · have c6 : decide ((n : Int) < (a.length : Int)) = true := decide_eq_true h1
          have c7 : decide ((n : Int) < 40) = true := decide_eq_true h2
          have p0 := eq_true i0
          have p1 := eq_true h1
          have hni : IntKind.i64.wrap ((n : Int) + 1) = (n : Int) + 1 := IntWalk.i64_in _ ⟨by omega, by omega⟩
          have hC := Kd.C_below HA.out HI.out.lg.wl.dk.1
          have hne : a ≠ [] := fun e => by subst e; simp at h1; omega
          obtain ⟨aa, rfl⟩ := C_some hC hne
          obtain ⟨x, hx⟩ : ∃ x, a.getD (n : Int).toNat 0 = x := ⟨_, rfl⟩
          have hcell := cellI hC i0 h1 hx
          rw [Int.toNat_natCast] at hcell
          have hxb : 0 ≤ x ∧ x ≤ 255 := by rw [← hx]; exact HAV.out _ (ov_mem i0 h1)
          have hw1 : IntKind.i64.wrap x = x := IntWalk.i64_in _ ⟨by omega, by omega⟩
          have hw2 : IntKind.i64.wrap (x + 1) = x + 1 := IntWalk.i64_in _ ⟨by omega, by omega⟩
          have HX := Aside0.mk hx
          have HNX := Aside0.mk (ov_next (a := a) (n := n) (x := x) (by omega) (by rw [← hx, Int.toNat_natCast]))
          have HLN := Aside0.mk (show (ovE (a.take n) 0).length = n by rw [ovE_len, List.length_take]; omega)
          clear hC hne hx
          obtain ⟨xs, hxs⟩ : ∃ xs, (a.take n).map (· + 1) = xs := ⟨_, rfl⟩
          have hxl : xs.length ≤ 40 := by rw [← hxs, List.length_map, List.length_take]; omega
          rw [hxs] at HR
          have HXS := Aside0.mk hxs
          clear hxs
          go_wp2_with ((with_reducible refine gate_dst (N := 47) rfl ?_); refine Kd.R_append (Kd.int .i64) (w0 := W) W.heap.size rfl (.tmp 39) (.tmp 46) 32 3 (.int .i64 0) 8 rfl Try.underlying32 info3 rfl (by decide) (by omega) _ xs (x + 1) [.int .i64 (x + 1)] (okQ S Q L) (fun _ => False) rfl rfl ?aP (fun _ hk => hk.elim) (okQ_new HI.out.lg.wl) HR.out HI.out.lg.wl.dk.1 HI.out.lg.wl.dk.1.size ?aL ?_; (case aP => exact rfl); (case aL => omega); intro v5 w5 hR hb5 hg hat; have HR5 := Aside0.mk hR; have HI5 := Aside0.mk (HI.out.grown hg hb5 (fun k hk _ => HR.out.1 k hk)); replace hcell := cellI (Kd.C_below HA.out hb5) i0 h1 HX.out; rw [Int.toNat_natCast] at hcell; clear hR hb5 hg hat)
          have hba := below_alloc (Below.refl w5.heap.size w5) (.cells #[.int .i64 1, .int .i64 (x + 1), .int .i64 ((n : Int) + 1), .slice none 0 0] 48)
          have HI6 := Aside0.mk (HI5.out.below hba)
          have HR6 := Aside0.mk (Kd.R_below HR5.out hba)
          have HBL := Aside0.mk (blk_new w5 (.cells #[.int .i64 1, .int .i64 (x + 1), .int .i64 ((n : Int) + 1), .slice none 0 0] 48))
          have HOB := Aside0.mk (okQ_new HI5.out.lg.wl _ (Nat.le_refl w5.heap.size))
          clear hba hcell
          refine (ov_append1 HI6.out HLN.out hxb (by omega) (by omega) HBL.out HOB.out).mono ?_
          rintro e w7 ⟨rfl, S', Q', D', M', recs', p', hi7, hB7, hq7⟩
          rw [HNX.out] at hi7
          have HI7 := Aside0.mk hi7
          have HR7 := Aside0.mk (R_bysQ hB7 hq7 HR6.out)
          clear hi7 hB7 hq7
          go_wp2_with fail
          go_roundg (gk - 1)
          case measure => omega
          case rel => exact ⟨(n : Int) + 1, v5, rfl, rfl, by omega, by omega, by omega, ⟨S', Q', N + 2, D', M', recs', p', HI7.out, by omega, by have h := HR7.out; rw [← HXS.out] at h; rw [ov_take i0 h1 HX.out, Int.toNat_natCast, List.map_append]; exact h⟩⟩
        · have c6 : decide ((n : Int) < (a.length : Int)) = true := decide_eq_true h1
          have c7 : decide ((n : Int) < 40) = false := decide_eq_false h2
          have hn40 : n ≤ 40 := by omega
          have hna : n ≤ a.length := by omega
          go_wp2_with fail
          go_meet
          case rel => exact ⟨n, _, _, rfl, rfl, hn40, hna, ⟨S, Q, N, D, M, recs, p, HI.out, by omega, HR.out⟩⟩
      · have c6 : decide ((n : Int) < (a.length : Int)) = false := decide_eq_false h1
        have hn40 : n ≤ 40 := by omega
        have hna : n ≤ a.length := by omega
        go_wp2_with fail
        go_meet
        case rel => exact ⟨n, _, _, rfl, rfl, hn40, hna, ⟨S, Q, N, D, M, recs, p, HI.out, by omega, HR.out⟩⟩
  case rest =>
    obtain ⟨n, v, v', rfl, rfl, hn40, hna, HREL⟩ := hcut
    obtain ⟨S, Q, N, D, M, recs, p, hi, hN, hR⟩ := HREL.out
    have HI := Aside0.mk hi
    have HR := Aside0.mk hR
    clear hi hR HREL HI2
    obtain ⟨Aw, cw, rfl⟩ := Kd.R_slice HR.out
    obtain ⟨xs, hxs⟩ : ∃ xs, (a.take n).map (· + 1) = xs := ⟨_, rfl⟩
    have hxl : xs.length = n := by rw [← hxs, List.length_map, List.length_take]; omega
    rw [hxs, hxl] at HR
    rw [hxs, hxl]
    have HXS := Aside0.mk hxs
    have HXL := Aside0.mk hxl
    obtain ⟨E, hE⟩ : ∃ E, ovE (a.take n) 0 = E := ⟨_, rfl⟩
    have hEl : E.length = n := by rw [← hE, ovE_len, List.length_take]; omega
    rw [hE] at HI
    have HE := Aside0.mk hE
    have HEL := Aside0.mk hEl
    clear hxs hxl hE hEl
    obtain ⟨wo, rfl⟩ : ∃ wo : World, wo = wc := ⟨_, rfl⟩
    obtain ⟨k, hk⟩ : ∃ k : Nat, t % ((n : Int) + 1) = k := ⟨(t % ((n : Int) + 1)).toNat, by have := Int.emod_nonneg t (show (n : Int) + 1 ≠ 0 by omega); omega⟩
    have hkn : k ≤ n := by have := Int.emod_lt_of_pos t (show (0 : Int) < (n : Int) + 1 by omega); omega
    have HK := Aside0.mk hk
    clear hk
    go_upto_region 12 with (fail)
    go_cut [12] (fun v12 w' => v12 = .int .i64 k ∧ wo = w')
    case first =>
      go_wp2_with fail
      all_goals (go_meet; exact ⟨congrArg (Value.int .i64) HK.out, rfl⟩)
    case rest =>
      obtain ⟨rfl, rfl⟩ := hcut
      go_upto_block 2 with (fail)
      go_cut [13, 14] (fun v13 v14 w' => ∃ (m : Nat) (v : Value) (v' : Value), v13 = v ∧ v14 = v' ∧ m ≤ 40 ∧ m ≤ b.length ∧ Aside0 (Below wo.heap.size wo w') ∧ Aside0 (k48.R 48 w' wo.heap.size (fun _ => True) v (ovE (b.take m) k)))
      case first =>
        go_wp2_with fail
        go_loopg [13, 14] 40 (fun kq v13 v14 w' => ∃ (j : Int) (v : Value), v14 = .int .i64 j ∧ v13 = v ∧ 0 ≤ j ∧ j + kq = 40 ∧ j ≤ b.length ∧ Aside0 (Below wo.heap.size wo w') ∧ Aside0 (k48.R 48 w' wo.heap.size (fun _ => True) v (ovE (b.take j.toNat) k)))
        case atStart => exact ⟨0, _, rfl, rfl, by omega, by omega, by omega, ⟨Below.refl _ _⟩, ⟨Kd.R_nil _ _ _ _ _⟩⟩
        case round =>
          obtain ⟨j, v, rfl, rfl, j0, j1, j2, HBo, HRl⟩ := hrel
          obtain ⟨m, rfl⟩ : ∃ m : Nat, j = m := ⟨j.toNat, by omega⟩
          rw [Int.toNat_natCast] at HRl
          by_cases h1 : (m : Int) < (b.length : Int)
          · by_cases h2 : (m : Int) < 40
            · have c8 : decide ((m : Int) < (b.length : Int)) = true := decide_eq_true h1
              have c9 : decide ((m : Int) < 40) = true := decide_eq_true h2
              have p2 := eq_true j0
              have p3 := eq_true h1
              have hni : IntKind.i64.wrap ((m : Int) + 1) = (m : Int) + 1 := IntWalk.i64_in _ ⟨by omega, by omega⟩
              have hnk : IntKind.i64.wrap ((k : Int) + (m : Int)) = (k : Int) + (m : Int) := IntWalk.i64_in _ ⟨by omega, by omega⟩
              have hnk1 : IntKind.i64.wrap ((k : Int) + (m : Int) + 1) = (k : Int) + (m : Int) + 1 := IntWalk.i64_in _ ⟨by omega, by omega⟩
              have hC := Kd.C_below HB.out (below_step HI.out.lg.wl.dk.1 HBo.out)
              have hne : b ≠ [] := fun e => by subst e; simp at h1; omega
              obtain ⟨bb, rfl⟩ := C_some hC hne
              obtain ⟨x, hx⟩ : ∃ x, b.getD (m : Int).toNat 0 = x := ⟨_, rfl⟩
              have hcell := cellI hC j0 h1 hx
              rw [Int.toNat_natCast] at hcell
              have hxb : 0 ≤ x ∧ x ≤ 255 := by rw [← hx]; exact HBV.out _ (ov_mem j0 h1)
              have hw1 : IntKind.i64.wrap x = x := IntWalk.i64_in _ ⟨by omega, by omega⟩
              have hw2 : IntKind.i64.wrap (x + 1) = x + 1 := IntWalk.i64_in _ ⟨by omega, by omega⟩
              have HX := Aside0.mk hx
              clear hC hne hx
              obtain ⟨es, hes⟩ : ∃ es, ovE (b.take m) k = es := ⟨_, rfl⟩
              have hel : es.length ≤ 40 := by rw [← hes, ovE_len, List.length_take]; omega
              rw [hes] at HRl
              have HES := Aside0.mk hes
              clear hes
              go_wp2_with ((with_reducible refine gate_dst (N := 90) rfl ?_); refine Kd.R_append k48 (w0 := wo) wo.heap.size rfl (.tmp 77) (.tmp 89) 51 48 _ 48 rfl Try.underlying51 info48 rfl (by decide) (by omega) _ es ⟨1, x + 1, (k : Int) + (m : Int) + 1, []⟩ [.int .i64 1, .int .i64 (x + 1), .int .i64 ((k : Int) + (m : Int) + 1), .slice none 0 0] (fun _ => True) (fun _ => False) rfl rfl ?aP (fun _ hk => hk.elim) (fun _ _ => trivial) HRl.out HBo.out HBo.out.size ?aL ?_; (case aP => exact k48_mkM _ _ _ ⟨1, x + 1, (k : Int) + (m : Int) + 1, []⟩ (Kd.R_nil _ _ _ _ _)); (case aL => omega); intro v5 w5 hR hb5 hg hat; have HR5 := Aside0.mk hR; have HB5 := Aside0.mk hb5; clear hR hb5 hg hat)
              go_roundg (gk - 1)
              case measure => omega
              case rel => exact ⟨(m : Int) + 1, v5, rfl, rfl, by omega, by omega, by omega, HB5, ⟨by have h := HR5.out; rw [← HES.out] at h; rw [ov_take j0 h1 HX.out, Int.toNat_natCast, ovE_snoc, List.length_take, Nat.min_eq_left (by omega)]; rw [show (((k + m : Nat) : Int) + 1) = (k : Int) + (m : Int) + 1 by omega]; exact h⟩⟩
            · have c8 : decide ((m : Int) < (b.length : Int)) = true := decide_eq_true h1
              have c9 : decide ((m : Int) < 40) = false := decide_eq_false h2
              go_wp2_with fail
              go_meet
              case rel => exact ⟨m, _, _, rfl, rfl, by omega, by omega, HBo, HRl⟩
          · have c8 : decide ((m : Int) < (b.length : Int)) = false := decide_eq_false h1
            go_wp2_with fail
            go_meet
            case rel => exact ⟨m, _, _, rfl, rfl, by omega, by omega, HBo, HRl⟩
      case rest =>
        obtain ⟨m, vl, v', rfl, rfl, hm40, hmb, HBo, HRl⟩ := hcut
        obtain ⟨Al, cl, rfl⟩ := Kd.R_slice HRl.out
        obtain ⟨us, hus⟩ : ∃ us, b.take m = us := ⟨_, rfl⟩
        have hul : us.length = m := by rw [← hus, List.length_take]; omega
        have HUS := Aside0.mk (show ∀ z ∈ us, 0 ≤ z ∧ z ≤ 255 from fun z hz => HBV.out z (List.mem_of_mem_take (hus ▸ hz)))
        rw [hus] at HRl
        rw [hus, ovE_len, hul]
        rw [ovE_len, hul] at HRl
        obtain ⟨es, hes⟩ : ∃ es, ovE us k = es := ⟨_, rfl⟩
        have hel : es.length = m := by rw [← hes, ovE_len, hul]
        rw [hes] at HRl
        obtain ⟨ys, hys⟩ : ∃ ys, (ovA E us k).map (fun x => x.f1) = ys := ⟨_, rfl⟩
        have HUL := Aside0.mk hul
        have HES := Aside0.mk hes
        have HEE := Aside0.mk hel
        have HYS := Aside0.mk hys
        clear hus hul hes hel hys
        obtain ⟨wp, rfl⟩ : ∃ wp : World, wp = wc := ⟨_, rfl⟩
        have HI3 := Aside0.mk (HI.out.below HBo.out)
        have HR3 := Aside0.mk (Kd.R_below (Kd.R_mono (Kd.R_bound HR.out) (ok' := fun k => okQ S Q L k ∧ (k < wo.heap.size ∨ wp.heap.size ≤ k)) (fun k hk => ⟨hk.1, .inl hk.2.2.1⟩)) HBo.out)
        have HF3 := Aside0.mk (Kd.F_mono (Kd.R_F (Kd.R_bound HRl.out)) (ok' := fun k => wo.heap.size ≤ k ∧ k < wp.heap.size) (fun k hk => ⟨hk.2.1, hk.2.2.1⟩))
        have hcl : m ≤ cl := (Kd.R_reads' HRl.out).2.1
        have hcw : n ≤ cw := (Kd.R_reads' HR.out).2.1
        go_upto_if 93 with (fail)
        go_cut [10] (fun v10 w' => ∃ v, v10 = v ∧ Aside0 (OvI W w' S Q g N L D M recs p E n) ∧ Aside0 ((Kd.int .i64).R 3 w' W.heap.size (okQ S Q L) v ys) ∧ Aside0 (Kd.F k48 w' (fun k => wo.heap.size ≤ k ∧ k < wp.heap.size) Al m es))
        case first =>
          by_cases hm : m = 0
          · have c9 : decide ((m : Int) > 0) = false := by rw [hm]; rfl
            go_wp2_with fail
            go_meet
            case rel =>
              have hu : us = [] := List.eq_nil_of_length_eq_zero (by have := HUL.out; omega)
              have hE' : E.map (fun x => x.f1) = xs := by rw [← HE.out, ovE_terms, HXS.out]
              exact ⟨_, rfl, HI3, ⟨by rw [← HYS.out, ovA_terms hE', if_pos hu]; exact Kd.R_mono HR3.out (fun k hk => hk.1)⟩, HF3⟩
          · have c9 : decide ((m : Int) > 0) = true := decide_eq_true (by omega)
            have c9b : decide (0 < m) = true := decide_eq_true (by omega)
            simp only [c9b]
            go_wp2_with fail
            go_loopg [10, 15] m (fun kq v10 v15 w' => ∃ (j : Nat) (v : Value), v15 = .int .i64 (j : Int) ∧ v10 = v ∧ j + kq = m ∧ wp.heap.size ≤ w'.heap.size ∧ Aside0 (OvI W w' S Q g N L D M recs p E n) ∧ Aside0 ((Kd.int .i64).R 3 w' W.heap.size (fun k => okQ S Q L k ∧ (k < wo.heap.size ∨ wp.heap.size ≤ k)) v (xs.take k ++ (us.take j).map (· + 1))) ∧ Aside0 (Kd.F k48 w' (fun k => wo.heap.size ≤ k ∧ k < wp.heap.size) Al m es))
            case atStart => exact ⟨0, _, rfl, rfl, by omega, Nat.le_refl _, HI3, ⟨by rw [List.take_zero, List.map_nil, List.append_nil]; exact Kd.R_take HR3.out (by have := HXL.out; omega)⟩, HF3⟩
            case round =>
              obtain ⟨j, v, rfl, rfl, j1, j2, HIj, HRj, HFj⟩ := hrel
              by_cases hj : (j : Int) < (m : Int)
              · have c10 : decide ((j : Int) < (m : Int)) = true := decide_eq_true hj
                obtain ⟨ad, A3, c3, hAl, y0, y1, y2, y3, _, _⟩ := at_T48 (Kd.F_now HFj.out) (j : Int) (by omega) hj
                subst hAl
                obtain ⟨x, hx⟩ : ∃ x, us.getD j 0 = x := ⟨_, rfl⟩
                rw [← HES.out, ovE_at (by have := HUL.out; omega), hx] at y1
                have p4 := eq_true (show (0 : Int) ≤ (j : Int) by omega)
                have p5 := eq_true hj
                have hnj : IntKind.i64.wrap ((j : Int) + 1) = ((j + 1 : Nat) : Int) := IntWalk.i64_in _ ⟨by omega, by omega⟩
                have HX := Aside0.mk hx
                clear y0 y2 y3 hx
                rw [Int.toNat_natCast] at y1
                obtain ⟨zs, hzs⟩ : ∃ zs, xs.take k ++ (us.take j).map (· + 1) = zs := ⟨_, rfl⟩
                have hzl : zs.length ≤ 80 := by rw [← hzs, List.length_append, List.length_map, List.length_take, List.length_take]; have := HXL.out; omega
                rw [hzs] at HRj
                have HZS := Aside0.mk hzs
                clear hzs
                go_wp2_with ((with_reducible refine gate_dst (N := 110) rfl ?_); refine Kd.R_append (Kd.int .i64) (w0 := W) W.heap.size rfl (.tmp 103) (.tmp 109) 32 3 (.int .i64 0) 8 rfl Try.underlying32 info3 rfl (by decide) (by omega) _ zs (x + 1) [.int .i64 (x + 1)] (fun k => okQ S Q L k ∧ (k < wo.heap.size ∨ wp.heap.size ≤ k)) (fun _ => False) rfl rfl ?aP (fun _ hk => hk.elim) (fun k hk => ⟨okQ_new HIj.out.lg.wl k hk, .inr (Nat.le_trans j2 hk)⟩) HRj.out HIj.out.lg.wl.dk.1 HIj.out.lg.wl.dk.1.size ?aL ?_; (case aP => exact rfl); (case aL => omega); intro v5 w5 hR hb5 hg hat; have HR5 := Aside0.mk hR; have HI5 := Aside0.mk (HIj.out.grown hg hb5 (fun k hk _ => (HRj.out.1 k hk).1)); have HF5 := Aside0.mk (Kd.F_grown HFj.out hg (fun k hk e => by have := (HRj.out.1 k e.symm).2; omega)); have hsz5 := Nat.le_trans j2 hg.size; clear hR hb5 hg hat)
                go_roundg (gk - 1)
                case measure => omega
                case rel => exact ⟨j + 1, v5, rfl, rfl, by omega, hsz5, HI5, ⟨by have h := HR5.out; rw [← HZS.out] at h; have ht := ov_take (l := us) (i := (j : Int)) (x := x) (by omega) (by have := HUL.out; omega) (by rw [Int.toNat_natCast]; exact HX.out); rw [Int.toNat_natCast, show ((j : Int) + 1).toNat = j + 1 by omega] at ht; rw [ht, List.map_append, ← List.append_assoc]; exact h⟩, HF5⟩
              · have c10 : decide ((j : Int) < (m : Int)) = false := decide_eq_false hj
                go_wp2_with fail
                go_meet
                case rel =>
                  have hjm : j = us.length := by have := HUL.out; omega
                  have hE' : E.map (fun x => x.f1) = xs := by rw [← HE.out, ovE_terms, HXS.out]
                  exact ⟨_, rfl, HIj, ⟨by rw [← HYS.out, ovA_terms hE', if_neg (fun e => by have := HUL.out; rw [e] at this; exact hm this.symm)]; have h := HRj.out; rw [hjm, List.take_length] at h; exact Kd.R_mono h (fun k hk => hk.1)⟩, HFj⟩
        case rest =>
          obtain ⟨v, rfl, HI4, HR4, HF4⟩ := hcut
          obtain ⟨Ay, cy, rfl⟩ := Kd.R_slice HR4.out
          obtain ⟨E', hE'⟩ : ∃ E', ovA E us k = E' := ⟨_, rfl⟩
          have hyl : ys.length = E'.length := by rw [← HYS.out, hE', List.length_map]
          have HYL := Aside0.mk hyl
          have HE' := Aside0.mk hE'
          have hel' : E'.length ≤ 80 := by rw [← hE']; have := ovA_len E us k; have := HEL.out; have := HUL.out; omega
          have hyb : ys.length ≤ 80 := by omega
          have HF := Aside0.mk (Kd.F_mono (Kd.F_bound HF4.out) (ok' := fun k => (¬ S k ∧ k ≠ L) ∧ k < wc.heap.size) (fun k hk => ⟨⟨fun hS => by have := (HI.out.lg.wl.dk.2.1 k hS).2; have := hk.1.1; omega, fun e => by have := (HI.out.lg.wl.q L HI.out.lg.wl.lg.1).2.1; have := hk.1.1; omega⟩, hk.2⟩))
          have hF := HF.out
          rw [show m = (ovE us k).length by rw [ovE_len]; exact HUL.out.symm, ← HES.out] at hF
          have HAP := Aside0.mk (ov_append (us := us) (k := k) (Ae := Al) (ce := cl) HI4.out (by have := HEL.out; omega) HUS.out (by have := HUL.out; omega) (by omega) hF (by rw [ovE_len]; have := HUL.out; omega))
          rw [hE', ovE_len, HUL.out] at HAP
          clear hF hyl hE'
          go_upto_region 24 with (fail)
          go_wp2_with fail
          refine HAP.out.mono ?_
          rintro e w5 ⟨rfl, S5, Q5, D5, M5, recs5, p5, hi5, hB5, hq5⟩
          have HI5 := Aside0.mk hi5
          have HR5 := Aside0.mk (R_bysQ hB5 hq5 HR4.out)
          have hlast : M5.st.last = (E'.length : Int) := by rw [hi5.st]; unfold WS.last; simp
          have HLA := Aside0.mk (hi5.lg.wl.last hi5.lg.mok)
          rw [hlast] at HLA
          clear hi5 hB5 hq5 hlast
          go_wp2_with fail
          refine HLA.out.mono ?_
          rintro e w6 ⟨rfl, rfl⟩
          have hyl := HYL.out
          have c11 : ((E'.length : Int) != (ys.length : Int)) = false := by rw [hyl]; simp
          clear hyl
          go_wp2_with fail
          have HW7 := Aside0.mk (below_drew1 (Below.refl w5.heap.size w5))
          go_loopg [16, 17, 18] 80 (fun kq v16 v17 v18 w' => ∃ (j : Nat) (p q : Value), v16 = .int .i64 (j : Int) ∧ v17 = p ∧ v18 = q ∧ j ≤ ys.length ∧ j + kq = 80 ∧ Aside0 (Below w5.heap.size w5 w'))
          case atStart => exact ⟨0, _, _, rfl, rfl, rfl, Nat.zero_le _, by omega, ⟨by first | exact pw_below_drewN (Below.refl _ _) _ | exact HW7.out⟩⟩
          case round =>
            obtain ⟨j, p', q', rfl, rfl, rfl, j1, j2, HBj⟩ := hrel
            have hyl := HYL.out
            by_cases hj : (j : Int) < (ys.length : Int)
            · have c12 : decide ((j : Int) < (ys.length : Int)) = true := decide_eq_true hj
              have hnj : IntKind.i64.wrap ((j : Int) + 1) = (j : Int) + 1 := IntWalk.i64_in _ ⟨by omega, by omega⟩
              have HIj := Aside0.mk (HI5.out.below HBj.out)
              have HRj := Aside0.mk (Kd.R_below HR5.out HBj.out)
              have HTC := Aside0.mk (term_calls (i := (j : Int) + 1) HIj.out.lg.wl HIj.out.lg.mok ⟨by omega, by omega⟩)
              rw [HI5.out.st, ov_term (ys := ys) (j := j) (by rw [← HE'.out]; exact HYS.out) (by omega)] at HTC
              obtain ⟨y, hy⟩ : ∃ y, ys.getD j 0 = y := ⟨_, rfl⟩
              rw [hy] at HTC
              have HY := Aside0.mk hy
              clear hy hyl
              go_wp2_with fail
              refine HTC.out.mono ?_
              rintro e w8 ⟨rfl, hb8⟩
              have HB8 := Aside0.mk (below_step HBj.out hb8)
              have hC8 := (Kd.R_reads' (Kd.R_below HRj.out hb8)).2.2
              obtain ⟨ay, rfl⟩ := C_some hC8 (fun e => by rw [e] at hj; simp at hj; omega)
              have hcy := cellI hC8 (i := (j : Int)) (by omega) hj (x := y) (by rw [Int.toNat_natCast]; exact HY.out)
              rw [Int.toNat_natCast] at hcy
              have p4 := eq_true (show (0 : Int) ≤ (j : Int) by omega)
              have p5 := eq_true hj
              clear hb8 hC8
              go_wp2_with fail
              go_roundg (gk - 1)
              case measure => omega
              case rel => exact ⟨j + 1, _, _, rfl, rfl, rfl, by omega, by omega, ⟨by first | exact HB8.out | exact below_step HB8.out (pw_below_drewN (Below.refl _ _) _)⟩⟩
            · have c12 : decide ((j : Int) < (ys.length : Int)) = false := decide_eq_false hj
              have HIj := Aside0.mk (HI5.out.below HBj.out)
              have hnl : IntKind.i64.wrap ((ys.length : Int) + 1) = (ys.length : Int) + 1 := IntWalk.i64_in _ ⟨by omega, by omega⟩
              have HTC := Aside0.mk (term_calls (i := (ys.length : Int) + 1) HIj.out.lg.wl HIj.out.lg.mok ⟨by omega, by omega⟩)
              rw [HI5.out.st] at HTC
              have hnn : (⟨0, 0, 0, 0, E'⟩ : WS).term ((ys.length : Int) + 1) = none := by rw [hyl]; exact ov_term_none
              rw [hnn] at HTC
              clear hyl hnn
              go_wp2_with fail
              refine HTC.out.mono ?_
              rintro e w8 ⟨rfl, hb8⟩
              have HB8 := Aside0.mk (below_step HBj.out hb8)
              clear hb8
              go_wp2_with fail
              refine (wlive_calls _).mono ?_
              rintro e w9 ⟨rfl, hb9⟩
              have HB9 := Aside0.mk (below_step HB8.out hb9)
              have HI9 := Aside0.mk (HI5.out.below HB9.out)
              have HEC := Aside0.mk (entries_calls (a := 1) (b := (ys.length : Int)) HI9.out.lg.wl HI9.out.lg.mok ⟨by decide, by decide⟩ ⟨by omega, by omega⟩)
              rw [HI5.out.st] at HEC
              have hfr : (⟨0, 0, 0, 0, E'⟩ : WS).from_ 1 (ys.length : Int) = E' := by rw [HYL.out]; exact ov_from
              rw [hfr] at HEC
              clear hfr hb9
              go_wp2_with fail
              refine HEC.out.mono ?_
              rintro e w10 ⟨v10, rfl, hn10, hb10⟩
              obtain ⟨A10, c10, rfl⟩ := Kd.N_slice hn10
              have c13 : ((E'.length : Int) == (ys.length : Int)) = true := by rw [HYL.out]; simp
              have HB10 := Aside0.mk (below_step HB9.out hb10)
              clear hn10 hb10
              go_wp2_with fail
              go_ret
              exact ⟨rfl, below_step HI5.out.lg.wl.dk.1 HB10.out⟩
end Go.Proofs.Ytmmiipnmimjojaa.PS
end
section
/- WalOverwrites: what the row takes. -/
namespace Go.Proofs.Ytmmiipnmimjojaa.PS
open Go.RowKit Go.Proofs.YtmmiipnmimjojaaW.PrintWords Go.Proofs.Ytmmiipnmimjojaa.OpenK
set_option linter.unusedVariables false
theorem tollgatelaw06_WalOverwrites.calls (A0 : Option Addr) (c0 : Nat) (x0 : List Int) (A1 : Option Addr) (c1 : Nat) (x1 : List Int) (x2 : Int) (r : Bool) (W : World) (h0 : k8.C W A0 x0.length x0) (l0 : x0.length ≤ c0) (h1 : k8.C W A1 x1.length x1) (l1 : x1.length ≤ c1) (hp : r = true ∧ Byts x0 ∧ Byts x1 ∧ 0 ≤ x2 ∧ x2 ≤ 255) :
    Calls Try.prog 13 #[.slice A0 x0.length c0, .slice A1 x1.length c1, .int .u8 x2] W fun e w' => e = .returned (.bool r) ∧ Below W.heap.size W w' := by
  obtain ⟨rfl, h2, h3, h4⟩ := hp
  exact walOverwrites_calls h0 l0 h1 l1 h2.2 h3.2 h4 (by have := h2.1; omega) (by have := h3.1; omega)
end Go.Proofs.Ytmmiipnmimjojaa.PS
namespace Go.Proofs.Ytmmiipnmimjojaa.Pure
open Go.RowKit Go.Proofs.YtmmiipnmimjojaaW.PrintWords Go.Proofs.Ytmmiipnmimjojaa.OpenK Go.Proofs.Ytmmiipnmimjojaa.PS
theorem WalOverwrites_pure (x0 x1 : List Int) (x2 : Int) (g0 : x0.length * 1 ≤ reachBytes ∧ x0.length ≤ maxLen ∧ ∀ y ∈ x0, (Lit.int .u8 y).wf = true) (g1 : x1.length * 1 ≤ reachBytes ∧ x1.length ≤ maxLen ∧ ∀ y ∈ x1, (Lit.int .u8 y).wf = true) (g2 : (Lit.int .u8 x2).wf = true) : true = true ∧ Byts x0 ∧ Byts x1 ∧ 0 ≤ x2 ∧ x2 ≤ 255 :=
  ⟨rfl, byts_of g0, byts_of g1, u8_of g2⟩
end Go.Proofs.Ytmmiipnmimjojaa.Pure
end
section
/- WalOverwrites: the row, out of what the law's functions compute. -/
namespace Go.Proofs.Ytmmiipnmimjojaa.walOverwrites
open Go.ChangeShapes Go.WideShapes Go.ChangeAt Go.RowKit Go.Proofs.YtmmiipnmimjojaaW.PrintWords Go.Proofs.Ytmmiipnmimjojaa.OpenK Go.Proofs.Ytmmiipnmimjojaa.PS
open Go.ChangeMaps (open_string shut_string)
set_option linter.unusedVariables false
theorem own : ownKnob Try.prog.godebug = none := by kernel_rfl
theorem laidOut : laidOutB Try.prog = true := by kernel_rfl
set_option maxRecDepth 1000000 in
set_option maxHeartbeats 1000000 in
theorem contract (H : Type) (enc : TypeId × Value → H) (W : World) (base : Nat) (args : Array Value) (ds gs : List (DataW H)) (before : List MemPlace)
    (hval0 : ∀ (j : Nat) t v, Try.f13.params[j]? = some t → args[j]? = some v → Value.okWide Try.prog W .any base t v)
    (hW : DataW.Whole enc Try.prog Try.f13.params.toList Rows.walOverwritesSpec.vars false W args.toList ds gs before)
    (hsz0 : (DataW.weightsEach Try.prog (Try.f13.params.toList ++ Rows.walOverwritesSpec.plain.varTypes Try.prog) (ds ++ gs)).all (· ≤ reachBytes) = true) :
    Calls Try.prog 13 args W fun e W' => ∃ v, e = .returned v ∧ Rows.walOverwritesSpec.post enc Try.prog Try.f13 false true false false W args v W' := by
  have hsz : (DataW.weightsEach Try.prog (Try.f13.params.toList ++ Rows.walOverwritesSpec.plain.varTypes Try.prog) (ds ++ gs)).all (· ≤ reachBytes) = true := hsz0
  have hval : ∀ (j : Nat) t v, Try.f13.params[j]? = some t → args[j]? = some v → Value.okWide Try.prog W .any base t v := hval0
  have hW' := hW
  obtain ⟨p, q, hA0, hV, rfl, hfz, hnd⟩ := hW
  have hA : DataW.TrodAll enc Try.prog W 0 (fun _ => true) true Try.f13.params.toList args.toList ds p := hA0
  rw [Try.params13] at hA hval hsz
  obtain ⟨v0, vs0, d0, ds0, p0, q0, hargs, rfl, rfl, h0, r0⟩ := trodAll_cons hA
  obtain ⟨v1, vs1, d1, ds1, p1, q1, rfl, rfl, rfl, h1, r1⟩ := trodAll_cons r0
  obtain ⟨v2, vs2, d2, ds2, p2, q2, rfl, rfl, rfl, h2, r2⟩ := trodAll_cons r1
  obtain ⟨rfl, rfl, rfl⟩ := trodAll_nil r2
  obtain rfl : args = #[v0, v1, v2] := by cases args; simp_all
  obtain ⟨rfl, rfl⟩ := trodVars_none hV
  have k0 := h0
  have lt0 : ∀ x ∈ p0, x.block < W.heap.size := by obtain ⟨m, hm⟩ := k0; exact DataW.trod_lt m _ _ _ hm
  have z0 := arg_sized hsz (j := 0) (t := 22) rfl rfl
  obtain ⟨a0, len0, cap0, rfl⟩ := okWide_slice Try.underlying22 (hval 0 22 v0 rfl rfl)
  obtain ⟨fuel0, hf0⟩ := h0
  obtain ⟨x0, ⟨A0, c0, e0, l0, C0⟩, g0, s0⟩ := (opens_slice (B := 1) Try.underlying22 (opens_int Try.underlying5) (by kernel_rfl) (by kernel_rfl)).open_ hf0 z0
  have e0' : Value.slice a0 len0 cap0 = .slice A0 x0.length c0 := by simpa [Value.cells] using e0
  rw [e0']
  have k1 := h1
  have lt1 : ∀ x ∈ p1, x.block < W.heap.size := by obtain ⟨m, hm⟩ := k1; exact DataW.trod_lt m _ _ _ hm
  have z1 := arg_sized hsz (j := 1) (t := 22) rfl rfl
  obtain ⟨a1, len1, cap1, rfl⟩ := okWide_slice Try.underlying22 (hval 1 22 v1 rfl rfl)
  obtain ⟨fuel1, hf1⟩ := h1
  obtain ⟨x1, ⟨A1, c1, e1, l1, C1⟩, g1, s1⟩ := (opens_slice (B := 1) Try.underlying22 (opens_int Try.underlying5) (by kernel_rfl) (by kernel_rfl)).open_ hf1 z1
  have e1' : Value.slice a1 len1 cap1 = .slice A1 x1.length c1 := by simpa [Value.cells] using e1
  rw [e1']
  have k2 := h2
  have lt2 : ∀ x ∈ p2, x.block < W.heap.size := by obtain ⟨m, hm⟩ := k2; exact DataW.trod_lt m _ _ _ hm
  have z2 := arg_sized hsz (j := 2) (t := 5) rfl rfl
  obtain ⟨x2, rfl, _, _, g2⟩ := open_int Try.underlying5 (hval 2 5 v2 rfl rfl) h2
  clear hA0 hval0 hsz0 hsz
  have hp := Pure.WalOverwrites_pure x0 x1 x2 g0 g1 g2
  refine (PS.tollgatelaw06_WalOverwrites.calls A0 c0 x0 A1 c1 x1 x2 true W C0 l0 C1 l1 hp).mono ?_
  rintro e W' ⟨rfl, hd⟩
  have bel : Below W.heap.size W W' := hd
  rw [← e0', ← e1']
  exact ⟨_, rfl, _, _, _, [], _, [], hW', trodAll_mk1 (shut_bool Try.underlying4 _), (trodAll_cons_mk (Below.trod laidOut (by kernel_rfl) (of_decide_eq_true (by kernel_rfl)) k0 bel lt0) (trodAll_cons_mk (Below.trod laidOut (by kernel_rfl) (of_decide_eq_true (by kernel_rfl)) k1 bel lt1) (trodAll_cons_mk (Below.trod laidOut (by kernel_rfl) (of_decide_eq_true (by kernel_rfl)) k2 bel lt2) trodAll_mk0))), rfl, bel.frame _, fun h => by cases h⟩
set_option maxRecDepth 100000 in
theorem lifted (os : Os) (started : os.Started) (H : Type) (enc : TypeId × Value → H) :
    ReturnsInHanded {} Try.checked os 13 .any (Rows.walOverwritesSpec.pre6 enc Try.prog Try.f13 Rows.walOverwritesRow.domain false) (Rows.walOverwritesSpec.post enc Try.prog Try.f13 false true false false) := by
  refine returnsInHanded_of_change_sized (C := Try.checked) own started (by kernel_rfl) Try.func13
    (ChangeSpec.witness6 (enc := enc) (C := Try.checked) false ⟨#[], #[.slice none 0 0, .slice none 0 0, .int .u8 0], []⟩ 8 (by kernel_rfl) (by kernel_rfl) (by kernel_rfl) (by kernel_rfl)) ?_
  intro W base args ds gs before hval0 hW hcnd hsz0 _
  exact contract H enc W base args ds gs before hval0 hW hsz0
theorem over : Rows.walOverwritesRow.holds Try.pinned (OpenSpec.ofChange Rows.walOverwritesSpec) :=
  OpenClaim.holds_of_wide 13 Try.f13 rfl rfl rfl rfl rfl rfl rfl ⟨rfl, rfl, rfl, rfl, rfl⟩ rfl rfl rfl rfl rfl (by kernel_rfl) Try.func13 (by kernel_rfl)
    (of_decide_eq_true (by kernel_rfl)) (by unfold Func.isWrapper; first | (rw [if_pos (by decide +kernel)]; kernel_rfl) | (rw [if_neg (by decide +kernel)]; exact ⟨rfl, rfl⟩))
    (fun os started H enc _ => lifted os started H enc)
end Go.Proofs.Ytmmiipnmimjojaa.walOverwrites
namespace Go.Proofs.Ytmmiipnmimjojaa
theorem walOverwrites_holds : Rows.WalOverwritesSaid := walOverwrites.over
end Go.Proofs.Ytmmiipnmimjojaa
end
