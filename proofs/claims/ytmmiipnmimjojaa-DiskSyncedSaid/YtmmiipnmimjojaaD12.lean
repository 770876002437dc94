/- disk.file.after: what the first units make of a file. -/
import Derived.Test.YtmmiipnmimjojaaD11
namespace Go.Proofs.Ytmmiipnmimjojaa.PS
open Go.RowKit Go.Proofs.YtmmiipnmimjojaaW.PrintWords Go.Proofs.YtmmiipnmimjojaaW.PrintLast Go.Proofs.YtmmiipnmimjojaaW.PrintMore
open Go.Maps Go.Proofs.Ytmmiipnmimjojaa.PD
set_option linter.unusedVariables false
set_option linter.unusedSimpArgs false
/-- A change's units. -/
def chN (c : S114) : Int := if c.f0 = true then 1 else c.f3.length
/-- What the first n units of a change make of bytes. -/
def ap1 (c : S114) (out : List Int) (n : Int) : List Int := if n = 0 then out else if c.f0 = true then out.take c.f1.toNat else layL out c.f2.toNat (c.f3.take n.toNat)
def aft (k : Int) : List S114 → List Int × Int → List Int × Int
  | [], p => p
  | c :: cs, p => aft k cs (ap1 c p.1 (min (chN c) (k - p.2)), p.2 + min (chN c) (k - p.2))
/-- Each change fits what the ones ahead of it made. -/
def ChOk : List S114 → List Int → Prop
  | [], out => out.length ≤ 1000000
  | c :: cs, out => out.length ≤ 1000000 ∧ (c.f0 = true → 0 ≤ c.f1 ∧ c.f1 ≤ out.length) ∧ (c.f0 = false → 0 ≤ c.f2 ∧ c.f2 ≤ out.length) ∧ c.f3.length ≤ 1000000 ∧ ChOk cs (ap1 c out (chN c))
theorem ap1_zero (c : S114) (out : List Int) : ap1 c out 0 = out := by unfold ap1; rw [if_pos rfl]
theorem ap1_cut (z a : Int) (b out : List Int) : ap1 ⟨true, z, a, b⟩ out 1 = out.take z.toNat := by unfold ap1; rw [if_neg (by decide), if_pos rfl]
theorem ap1_lay (z a : Int) (b out : List Int) {m : Nat} (h : m ≠ 0) : ap1 ⟨false, z, a, b⟩ out m = layL out a.toNat (b.take m) := by unfold ap1; rw [if_neg (by omega), if_neg (by simp)]; rfl
theorem chN_0 (c : S114) : 0 ≤ chN c := by unfold chN; split <;> omega
theorem drop_rd {xs : List S114} {i : Int} (h0 : 0 ≤ i) (h1 : i < (xs.length : Int)) : xs.drop i.toNat = rd_T114 xs i :: xs.drop (i + 1).toNat := by
  have hl : i.toNat < xs.length := by omega
  rw [List.drop_eq_getElem_cons hl, show (i + 1).toNat = i.toNat + 1 by omega]
  unfold rd_T114
  rw [List.getD_eq_getElem?_getD, List.getElem?_eq_getElem hl]
  rfl
theorem aft_step {xs : List S114} {i k u : Int} {out : List Int} {R : List Int × Int} (h0 : 0 ≤ i) (h1 : i < (xs.length : Int)) (h : aft k (xs.drop i.toNat) (out, u) = R) :
    aft k (xs.drop (i + 1).toNat) (ap1 (rd_T114 xs i) out (min (chN (rd_T114 xs i)) (k - u)), u + min (chN (rd_T114 xs i)) (k - u)) = R := by rw [drop_rd h0 h1] at h; exact h
theorem ok_step {xs : List S114} {i k u : Int} {out : List Int} (h0 : 0 ≤ i) (h1 : i < (xs.length : Int)) (hu : u ≤ k) (h : u = k ∨ ChOk (xs.drop i.toNat) out) :
    u + min (chN (rd_T114 xs i)) (k - u) = k ∨ ChOk (xs.drop (i + 1).toNat) (ap1 (rd_T114 xs i) out (min (chN (rd_T114 xs i)) (k - u))) := by
  have hc := chN_0 (rd_T114 xs i)
  rcases h with rfl | h
  · exact .inl (by omega)
  · rw [drop_rd h0 h1] at h
    by_cases hm : chN (rd_T114 xs i) ≤ k - u
    · rw [Int.min_eq_left hm]
      exact .inr h.2.2.2.2
    · exact .inl (by omega)
theorem ok_head {xs : List S114} {i k u : Int} {out : List Int} (h0 : 0 ≤ i) (h1 : i < (xs.length : Int)) (h : u = k ∨ ChOk (xs.drop i.toNat) out) (hn : min (chN (rd_T114 xs i)) (k - u) ≠ 0) (hu : u ≤ k) :
    out.length ≤ 1000000 ∧ ((rd_T114 xs i).f0 = true → 0 ≤ (rd_T114 xs i).f1 ∧ (rd_T114 xs i).f1 ≤ out.length) ∧ ((rd_T114 xs i).f0 = false → 0 ≤ (rd_T114 xs i).f2 ∧ (rd_T114 xs i).f2 ≤ out.length) ∧ (rd_T114 xs i).f3.length ≤ 1000000 := by
  have hc := chN_0 (rd_T114 xs i)
  rcases h with rfl | h
  · omega
  · rw [drop_rd h0 h1] at h
    exact ⟨h.1, h.2.1, h.2.2.1, h.2.2.2.1⟩
/-- New bytes, that none writes. -/
abbrev NV (W w' : World) (v : Value) (xs : List Int) : Prop := Kd.V k8 5 w' 0 (RO w' (Nw W w' (fun _ => False))) v xs
theorem NV.below {W w1 w2 : World} {v : Value} {xs : List Int} (h : NV W w1 v xs) (h0 : W.heap.size ≤ w1.heap.size) (hb : Below w1.heap.size w1 w2) : NV W w2 v xs := by
  have h1 := V_old (W := w1) (S := Nw W w1 (fun _ => False)) (wf := w2) h (fun k hk _ _ => hb.block k hk)
  refine Kd.V_mono h1 (fun k hk => ⟨?_, hk.2⟩)
  have hs := hb.size
  have hlt := hk.2.lt
  rcases hk.1 with (h | h) | h
  · exact h.elim
  · exact .inr ⟨h.1, hlt⟩
  · exact .inr ⟨by omega, hlt⟩
theorem NV.of_R {W w1 w2 : World} {v : Value} {xs : List Int} (h0 : W.heap.size ≤ w1.heap.size) (h : k8.R 5 w2 w1.heap.size (fun _ => True) v xs) : NV W w2 v xs := V_new (Kd.R_lower h h0) (fun _ _ _ => rfl) (Nat.le_refl _)
theorem NV.take {W w : World} {A : Option Addr} {n c m : Nat} {xs : List Int} (h : NV W w (.slice A n c) xs) (hm : m ≤ xs.length) : NV W w (.slice A m c) (xs.take m) := by
  obtain ⟨hn, hc, hF⟩ := Kd.V_at h
  have hl : (xs.take m).length = m := by rw [List.length_take]; omega
  refine ⟨A, c, by rw [hl], by rw [hl]; omega, ?_⟩
  exact Kd.F_imp hF (fun W' hC => Kd.C_take hC hm)
set_option maxHeartbeats 1000000 in
set_option maxRecDepth 100000 in
theorem after_calls {W : World} {S : Nat → Prop} {own : Nat → Nat} {b : Nat} {f : Fil} {k : Int} (h : FilAt W S own b f) (h1 : f.f1.length ≤ 1000000) (h3 : f.f3.length ≤ 1000000) (ok : ChOk f.f3 f.f1) (hk : 0 ≤ k) (hk2 : k ≤ 9223372036854775807) :
    Calls Try.prog 62 #[.pointer (some ⟨b, 0, none⟩), .int .i64 k] W fun e w' => ∃ v, e = .returned (.tuple #[v, .int .i64 (aft k f.f3 (f.f1, 0)).2]) ∧ NV W w' v (aft k f.f3 (f.f1, 0)).1 ∧ Below W.heap.size W w' := by
  obtain ⟨hSb, hob, vn, vs, vc, hh, hn, hs, hcN, hown⟩ := h
  obtain ⟨As, cs, rfl⟩ := Kd.V_slice hs
  obtain ⟨Ac, cc, rfl⟩ := Kd.N_slice hcN
  obtain ⟨R, hR⟩ : ∃ R, aft k f.f3 (f.f1, 0) = R := ⟨_, rfl⟩
  rw [hR]
  have HRR := Aside0.mk hR
  have q1 : W.cell? ⟨b, 1, none⟩ = some (.slice As f.f1.length cs) := blk_cell hh 1
  have HS := Aside0.mk hs
  have HC := Aside0.mk (Kd.N_reads' hcN).2.2
  have HH := Aside0.mk hh
  have HOK := Aside0.mk ok
  clear hh hn hs hcN hown hR ok
  go_enter Try.func62, Try.ntmps62
  go_wp2_with fail
  refine (clone8 As cs f.f1 W (Kd.V_reads' HS.out).2.2 (by omega)).mono ?_
  rintro e w1 ⟨v1, rfl, hr, hb⟩
  obtain ⟨A1, c1, rfl⟩ := Kd.R_slice hr
  have hh1 := (hb.block _ (blk_lt HH.out)).trans HH.out
  have p3 : w1.cell? ⟨b, 3, none⟩ = some (.slice Ac f.f3.length cc) := blk_cell hh1 3
  have HR := Aside0.mk (NV.of_R (Nat.le_refl _) hr)
  have HB := Aside0.mk hb
  clear hr hb hh1
  go_wp2_with fail
  go_loopg [21, 6, 7] f.f3.length (fun kq v21 v6 v7 w' => ∃ (i u : Int) (A : Option Addr) (c : Nat) (out : List Int), v21 = .int .i64 i ∧ v6 = .slice A out.length c ∧ v7 = .int .i64 u ∧ 0 ≤ i ∧ i + kq = f.f3.length ∧ 0 ≤ u ∧ u ≤ k ∧
    Aside0 (aft k (f.f3.drop i.toNat) (out, u) = R) ∧ Aside0 (u = k ∨ ChOk (f.f3.drop i.toNat) out) ∧ Aside0 (NV W w' (.slice A out.length c) out) ∧ Aside0 (Below W.heap.size W w'))
  case atStart => exact ⟨0, 0, _, _, _, rfl, rfl, rfl, by omega, by omega, by omega, by omega, ⟨HRR.out⟩, ⟨.inr HOK.out⟩, HR, HB⟩
  case round =>
    obtain ⟨i, u, A, c, out, rfl, rfl, rfl, i0, i1, u0, u1, HA, HO, HV, HBB⟩ := hrel
    by_cases h6 : i < (f.f3.length : Int)
    · have c6 : decide (i < (f.f3.length : Int)) = true := decide_eq_true h6
      have HA1 := Aside0.mk (aft_step i0 h6 HA.out)
      have HO1 := Aside0.mk (ok_step i0 h6 u1 HO.out)
      have hhd := ok_head i0 h6 HO.out
      obtain ⟨ad, A3, c3, e1, hx0, hx1, hx2, hx3, hl3, hi3⟩ := at_T114 HC.out i i0 h6
      cases e1
      generalize rd_T114 f.f3 i = ch at *
      replace hx0 := (HBB.out.cell (World.block_lt_of_cell? W _ hx0)).trans hx0
      replace hx1 := (HBB.out.cell (World.block_lt_of_cell? W _ hx1)).trans hx1
      replace hx2 := (HBB.out.cell (World.block_lt_of_cell? W _ hx2)).trans hx2
      replace hx3 := (HBB.out.cell (World.block_lt_of_cell? W _ hx3)).trans hx3
      have HI3 := Aside0.mk (Kd.C_below hi3 HBB.out)
      have p0 := eq_true i0
      have p1 := eq_true h6
      have HHD := Aside0.mk hhd
      have hsub : IntKind.i64.wrap (k - u) = k - u := IntWalk.i64_in _ ⟨by omega, by omega⟩
      have hnx : IntKind.i64.wrap (i + 1) = i + 1 := IntWalk.i64_in _ ⟨by omega, by omega⟩
      obtain ⟨c0, cs1, cs2, cl⟩ := ch
      clear hi3 hhd
      dsimp only at hx0 hx1 hx2 hx3 hl3
      cases c0 with
      | true =>
        by_cases hz : k - u = 0
        · have hm : min 1 (k - u) = 0 := by omega
          have HA2 := HA1.out
          have HO2 := HO1.out
          rw [show min (chN ⟨true, cs1, cs2, cl⟩) (k - u) = 0 from hm, Int.add_zero, ap1_zero] at HA2 HO2
          replace HA2 := Aside0.mk HA2
          replace HO2 := Aside0.mk HO2
          clear hz
          go_wp2_with fail
          go_roundg (gk - 1)
          case measure => omega
          case rel => exact ⟨i + 1, u, A, c, out, rfl, rfl, rfl, by omega, by omega, u0, u1, HA2, HO2, ⟨HV.out.below HBB.out.size (below_alloc (Below.refl _ _) _)⟩, ⟨below_alloc HBB.out _⟩⟩
        · have hm : min 1 (k - u) = 1 := by omega
          have HA2 := HA1.out
          have HO2 := HO1.out
          have hh := HHD.out (by rw [show min (chN ⟨true, cs1, cs2, cl⟩) (k - u) = 1 from hm]; decide) u1
          obtain ⟨hz0, hz1⟩ := hh.2.1 rfl
          dsimp only at hz0 hz1
          rw [show min (chN ⟨true, cs1, cs2, cl⟩) (k - u) = 1 from hm, ap1_cut] at HA2 HO2
          replace HA2 := Aside0.mk HA2
          replace HO2 := Aside0.mk HO2
          have hle := (Kd.V_at HV.out).2.1
          have hu1 : IntKind.i64.wrap (u + 1) = u + 1 := IntWalk.i64_in _ ⟨by omega, by omega⟩
          have hlt : (out.take cs1.toNat).length = cs1.toNat := by rw [List.length_take]; omega
          have HLT := Aside0.mk hlt
          have HZ := Aside0.mk (show cs1.toNat ≤ out.length by omega)
          have hz2 : cs1 ≤ (c : Int) := by omega
          have p2 := eq_true hz0
          have p3 := eq_true hz2
          clear hz hh hlt
          go_wp2_with fail
          go_roundg (gk - 1)
          case measure => omega
          case rel => exact ⟨i + 1, u + 1, A, c, out.take cs1.toNat, rfl, by rw [HLT.out], rfl, by omega, by omega, by omega, by omega, HA2, HO2, ⟨by rw [HLT.out]; exact (HV.out.below HBB.out.size (below_alloc (Below.refl _ _) _)).take HZ.out⟩, ⟨below_alloc HBB.out _⟩⟩
      | false =>
        obtain ⟨m, hm⟩ : ∃ m : Nat, min (cl.length : Int) (k - u) = m := ⟨(min (cl.length : Int) (k - u)).toNat, by omega⟩
        have HA2 := HA1.out
        have HO2 := HO1.out
        rw [show min (chN ⟨false, cs1, cs2, cl⟩) (k - u) = m from hm] at HA2 HO2
        by_cases hz : m = 0
        · subst hz
          rw [show u + ((0 : Nat) : Int) = u from Int.add_zero u, show ap1 ⟨false, cs1, cs2, cl⟩ out ((0 : Nat) : Int) = out from ap1_zero _ _] at HA2 HO2
          replace HA2 := Aside0.mk HA2
          replace HO2 := Aside0.mk HO2
          replace hm : min (cl.length : Int) (k - u) = 0 := hm
          go_wp2_with fail
          go_roundg (gk - 1)
          case measure => omega
          case rel => exact ⟨i + 1, u, A, c, out, rfl, rfl, rfl, by omega, by omega, u0, u1, HA2, HO2, ⟨HV.out.below HBB.out.size (below_alloc (Below.refl _ _) _)⟩, ⟨below_alloc HBB.out _⟩⟩
        · have hh := HHD.out (by rw [show min (chN ⟨false, cs1, cs2, cl⟩) (k - u) = m from hm]; omega) u1
          obtain ⟨hz0, hz1⟩ := hh.2.2.1 rfl
          rw [ap1_lay _ _ _ _ hz] at HA2 HO2
          replace HA2 := Aside0.mk HA2
          replace HO2 := Aside0.mk HO2
          have hmc : (m : Int) ≤ cl.length := by omega
          have hu1 : IntKind.i64.wrap (u + m) = u + m := IntWalk.i64_in _ ⟨by omega, by omega⟩
          have hlt : (cl.take m).length = m := by rw [List.length_take]; omega
          have hz2 : (m : Int) ≤ (c3 : Int) := by omega
          have p2 : (0 ≤ (m : Int)) = True := eq_true (by omega)
          have p3 := eq_true hz2
          have hmd : decide ((m : Int) = 0) = false := decide_eq_false (by omega)
          have hne : ((m : Int) = 0) = False := eq_false (by omega)
          dsimp only at hz0 hz1
          have q2 : (wr.alloc (.cells #[.bool false, .int .i64 cs1, .int .i64 cs2, .slice A3 cl.length c3] 114)).cell? ⟨wr.heap.size, 2, none⟩ = some (.int .i64 cs2) := blk_cell (blk_new wr _) 2
          have q3 : (wr.alloc (.cells #[.bool false, .int .i64 cs1, .int .i64 cs2, .slice A3 cl.length c3] 114)).cell? ⟨wr.heap.size, 3, none⟩ = some (.slice A3 cl.length c3) := blk_cell (blk_new wr _) 3
          have hcl : ∀ W', Below (wr.alloc (.cells #[.bool false, .int .i64 cs1, .int .i64 cs2, .slice A3 cl.length c3] 114)).heap.size (wr.alloc (.cells #[.bool false, .int .i64 cs1, .int .i64 cs2, .slice A3 cl.length c3] 114)) W' → Calls Try.prog 58 #[.slice A out.length c, .int .i64 cs2, .slice A3 m c3] W' fun e w' => ∃ A1 c1, e = .returned (.slice A1 (layL out cs2.toNat (cl.take m)).length c1) ∧ w'.cell? ⟨wr.heap.size, 2, none⟩ = some (.int .i64 cs2) ∧ w'.cell? ⟨wr.heap.size, 3, none⟩ = some (.slice A3 cl.length c3) ∧
              Aside0 (NV W w' (.slice A1 (layL out cs2.toNat (cl.take m)).length c1) (layL out cs2.toNat (cl.take m)) ∧ Below W.heap.size W w') := fun W' hWa => by
            have hW := below_step (below_alloc (Below.refl _ _) _) hWa
            have hV := HV.out.below HBB.out.size hW
            have hC3 := Kd.C_take (Kd.C_below HI3.out hW) (show m ≤ cl.length by omega)
            have hca := lay_calls A c out cs2 A3 c3 (cl.take m) W' (Kd.V_at hV).2.2.now hC3 (by rw [hlt]; omega) hz0 hz1 (by rw [hlt]; have h4 := hh.1; have h5 := hh.2.2.2; dsimp only at h5; omega)
            rw [hlt] at hca
            refine hca.mono ?_
            rintro e w' ⟨v1, rfl, hr, hb⟩
            obtain ⟨A1, c1, rfl⟩ := Kd.R_slice hr
            have hb2 := below_step hWa hb
            exact ⟨A1, c1, rfl, (hb2.cell (World.block_lt_of_cell? _ _ q2)).trans q2, (hb2.cell (World.block_lt_of_cell? _ _ q3)).trans q3, ⟨NV.of_R (by have := HBB.out.size; have := hW.size; omega) hr, below_step (below_step HBB.out hW) hb⟩⟩
          have HCL := Aside0.mk hcl
          clear hcl hh
          go_wp2_with fail
          go_region_held3 (fun w' => w'.cell? ⟨wr.heap.size, 2, none⟩ = some (.int .i64 cs2) ∧ w'.cell? ⟨wr.heap.size, 3, none⟩ = some (.slice A3 cl.length c3)) (first | (exact ⟨q2, q3⟩) | go_keep)
            ((go_at_call 58; refine (HCL.out _ (below_drew1 (Below.refl _ _))).mono ?_; rintro e w2 ⟨A2, c2, rfl, hq1, hq2, hx⟩; have hq := And.intro hq1 hq2))
          all_goals
            go_wp2_with fail
            go_roundg (gk - 1)
            case measure => omega
            case rel => exact ⟨i + 1, u + m, A2, c2, _, rfl, rfl, rfl, by omega, by omega, by omega, by omega, HA2, HO2, ⟨hx.out.1⟩, ⟨hx.out.2⟩⟩
    · have c6 : decide (i < (f.f3.length : Int)) = false := decide_eq_false h6
      have hR := HA.out
      rw [List.drop_eq_nil_of_le (by omega)] at hR
      have e1 : (out, u) = R := hR
      subst e1
      clear hR
      go_wp2
      exact bodyPost_ret (v := .tuple #[.slice A out.length c, .int .i64 u]) (by simp [results, Try.results62, go_sem]) rfl ⟨_, rfl, HV.out, HBB.out⟩
end Go.Proofs.Ytmmiipnmimjojaa.PS
