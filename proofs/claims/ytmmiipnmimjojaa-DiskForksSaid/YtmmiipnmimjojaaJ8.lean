/- The texts of this claim's seat, joined: part 8. -/
import Derived.Test.YtmmiipnmimjojaaJ7
section
namespace Go.Proofs.Ytmmiipnmimjojaa.PS
open Go.RowKit Go.Proofs.YtmmiipnmimjojaaW.PrintWords Go.Proofs.YtmmiipnmimjojaaW.PrintLast Go.Proofs.YtmmiipnmimjojaaW.PrintMore
open Go.Maps Go.Proofs.Ytmmiipnmimjojaa.PD
set_option linter.unusedVariables false
set_option linter.unusedSimpArgs false
/-- A change's units. -/
def chN (c : S114) : Int := if c.f0 = true then 1 else c.f3.length
/-- What the first n units of a change make of bytes. -/
def ap1 (c : S114) (out : List Int) (n : Int) : List Int := if n = 0 then out else if c.f0 = true then out.take c.f1.toNat else layL out c.f2.toNat (c.f3.take n.toNat)
def aft (k : Int) : List S114 → List Int × Int → List Int × Int
  | [], p => p
  | c :: cs, p => aft k cs (ap1 c p.1 (min (chN c) (k - p.2)), p.2 + min (chN c) (k - p.2))
/-- Each change fits what the ones ahead of it made. -/
def ChOk : List S114 → List Int → Prop
  | [], out => out.length ≤ 1000000
  | c :: cs, out => out.length ≤ 1000000 ∧ (c.f0 = true → 0 ≤ c.f1 ∧ c.f1 ≤ out.length) ∧ (c.f0 = false → 0 ≤ c.f2 ∧ c.f2 ≤ out.length) ∧ c.f3.length ≤ 1000000 ∧ ChOk cs (ap1 c out (chN c))
theorem ap1_zero (c : S114) (out : List Int) : ap1 c out 0 = out := by unfold ap1; rw [if_pos rfl]
theorem ap1_cut (z a : Int) (b out : List Int) : ap1 ⟨true, z, a, b⟩ out 1 = out.take z.toNat := by unfold ap1; rw [if_neg (by decide), if_pos rfl]
theorem ap1_lay (z a : Int) (b out : List Int) {m : Nat} (h : m ≠ 0) : ap1 ⟨false, z, a, b⟩ out m = layL out a.toNat (b.take m) := by unfold ap1; rw [if_neg (by omega), if_neg (by simp)]; rfl
theorem chN_0 (c : S114) : 0 ≤ chN c := by unfold chN; split <;> omega
theorem drop_rd {xs : List S114} {i : Int} (h0 : 0 ≤ i) (h1 : i < (xs.length : Int)) : xs.drop i.toNat = rd_T114 xs i :: xs.drop (i + 1).toNat := by
  have hl : i.toNat < xs.length := by omega
  rw [List.drop_eq_getElem_cons hl, show (i + 1).toNat = i.toNat + 1 by omega]
  unfold rd_T114
  rw [List.getD_eq_getElem?_getD, List.getElem?_eq_getElem hl]
  rfl
theorem aft_step {xs : List S114} {i k u : Int} {out : List Int} {R : List Int × Int} (h0 : 0 ≤ i) (h1 : i < (xs.length : Int)) (h : aft k (xs.drop i.toNat) (out, u) = R) :
    aft k (xs.drop (i + 1).toNat) (ap1 (rd_T114 xs i) out (min (chN (rd_T114 xs i)) (k - u)), u + min (chN (rd_T114 xs i)) (k - u)) = R := by rw [drop_rd h0 h1] at h; exact h
theorem ok_step {xs : List S114} {i k u : Int} {out : List Int} (h0 : 0 ≤ i) (h1 : i < (xs.length : Int)) (hu : u ≤ k) (h : u = k ∨ ChOk (xs.drop i.toNat) out) :
    u + min (chN (rd_T114 xs i)) (k - u) = k ∨ ChOk (xs.drop (i + 1).toNat) (ap1 (rd_T114 xs i) out (min (chN (rd_T114 xs i)) (k - u))) := by
  have hc := chN_0 (rd_T114 xs i)
  rcases h with rfl | h
  · exact .inl (by omega)
  · rw [drop_rd h0 h1] at h
    by_cases hm : chN (rd_T114 xs i) ≤ k - u
    · rw [Int.min_eq_left hm]
      exact .inr h.2.2.2.2
    · exact .inl (by omega)
theorem ok_head {xs : List S114} {i k u : Int} {out : List Int} (h0 : 0 ≤ i) (h1 : i < (xs.length : Int)) (h : u = k ∨ ChOk (xs.drop i.toNat) out) (hn : min (chN (rd_T114 xs i)) (k - u) ≠ 0) (hu : u ≤ k) :
    out.length ≤ 1000000 ∧ ((rd_T114 xs i).f0 = true → 0 ≤ (rd_T114 xs i).f1 ∧ (rd_T114 xs i).f1 ≤ out.length) ∧ ((rd_T114 xs i).f0 = false → 0 ≤ (rd_T114 xs i).f2 ∧ (rd_T114 xs i).f2 ≤ out.length) ∧ (rd_T114 xs i).f3.length ≤ 1000000 := by
  have hc := chN_0 (rd_T114 xs i)
  rcases h with rfl | h
  · omega
  · rw [drop_rd h0 h1] at h
    exact ⟨h.1, h.2.1, h.2.2.1, h.2.2.2.1⟩
/-- New bytes, that none writes. -/
abbrev NV (W w' : World) (v : Value) (xs : List Int) : Prop := Kd.V k8 5 w' 0 (RO w' (Nw W w' (fun _ => False))) v xs
theorem NV.below {W w1 w2 : World} {v : Value} {xs : List Int} (h : NV W w1 v xs) (h0 : W.heap.size ≤ w1.heap.size) (hb : Below w1.heap.size w1 w2) : NV W w2 v xs := by
  have h1 := V_old (W := w1) (S := Nw W w1 (fun _ => False)) (wf := w2) h (fun k hk _ _ => hb.block k hk)
  refine Kd.V_mono h1 (fun k hk => ⟨?_, hk.2⟩)
  have hs := hb.size
  have hlt := hk.2.lt
  rcases hk.1 with (h | h) | h
  · exact h.elim
  · exact .inr ⟨h.1, hlt⟩
  · exact .inr ⟨by omega, hlt⟩
theorem NV.of_R {W w1 w2 : World} {v : Value} {xs : List Int} (h0 : W.heap.size ≤ w1.heap.size) (h : k8.R 5 w2 w1.heap.size (fun _ => True) v xs) : NV W w2 v xs := V_new (Kd.R_lower h h0) (fun _ _ _ => rfl) (Nat.le_refl _)
theorem NV.take {W w : World} {A : Option Addr} {n c m : Nat} {xs : List Int} (h : NV W w (.slice A n c) xs) (hm : m ≤ xs.length) : NV W w (.slice A m c) (xs.take m) := by
  obtain ⟨hn, hc, hF⟩ := Kd.V_at h
  have hl : (xs.take m).length = m := by rw [List.length_take]; omega
  refine ⟨A, c, by rw [hl], by rw [hl]; omega, ?_⟩
  exact Kd.F_imp hF (fun W' hC => Kd.C_take hC hm)
set_option maxHeartbeats 1000000 in
set_option maxRecDepth 100000 in
theorem after_calls {W : World} {S : Nat → Prop} {own : Nat → Nat} {b : Nat} {f : Fil} {k : Int} (h : FilAt W S own b f) (h1 : f.f1.length ≤ 1000000) (h3 : f.f3.length ≤ 1000000) (ok : ChOk f.f3 f.f1) (hk : 0 ≤ k) (hk2 : k ≤ 9223372036854775807) :
    Calls Try.prog 62 #[.pointer (some ⟨b, 0, none⟩), .int .i64 k] W fun e w' => ∃ v, e = .returned (.tuple #[v, .int .i64 (aft k f.f3 (f.f1, 0)).2]) ∧ NV W w' v (aft k f.f3 (f.f1, 0)).1 ∧ Below W.heap.size W w' := by
  obtain ⟨hSb, hob, vn, vs, vc, hh, hn, hs, hcN, hown⟩ := h
  obtain ⟨As, cs, rfl⟩ := Kd.V_slice hs
  obtain ⟨Ac, cc, rfl⟩ := Kd.N_slice hcN
  obtain ⟨R, hR⟩ : ∃ R, aft k f.f3 (f.f1, 0) = R := ⟨_, rfl⟩
  rw [hR]
  have HRR := Aside0.mk hR
  have q1 : W.cell? ⟨b, 1, none⟩ = some (.slice As f.f1.length cs) := blk_cell hh 1
  have HS := Aside0.mk hs
  have HC := Aside0.mk (Kd.N_reads' hcN).2.2
  have HH := Aside0.mk hh
  have HOK := Aside0.mk ok
  clear hh hn hs hcN hown hR ok
  go_enter Try.func62, Try.ntmps62
  go_wp2_with fail
  refine (clone8 As cs f.f1 W (Kd.V_reads' HS.out).2.2 (by omega)).mono ?_
  rintro e w1 ⟨v1, rfl, hr, hb⟩
  obtain ⟨A1, c1, rfl⟩ := Kd.R_slice hr
  have hh1 := (hb.block _ (blk_lt HH.out)).trans HH.out
  have p3 : w1.cell? ⟨b, 3, none⟩ = some (.slice Ac f.f3.length cc) := blk_cell hh1 3
  have HR := Aside0.mk (NV.of_R (Nat.le_refl _) hr)
  have HB := Aside0.mk hb
  clear hr hb hh1
  go_wp2_with fail
  go_loopg [21, 6, 7] f.f3.length (fun kq v21 v6 v7 w' => ∃ (i u : Int) (A : Option Addr) (c : Nat) (out : List Int), v21 = .int .i64 i ∧ v6 = .slice A out.length c ∧ v7 = .int .i64 u ∧ 0 ≤ i ∧ i + kq = f.f3.length ∧ 0 ≤ u ∧ u ≤ k ∧
    Aside0 (aft k (f.f3.drop i.toNat) (out, u) = R) ∧ Aside0 (u = k ∨ ChOk (f.f3.drop i.toNat) out) ∧ Aside0 (NV W w' (.slice A out.length c) out) ∧ Aside0 (Below W.heap.size W w'))
  case atStart => exact ⟨0, 0, _, _, _, rfl, rfl, rfl, by omega, by omega, by omega, by omega, ⟨HRR.out⟩, ⟨.inr HOK.out⟩, HR, HB⟩
  case round =>
    obtain ⟨i, u, A, c, out, rfl, rfl, rfl, i0, i1, u0, u1, HA, HO, HV, HBB⟩ := hrel
    by_cases h6 : i < (f.f3.length : Int)
    · have c6 : decide (i < (f.f3.length : Int)) = true := decide_eq_true h6
      have HA1 := Aside0.mk (aft_step i0 h6 HA.out)
      have HO1 := Aside0.mk (ok_step i0 h6 u1 HO.out)
      have hhd := ok_head i0 h6 HO.out
      obtain ⟨ad, A3, c3, e1, hx0, hx1, hx2, hx3, hl3, hi3⟩ := at_T114 HC.out i i0 h6
      cases e1
      generalize rd_T114 f.f3 i = ch at *
      replace hx0 := (HBB.out.cell (World.block_lt_of_cell? W _ hx0)).trans hx0
      replace hx1 := (HBB.out.cell (World.block_lt_of_cell? W _ hx1)).trans hx1
      replace hx2 := (HBB.out.cell (World.block_lt_of_cell? W _ hx2)).trans hx2
      replace hx3 := (HBB.out.cell (World.block_lt_of_cell? W _ hx3)).trans hx3
      have HI3 := Aside0.mk (Kd.C_below hi3 HBB.out)
      have p0 := eq_true i0
      have p1 := eq_true h6
      have HHD := Aside0.mk hhd
      have hsub : IntKind.i64.wrap (k - u) = k - u := IntWalk.i64_in _ ⟨by omega, by omega⟩
      have hnx : IntKind.i64.wrap (i + 1) = i + 1 := IntWalk.i64_in _ ⟨by omega, by omega⟩
      obtain ⟨c0, cs1, cs2, cl⟩ := ch
      clear hi3 hhd
      dsimp only at hx0 hx1 hx2 hx3 hl3
      cases c0 with
      | true =>
        by_cases hz : k - u = 0
        · have hm : min 1 (k - u) = 0 := by omega
          have HA2 := HA1.out
          have HO2 := HO1.out
          rw [show min (chN ⟨true, cs1, cs2, cl⟩) (k - u) = 0 from hm, Int.add_zero, ap1_zero] at HA2 HO2
          replace HA2 := Aside0.mk HA2
          replace HO2 := Aside0.mk HO2
          clear hz
          go_wp2_with fail
          go_roundg (gk - 1)
          case measure => omega
          case rel => exact ⟨i + 1, u, A, c, out, rfl, rfl, rfl, by omega, by omega, u0, u1, HA2, HO2, ⟨HV.out.below HBB.out.size (below_alloc (Below.refl _ _) _)⟩, ⟨below_alloc HBB.out _⟩⟩
        · have hm : min 1 (k - u) = 1 := by omega
          have HA2 := HA1.out
          have HO2 := HO1.out
          have hh := HHD.out (by rw [show min (chN ⟨true, cs1, cs2, cl⟩) (k - u) = 1 from hm]; decide) u1
          obtain ⟨hz0, hz1⟩ := hh.2.1 rfl
          dsimp only at hz0 hz1
          rw [show min (chN ⟨true, cs1, cs2, cl⟩) (k - u) = 1 from hm, ap1_cut] at HA2 HO2
          replace HA2 := Aside0.mk HA2
          replace HO2 := Aside0.mk HO2
          have hle := (Kd.V_at HV.out).2.1
          have hu1 : IntKind.i64.wrap (u + 1) = u + 1 := IntWalk.i64_in _ ⟨by omega, by omega⟩
          have hlt : (out.take cs1.toNat).length = cs1.toNat := by rw [List.length_take]; omega
          have HLT := Aside0.mk hlt
          have HZ := Aside0.mk (show cs1.toNat ≤ out.length by omega)
          have hz2 : cs1 ≤ (c : Int) := by omega
          have p2 := eq_true hz0
          have p3 := eq_true hz2
          clear hz hh hlt
          go_wp2_with fail
          go_roundg (gk - 1)
          case measure => omega
          case rel => exact ⟨i + 1, u + 1, A, c, out.take cs1.toNat, rfl, by rw [HLT.out], rfl, by omega, by omega, by omega, by omega, HA2, HO2, ⟨by rw [HLT.out]; exact (HV.out.below HBB.out.size (below_alloc (Below.refl _ _) _)).take HZ.out⟩, ⟨below_alloc HBB.out _⟩⟩
      | false =>
        obtain ⟨m, hm⟩ : ∃ m : Nat, min (cl.length : Int) (k - u) = m := ⟨(min (cl.length : Int) (k - u)).toNat, by omega⟩
        have HA2 := HA1.out
        have HO2 := HO1.out
        rw [show min (chN ⟨false, cs1, cs2, cl⟩) (k - u) = m from hm] at HA2 HO2
        by_cases hz : m = 0
        · subst hz
          rw [show u + ((0 : Nat) : Int) = u from Int.add_zero u, show ap1 ⟨false, cs1, cs2, cl⟩ out ((0 : Nat) : Int) = out from ap1_zero _ _] at HA2 HO2
          replace HA2 := Aside0.mk HA2
          replace HO2 := Aside0.mk HO2
          replace hm : min (cl.length : Int) (k - u) = 0 := hm
          go_wp2_with fail
          go_roundg (gk - 1)
          case measure => omega
          case rel => exact ⟨i + 1, u, A, c, out, rfl, rfl, rfl, by omega, by omega, u0, u1, HA2, HO2, ⟨HV.out.below HBB.out.size (below_alloc (Below.refl _ _) _)⟩, ⟨below_alloc HBB.out _⟩⟩
        · have hh := HHD.out (by rw [show min (chN ⟨false, cs1, cs2, cl⟩) (k - u) = m from hm]; omega) u1
          obtain ⟨hz0, hz1⟩ := hh.2.2.1 rfl
          rw [ap1_lay _ _ _ _ hz] at HA2 HO2
          replace HA2 := Aside0.mk HA2
          replace HO2 := Aside0.mk HO2
          have hmc : (m : Int) ≤ cl.length := by omega
          have hu1 : IntKind.i64.wrap (u + m) = u + m := IntWalk.i64_in _ ⟨by omega, by omega⟩
          have hlt : (cl.take m).length = m := by rw [List.length_take]; omega
          have hz2 : (m : Int) ≤ (c3 : Int) := by omega
          have p2 : (0 ≤ (m : Int)) = True := eq_true (by omega)
          have p3 := eq_true hz2
          have hmd : decide ((m : Int) = 0) = false := decide_eq_false (by omega)
          have hne : ((m : Int) = 0) = False := eq_false (by omega)
          dsimp only at hz0 hz1
          have q2 : (wr.alloc (.cells #[.bool false, .int .i64 cs1, .int .i64 cs2, .slice A3 cl.length c3] 114)).cell? ⟨wr.heap.size, 2, none⟩ = some (.int .i64 cs2) := blk_cell (blk_new wr _) 2
          have q3 : (wr.alloc (.cells #[.bool false, .int .i64 cs1, .int .i64 cs2, .slice A3 cl.length c3] 114)).cell? ⟨wr.heap.size, 3, none⟩ = some (.slice A3 cl.length c3) := blk_cell (blk_new wr _) 3
          have hcl : ∀ W', Below (wr.alloc (.cells #[.bool false, .int .i64 cs1, .int .i64 cs2, .slice A3 cl.length c3] 114)).heap.size (wr.alloc (.cells #[.bool false, .int .i64 cs1, .int .i64 cs2, .slice A3 cl.length c3] 114)) W' → Calls Try.prog 58 #[.slice A out.length c, .int .i64 cs2, .slice A3 m c3] W' fun e w' => ∃ A1 c1, e = .returned (.slice A1 (layL out cs2.toNat (cl.take m)).length c1) ∧ w'.cell? ⟨wr.heap.size, 2, none⟩ = some (.int .i64 cs2) ∧ w'.cell? ⟨wr.heap.size, 3, none⟩ = some (.slice A3 cl.length c3) ∧
              Aside0 (NV W w' (.slice A1 (layL out cs2.toNat (cl.take m)).length c1) (layL out cs2.toNat (cl.take m)) ∧ Below W.heap.size W w') := fun W' hWa => by
            have hW := below_step (below_alloc (Below.refl _ _) _) hWa
            have hV := HV.out.below HBB.out.size hW
            have hC3 := Kd.C_take (Kd.C_below HI3.out hW) (show m ≤ cl.length by omega)
            have hca := lay_calls A c out cs2 A3 c3 (cl.take m) W' (Kd.V_at hV).2.2.now hC3 (by rw [hlt]; omega) hz0 hz1 (by rw [hlt]; have h4 := hh.1; have h5 := hh.2.2.2; dsimp only at h5; omega)
            rw [hlt] at hca
            refine hca.mono ?_
            rintro e w' ⟨v1, rfl, hr, hb⟩
            obtain ⟨A1, c1, rfl⟩ := Kd.R_slice hr
            have hb2 := below_step hWa hb
            exact ⟨A1, c1, rfl, (hb2.cell (World.block_lt_of_cell? _ _ q2)).trans q2, (hb2.cell (World.block_lt_of_cell? _ _ q3)).trans q3, ⟨NV.of_R (by have := HBB.out.size; have := hW.size; omega) hr, below_step (below_step HBB.out hW) hb⟩⟩
          have HCL := Aside0.mk hcl
          clear hcl hh
          go_wp2_with fail
          go_region_held3 (fun w' => w'.cell? ⟨wr.heap.size, 2, none⟩ = some (.int .i64 cs2) ∧ w'.cell? ⟨wr.heap.size, 3, none⟩ = some (.slice A3 cl.length c3)) (first | (exact ⟨q2, q3⟩) | go_keep)
            ((go_at_call 58; refine (HCL.out _ (below_drew1 (Below.refl _ _))).mono ?_; rintro e w2 ⟨A2, c2, rfl, hq1, hq2, hx⟩; have hq := And.intro hq1 hq2))
          all_goals
            go_wp2_with fail
            go_roundg (gk - 1)
            case measure => omega
            case rel => exact ⟨i + 1, u + m, A2, c2, _, rfl, rfl, rfl, by omega, by omega, by omega, by omega, HA2, HO2, ⟨hx.out.1⟩, ⟨hx.out.2⟩⟩
    · have c6 : decide (i < (f.f3.length : Int)) = false := decide_eq_false h6
      have hR := HA.out
      rw [List.drop_eq_nil_of_le (by omega)] at hR
      have e1 : (out, u) = R := hR
      subst e1
      clear hR
      go_wp2
      exact bodyPost_ret (v := .tuple #[.slice A out.length c, .int .i64 u]) (by simp [results, Try.results62, go_sem]) rfl ⟨_, rfl, HV.out, HBB.out⟩
end Go.Proofs.Ytmmiipnmimjojaa.PS
end
section
namespace Go.Proofs.Ytmmiipnmimjojaa.PS
open Go.RowKit Go.Proofs.YtmmiipnmimjojaaW.PrintWords Go.Proofs.YtmmiipnmimjojaaW.PrintLast Go.Proofs.YtmmiipnmimjojaaW.PrintMore
open Go.Maps Go.Proofs.Ytmmiipnmimjojaa.PD
set_option linter.unusedVariables false
set_option linter.unusedSimpArgs false
def kOf (keep : List Int) (i : Nat) : Int := if i < keep.length then max 0 (keep.getD i 0) else 0
def crF (f : Fil) (k : Int) : Option Fil := if f.f2 = false ∧ (aft k f.f3 (f.f1, 0)).2 = 0 then none else some ⟨(aft k f.f3 (f.f1, 0)).1, (aft k f.f3 (f.f1, 0)).1, true, []⟩
def crL (keep : List Int) : Nat → List (Nm × Fil) → List (Nm × Fil)
  | _, [] => []
  | i, (n, f) :: l => match crF f (kOf keep i) with
    | none => crL keep (i + 1) l
    | some f' => (n, f') :: crL keep (i + 1) l
def dCrash (D : Dsk) (keep : List Int) : Dsk := ⟨D.room, crL keep 0 D.files⟩
/-- What a crash asks of a disk. -/
def DskCk (D : Dsk) : Prop := ∀ p ∈ D.files, p.1.length ≤ 64 ∧ ChOk p.2.f3 p.2.f1
section
variable {α : Type} {n : Nm} {x y : α} {l r : List (Nm × α)}
theorem srt_mid (h : Srt (l ++ (n, x) :: r)) : (∀ p ∈ l, p.1 ≠ n) ∧ ∀ p ∈ r, p.1 ≠ n := by
  obtain ⟨_, h2, h3⟩ := List.pairwise_append.1 h
  obtain ⟨h4, _⟩ := List.pairwise_cons.1 h2
  exact ⟨fun p hp => nlt_ne (h3 p hp _ (.head _)), fun p hp e => nlt_ne (h4 p hp) e.symm⟩
theorem aget_mid (h : Srt (l ++ (n, x) :: r)) : aget n (l ++ (n, x) :: r) = some x := aget_of_mem h (List.mem_append_right _ (.head _))
theorem adel_mid (h : Srt (l ++ (n, x) :: r)) : adel n (l ++ (n, x) :: r) = l ++ r := by
  obtain ⟨h1, h2⟩ := srt_mid h
  have e1 : adel n l = l := adel_none (aget_none.2 h1)
  have e2 : adel n r = r := adel_none (aget_none.2 h2)
  unfold adel at *
  rw [List.filter_append, List.filter_cons, e1, e2]
  simp
theorem aput_mid (h : Srt (l ++ (n, x) :: r)) : aput n y (l ++ (n, x) :: r) = l ++ (n, y) :: r := by
  obtain ⟨h1, h2⟩ := srt_mid h
  have hs : Srt (l ++ (n, y) :: r) := srt_keys h (by simp)
  refine srt_ext (aput_srt h) hs (fun p => ?_)
  rw [aput_mem h]
  simp only [List.mem_append, List.mem_cons]
  constructor
  · rintro (rfl | ⟨hp | rfl | hp, hne⟩)
    · exact .inr (.inl rfl)
    · exact .inl hp
    · exact absurd rfl hne
    · exact .inr (.inr hp)
  · rintro (hp | rfl | hp)
    · exact .inr ⟨.inl hp, h1 p hp⟩
    · exact .inl rfl
    · exact .inr ⟨.inr (.inr hp), h2 p hp⟩
end
theorem aft_len (k : Int) : ∀ (cs : List S114) (out : List Int) (u : Int), u ≤ k → out.length ≤ 2000000 → (u = k ∨ ChOk cs out) → (aft k cs (out, u)).1.length ≤ 2000000
  | [], out, u, _, hl, _ => hl
  | c :: cs, out, u, hu, hl, h => by
    have hc := chN_0 c
    have hm : u + min (chN c) (k - u) ≤ k := by omega
    refine aft_len k cs _ _ hm ?_ ?_
    · show (ap1 c out (min (chN c) (k - u))).length ≤ 2000000
      rcases h with rfl | h
      · rw [show min (chN c) (u - u) = 0 by omega, ap1_zero]; exact hl
      · obtain ⟨a1, a2, a3, a4, a5⟩ := h
        unfold ap1
        split
        · exact hl
        · split
          · rw [List.length_take]; omega
          · next h0 => 
            have := a3 (by simpa using h0)
            rw [layL_len _ _ _ (by omega), List.length_take]; omega
    · show u + min (chN c) (k - u) = k ∨ ChOk cs (ap1 c out (min (chN c) (k - u)))
      rcases h with rfl | h
      · exact .inl (by omega)
      · by_cases hh : chN c ≤ k - u
        · rw [Int.min_eq_left hh]; exact .inr h.2.2.2.2
        · exact .inl (by omega)
/-- Two steps are one. -/
theorem chain {W w1 w2 : World} {S : Nat → Prop} {d : Nat} {D : Dsk} (k : Kp W w1 (WR W S)) (h : Kp w1 w2 (WR w1 (Nw W w1 S)) ∧ DskAt w2 (Nw w1 w2 (Nw W w1 S)) d D) : Kp W w2 (WR W S) ∧ DskAt w2 (Nw W w2 S) d D := by
  have s1 := k.size
  have s2 := h.1.size
  refine ⟨k.trans h.1 (fun i hi hx => ?_), h.2.mono fun i _ hx => ?_⟩
  · obtain ⟨h1, h2⟩ := hx
    refine ⟨h1.elim id (fun h => by omega), fun hu => h2 (hu.of_same (k.block i hi (fun hw => hw.2 hu)))⟩
  · rcases hx with (hx | hx) | hx
    · exact .inl hx
    · exact .inr ⟨hx.1, by omega⟩
    · exact .inr ⟨by omega, hx.2⟩
theorem R_str_keep {W wf : World} {base : Nat} {v : Value} {xs : List ByteArray} {P : Nat → Prop} (hR : Kd.R Kd.string 9 W base (fun _ => True) v xs) (k : Kp W wf P) (hP : ∀ x cs, P x → W.heap[x]? ≠ some (.cells cs 9 (0, 0))) : Kd.R Kd.string 9 wf base (fun _ => True) v xs :=
  Kd.R_mono (Kd.R_step (Kd.R_tight rfl hR) (fun x hx hlt => k.block x hlt (fun hp => by
    obtain ⟨cs, hc⟩ := Kd.R_typed hR x hx.symm
    exact hP x cs hp hc))) (fun _ _ => trivial)
theorem crash_set {W w2 w3 wf : World} {S : Nat → Prop} {d m : Nat} {own : Nat → Nat} {T : Tb} {room : Int} {n : Nm} {b : Nat} {f : Fil} {vn vs vc v8 v1 : Value} {out : List Int} (h : DskIn W S d m own T room) (hm : (n, b, f) ∈ T)
    (hh : W.heap[b]? = some (.cells #[vn, vs, .bool f.f2, vc] 110 (0, 0))) (hc : ∀ k, vc.ownBlock = some k → own k = b ∧ ∃ cs, W.heap[k]? = some (.cells cs 114 (0, 0)))
    (hb2 : Below W.heap.size W w2) (h8 : NV W w2 v8 out) (hb3 : Below w2.heap.size w2 w3) (hr : k8.R 5 w3 w2.heap.size (fun _ => True) v1 out) (hf : wf.heap[b]? = some (.cells #[v8, v1, .bool true, .slice none 0 0] 110 (0, 0))) (ho : OnlyB w3 wf b) :
    Kp W wf (WR W S) ∧ DskIn wf (Nw W wf S) d m (ownN W own b) (aput n (b, ⟨out, out, true, []⟩) T) room := by
  have hfl := h.2.2.2.2.2.1 _ _ _ hm
  have hb := below_step hb2 hb3
  have k1 := ho.kp hb
  have hbl := blk_lt hh
  have s2 := hb2.size
  have s3 := hb3.size
  have sf := ho.size
  refine ⟨k1.mono (fun k e => by rw [e]; exact wr_b hfl), h.turn hm hh hc (k1.mono fun k e => .inl e) ?_⟩
  refine ⟨.inl hfl.1, by unfold ownN; rw [if_pos hbl]; exact hfl.2.1, _, _, _, hf, ?_, ?_, Kd.N_nil _ _ _ _ _, fun k hk => by cases hk⟩
  · have h9 : NV W w3 v8 out := h8.below s2 hb3
    have h10 := V_old (W := w3) (S := Nw W w3 (fun _ => False)) (wf := wf) h9 (fun k hk hS hu => ho.block k (fun e => by
      have hhb := (hb.block b hbl).trans hh
      rw [e] at hu; exact U8.ne hhb (by decide) hu))
    refine Kd.V_mono h10 (fun k hk => ⟨?_, hk.2⟩)
    rcases hk.1 with (h | h) | h
    · exact h.elim
    · exact .inr ⟨h.1, by omega⟩
    · exact .inr ⟨by omega, h.2⟩
  · exact V_new (Kd.R_lower hr s2) (fun k h1 h2 => ho.block k (by omega)) (by omega)
theorem crash_del {W w2 w6 : World} {S : Nat → Prop} {d m : Nat} {own : Nat → Nat} {T : Tb} {room : Int} {s : ByteArray} {j : Nat} (h : DskIn W S d m own T room) (hb2 : Below W.heap.size W w2)
    (hm6 : w6.ownsMap Try.prog 9 ptrElem m j ((dOf (tblk T)).del (.string s.data.toList))) (k6 : Kp w2 w6 (fun k => k = m)) :
    Kp W w6 (WR W S) ∧ DskIn w6 (Nw W w6 S) d m own (adel s.data.toList T) room := by
  have hk : Kp W w6 (fun k => k = m) := (Kp.of_below hb2 (fun k => k = m)).trans k6 (fun _ _ h => h)
  exact ⟨hk.mono (fun k e => by rw [e]; exact wr_m h), h.map_turn hk (by rw [tblk_del]; exact Tbl.del_of hm6) (adel_srt h.2.2.2.2.1) (fun n b f hx => ⟨n, (adel_mem.1 hx).1⟩) (nodup_del h.2.2.2.2.2.2)⟩
theorem dskAt_srt {W : World} {S : Nat → Prop} {d : Nat} {D : Dsk} (h : DskAt W S d D) : Srt D.files := by
  obtain ⟨m, own, T, hin, hD⟩ := h
  rw [← hD]
  exact srt_map _ hin.2.2.2.2.1
theorem kOf_in {keep : List Int} {i : Int} (h0 : 0 ≤ i) (h : i < (keep.length : Int)) : kOf keep i.toNat = max 0 (keep.getD i.toNat 0) := by unfold kOf; rw [if_pos (by omega)]
theorem kOf_out {keep : List Int} {i : Int} (h : ¬ i < (keep.length : Int)) : kOf keep i.toNat = 0 := by unfold kOf; rw [if_neg (by omega)]
theorem names_drop {l : List (Nm × Fil)} {i : Int} {n : Nm} {f : Fil} {r : List (Nm × Fil)} (h0 : 0 ≤ i) (h : l.drop i.toNat = (n, f) :: r) : (namesB l).getD i.toNat default = str n ∧ l.drop (i + 1).toNat = r ∧ (n, f) ∈ l := by
  have hl : i.toNat < l.length := by
    by_cases hh : i.toNat < l.length
    · exact hh
    · rw [List.drop_eq_nil_of_le (by omega)] at h; cases h
  rw [List.drop_eq_getElem_cons hl] at h
  injection h with h1 h2
  refine ⟨?_, by rw [show (i + 1).toNat = i.toNat + 1 by omega]; exact h2, h1 ▸ List.getElem_mem hl⟩
  unfold namesB
  rw [List.getD_eq_getElem?_getD, List.getElem?_map, List.getElem?_eq_getElem hl, h1]
  rfl
set_option maxHeartbeats 1000000 in
set_option maxRecDepth 100000 in
theorem crash_calls {W : World} {S : Nat → Prop} {d : Nat} {D : Dsk} {Ak : Option Addr} {ck : Nat} {keep : List Int} (h : DskAt W S d D) (ok : DskOk D) (hck : DskCk D) (hk : (Kd.int .i64).C W Ak keep.length keep)
    (hK : ∀ ad, Ak = some ad → 0 < keep.length → ¬ WR W S ad.block) (hkb : ∀ z ∈ keep, z ≤ 9223372036854775807) :
    Calls Try.prog 22 #[.pointer (some ⟨d, 0, none⟩), .slice Ak keep.length ck] W fun e w' => e = .returned (.tuple #[]) ∧ Kp W w' (WR W S) ∧ DskAt w' (Nw W w' S) d (dCrash D keep) := by
  have H := Aside0.mk h
  have HOK := Aside0.mk ok
  have HCK := Aside0.mk hck
  have HKC := Aside0.mk hk
  have HKA := Aside0.mk hK
  have HKB := Aside0.mk hkb
  clear h ok hck hk hK hkb
  go_enter Try.func22, Try.ntmps22
  go_wp2_with fail
  refine (names_calls H.out (by have := HOK.out.2.1; omega)).mono ?_
  rintro e w1 ⟨v, rfl, hr, hb⟩
  obtain ⟨An, cn, rfl⟩ := Kd.R_slice hr
  have hnl : (namesB D.files).length = D.files.length := by unfold namesB; rw [List.length_map]
  rw [hnl] at hr ⊢
  have HN := Aside0.mk hr
  have HB := Aside0.mk hb
  have HL := Aside0.mk (show D.files.length ≤ 100 from HOK.out.2.1)
  clear hr hb
  go_wp2_with fail
  go_loopg [13] D.files.length (fun kq v13 w' => ∃ (i : Int) (done : List (Nm × Fil)), v13 = .int .i64 i ∧ 0 ≤ i ∧ i + kq = D.files.length ∧
    Aside0 (done ++ crL keep i.toNat (D.files.drop i.toNat) = crL keep 0 D.files) ∧ Aside0 (Kp W w' (WR W S) ∧ DskAt w' (Nw W w' S) d ⟨D.room, done ++ D.files.drop i.toNat⟩) ∧ Aside0 (Kd.R Kd.string 9 w' W.heap.size (fun _ => True) (.slice An D.files.length cn) (namesB D.files)))
  case atStart => exact ⟨0, [], rfl, by omega, by omega, ⟨rfl⟩, ⟨Kp.of_below HB.out _, (H.out.below HB.out).mono (fun _ _ h => .inl h)⟩, HN⟩
  case round =>
    obtain ⟨i, done, rfl, i0, i1, HD, HS, HNN⟩ := hrel
    by_cases h6 : i < (D.files.length : Int)
    · have c6 : decide (i < (D.files.length : Int)) = true := decide_eq_true h6
      obtain ⟨n, f, r, hdrop⟩ : ∃ n f r, D.files.drop i.toNat = (n, f) :: r := ⟨_, _, _, List.drop_eq_getElem_cons (by omega)⟩
      obtain ⟨hnm, hdr, hmem⟩ := names_drop i0 hdrop
      rw [hdrop] at HD HS
      have hsz : (str n).size ≤ maxLen := by
        have : n.length ≤ 64 := (HCK.out _ hmem).1
        show n.toArray.size ≤ maxLen
        unfold maxLen
        simp; omega
      obtain ⟨m, own, T, hin, hDf, hg⟩ := HS.out.2.in_ (str n).data.toList
      have hsrt := dskAt_srt HS.out.2
      have hag : aget (str n).data.toList (done ++ (n, f) :: r) = some f := aget_mid hsrt
      obtain ⟨g, hgT⟩ := tb_some (hg.symm.trans hag)
      have hfil := hin.2.2.2.2.2.1 _ _ _ (aget_mem hgT)
      have hcf := (HCK.out _ hmem).2
      have hff := HOK.out.2.2 _ hmem
      obtain ⟨ad, c, e1, _, hcs, hx0⟩ := Kd.C_get (Kd.R_reads' HNN.out).2.2 default i i0 (by rw [hnl]; exact h6)
      cases e1
      rw [show c = [.string ((namesB D.files).getD i.toNat default)] from hcs, hnm] at hx0
      have hx : wr.cell? (ad.add i.toNat) = some (.string (str n)) := by have := hx0 0 _ rfl; rwa [Nat.add_zero, show i.toNat * Kd.string.sz = i.toNat from Nat.mul_one _] at this
      have hlk := hin.2.2.2.1.look1 (str n) hsz g (by rw [hin.get, hgT]; rfl)
      have hc1 : wr.cell? ⟨d, 1, none⟩ = some (.map (some m)) := blk_cell hin.2.2.1 1
      have HX := Aside0.mk hin
      have HFI := Aside0.mk hfil
      have HGT := Aside0.mk (aget_mem hgT)
      have HCF := Aside0.mk hcf
      have HFF := Aside0.mk hff
      have HDF := Aside0.mk hDf
      have HSR := Aside0.mk hsrt
      have HDR := Aside0.mk hdr
      have p0 := eq_true i0
      have p1 := eq_true h6
      have hnx : IntKind.i64.wrap (i + 1) = i + 1 := IntWalk.i64_in _ ⟨by omega, by have := HL.out; omega⟩
      obtain ⟨K, hK⟩ : ∃ K, kOf keep i.toNat = K := ⟨_, rfl⟩
      have HKK := Aside0.mk hK
      clear hin hfil hgT hg hag hcf hff hDf hsrt hdr hmem hnm hx0 hcs hdrop
      by_cases hki : i < (keep.length : Int)
      · have c7 : decide (i < (keep.length : Int)) = true := decide_eq_true hki
        have hK1 := hK.symm.trans (kOf_in i0 hki)
        obtain ⟨adk, ckk, ek, _, hcs, hx0⟩ := Kd.C_get HKC.out 0 i i0 hki
        subst ek
        have hz := HKB.out (keep.getD i.toNat 0) (by rw [List.getD_eq_getElem?_getD, List.getElem?_eq_getElem (by omega)]; exact List.getElem_mem _)
        rw [show ckk = [.int .i64 (keep.getD i.toNat 0)] from hcs] at hx0
        obtain ⟨z, hzz⟩ : ∃ z, keep.getD i.toNat 0 = z := ⟨_, rfl⟩
        rw [hzz] at hx0 hz hK1
        have hxk : W.cell? (adk.add i.toNat) = some (.int .i64 z) := by have := hx0 0 _ rfl; rwa [Nat.add_zero, show i.toNat * (Kd.int .i64).sz = i.toNat from Nat.mul_one _] at this
        have hxk2 : wr.cell? (adk.add i.toNat) = some (.int .i64 z) := (HS.out.1.cell (World.block_lt_of_cell? W _ hxk) (by rw [add_block]; exact HKA.out adk rfl (by omega))).trans hxk
        have hmx : max 0 z = K := hK1.symm
        have hK0 : 0 ≤ K := by omega
        have hK2 : K ≤ 9223372036854775807 := by omega
        have p2 := eq_true hki
        clear hx0 hcs hxk hK hK1 hz hzz
        go_wp2_with fail
        refine (after_calls HFI.out HFF.out.2.1 HFF.out.2.2.1 HCF.out (by omega) (by omega)).mono ?_
        rintro e w2 ⟨v8, rfl, h8, hb2⟩
        obtain ⟨out, hout⟩ : ∃ out, (aft K f.f3 (f.f1, 0)).1 = out := ⟨_, rfl⟩
        obtain ⟨un, hun⟩ : ∃ un, (aft K f.f3 (f.f1, 0)).2 = un := ⟨_, rfl⟩
        have hol := aft_len K f.f3 f.f1 0 (by omega) (by have := HFF.out.2.1; omega) (.inr HCF.out)
        rw [hout] at h8 hol
        rw [hun]
        have hcr : crF f (kOf keep i.toNat) = if f.f2 = false ∧ un = 0 then none else some ⟨out, out, true, []⟩ := by rw [HKK.out]; unfold crF; rw [hout, hun]
        obtain ⟨A8, c8, rfl⟩ := Kd.V_slice h8
        obtain ⟨hSb, hob, vn, vs, vc, hh, hn, hs, hcN, hown⟩ := HFI.out
        have hh2 := (hb2.block _ (blk_lt hh)).trans hh
        have g2 : w2.cell? ⟨g, 2, none⟩ = some (.bool f.f2) := blk_cell hh2 2
        have hd2 : w2.heap[d]? = some (.cells #[.int .i64 D.room, .map (some m)] 105 (0, 0)) := (hb2.block _ (blk_lt HX.out.2.2.1)).trans HX.out.2.2.1
        have hdc : w2.cell? ⟨d, 1, none⟩ = some (.map (some m)) := blk_cell hd2 1
        have H8 := Aside0.mk h8
        have HB2 := Aside0.mk hb2
        have HOL := Aside0.mk hol
        have HCR := Aside0.mk hcr
        have HH := Aside0.mk hh
        have HOW := Aside0.mk hown
        have HCN := Aside0.mk hcN
        clear h8 hb2 hout hun hol hcr hh hn hs hcN hown hlk hc1 hd2
        by_cases hdel : f.f2 = false ∧ un = 0
        · obtain ⟨hf2, rfl⟩ := hdel
          have htb2 : w2.ownsMap Try.prog 9 ptrElem m (tblk T).length (dOf (tblk T)) := by
            obtain ⟨es, cl, hmm⟩ := HX.out.2.2.2.1.map
            exact HX.out.2.2.2.1.step (HB2.out.block m (blk_lt hmm))
          obtain ⟨w6, hrun, hm6, htn⟩ := World.ownsMap.drop htb2 law9 Try.underlying103 (key_str (str n) hsz) 0
          have k6 := Kp.turned htn
          have hdl := crash_del HX.out HB2.out hm6 k6
          have hnext := chain HS.out.1 (D := ⟨D.room, done ++ r⟩) ⟨hdl.1, m, own, _, hdl.2, by rw [tfil_del, HDF.out]; exact adel_mid HSR.out⟩
          have hnames : Kd.R Kd.string 9 w6 W.heap.size (fun _ => True) (.slice (some ad) D.files.length cn) (namesB D.files) :=
            R_str_keep (Kd.R_below HNN.out HB2.out) k6 (fun x cs e hx => by
              obtain ⟨es, cl, hmm⟩ := HX.out.2.2.2.1.map
              rw [e, HB2.out.block m (blk_lt hmm), hmm] at hx
              cases hx)
          have HNX := Aside0.mk hnext
          have HNM := Aside0.mk hnames
          rw [hf2] at g2
          have HF2 := Aside0.mk hf2
          clear htb2 hm6 htn k6 hdl hnext hnames hf2
          go_wp2_with fail
          go_roundg (gk - 1)
          case measure => omega
          case rel =>
            refine ⟨i + 1, done, rfl, by omega, by omega, ⟨?_⟩, ⟨?_⟩, HNM⟩
            · rw [HDR.out, show (i + 1).toNat = i.toNat + 1 by omega]
              have h := HD.out
              rw [show crL keep i.toNat ((n, f) :: r) = match crF f (kOf keep i.toNat) with | none => crL keep (i.toNat + 1) r | some f' => (n, f') :: crL keep (i.toNat + 1) r from rfl, HCR.out, if_pos ⟨HF2.out, by simp⟩] at h
              exact h
            · rw [HDR.out]; exact HNX.out
        · have HND := Aside0.mk hdel
          have hgo : f.f2 = true ∨ (f.f2 = false ∧ decide (un = 0) = false ∧ ¬ un = 0) := by
            cases h2 : f.f2
            · exact .inr ⟨rfl, decide_eq_false (fun e => hdel ⟨h2, e⟩), fun e => hdel ⟨h2, e⟩⟩
            · exact .inl rfl
          clear hdel
          rcases hgo with hf2 | ⟨hf2, hu0, hu1⟩
          all_goals
            rw [hf2] at g2
            clear hf2
            go_wp2_with fail
            refine (clone8 A8 c8 out w2 (Kd.V_reads' H8.out).2.2 (by have := HOL.out; omega)).mono ?_
            rintro e w3 ⟨v9, rfl, hr9, hb3⟩
            obtain ⟨A9, c9, rfl⟩ := Kd.R_slice hr9
            have hh3 : w3.heap[g]? = some (.cells #[vn, vs, .bool f.f2, vc] 110 (0, 0)) := (hb3.block _ (by have := (HB2.out).size; have := blk_lt HH.out; omega)).trans ((HB2.out.block _ (blk_lt HH.out)).trans HH.out)
            have t0 : w3.cell? ⟨g, 0, none⟩ = some vn := blk_cell hh3 0
            have t1 : w3.cell? ⟨g, 1, none⟩ = some vs := blk_cell hh3 1
            have t2 : w3.cell? ⟨g, 2, none⟩ = some (.bool f.f2) := blk_cell hh3 2
            have t3 : w3.cell? ⟨g, 3, none⟩ = some vc := blk_cell hh3 3
            have z0 := blk_frozen hh3 0
            have z1 := blk_frozen hh3 1
            have z2 := blk_frozen hh3 2
            have z3 := blk_frozen hh3 3
            have HR9 := Aside0.mk hr9
            have HB3 := Aside0.mk hb3
            have HH3 := Aside0.mk hh3
            clear hr9 hb3 hh3 g2 hdc
            go_wp2_with fail
            go_roundg (gk - 1)
            case measure => omega
            case rel =>
              have ho := ((((OnlyB.refl w3 g).set 0 (.slice A8 out.length c8)).set 1 (.slice A9 out.length c9)).set 2 (.bool true)).set 3 (.slice none 0 0)
              have hst := crash_set HX.out HGT.out HH.out (fun k hk => ⟨(HOW.out k hk).2, Kd.N_typed HCN.out k hk⟩) HB2.out H8.out HB3.out HR9.out (blk_set (blk_set (blk_set (blk_set HH3.out 0 _) 1 _) 2 _) 3 _) ho
              have hnext := chain HS.out.1 (D := ⟨D.room, (done ++ [(n, ⟨out, out, true, []⟩)]) ++ r⟩) ⟨hst.1, m, _, _, hst.2, by rw [tfil_put, HDF.out]; exact (aput_mid HSR.out).trans (by simp)⟩
              refine ⟨i + 1, done ++ [(n, ⟨out, out, true, []⟩)], rfl, by omega, by omega, ⟨?_⟩, ⟨?_⟩, ⟨?_⟩⟩
              · rw [HDR.out, show (i + 1).toNat = i.toNat + 1 by omega]
                have h := HD.out
                rw [show crL keep i.toNat ((n, f) :: r) = match crF f (kOf keep i.toNat) with | none => crL keep (i.toNat + 1) r | some f' => (n, f') :: crL keep (i.toNat + 1) r from rfl, HCR.out, if_neg HND.out] at h
                rw [List.append_assoc]
                exact h
              · rw [HDR.out]; exact hnext
              · exact R_str_keep (Kd.R_below (Kd.R_below HNN.out HB2.out) HB3.out) (ho.kp (Below.refl _ _)) (fun x cs e hx => by
                  rw [e, HH3.out] at hx
                  cases hx)
      · have c7 : decide (i < (keep.length : Int)) = false := decide_eq_false hki
        have hK0 : K = 0 := hK.symm.trans (kOf_out hki)
        subst hK0
        clear hK
        go_wp2_with fail
        refine (after_calls HFI.out HFF.out.2.1 HFF.out.2.2.1 HCF.out (by omega) (by omega)).mono ?_
        rintro e w2 ⟨v8, rfl, h8, hb2⟩
        obtain ⟨out, hout⟩ : ∃ out, (aft 0 f.f3 (f.f1, 0)).1 = out := ⟨_, rfl⟩
        obtain ⟨un, hun⟩ : ∃ un, (aft 0 f.f3 (f.f1, 0)).2 = un := ⟨_, rfl⟩
        have hol := aft_len 0 f.f3 f.f1 0 (by omega) (by have := HFF.out.2.1; omega) (.inr HCF.out)
        rw [hout] at h8 hol
        rw [hun]
        have hcr : crF f (kOf keep i.toNat) = if f.f2 = false ∧ un = 0 then none else some ⟨out, out, true, []⟩ := by rw [HKK.out]; unfold crF; rw [hout, hun]
        obtain ⟨A8, c8, rfl⟩ := Kd.V_slice h8
        obtain ⟨hSb, hob, vn, vs, vc, hh, hn, hs, hcN, hown⟩ := HFI.out
        have hh2 := (hb2.block _ (blk_lt hh)).trans hh
        have g2 : w2.cell? ⟨g, 2, none⟩ = some (.bool f.f2) := blk_cell hh2 2
        have hd2 : w2.heap[d]? = some (.cells #[.int .i64 D.room, .map (some m)] 105 (0, 0)) := (hb2.block _ (blk_lt HX.out.2.2.1)).trans HX.out.2.2.1
        have hdc : w2.cell? ⟨d, 1, none⟩ = some (.map (some m)) := blk_cell hd2 1
        have H8 := Aside0.mk h8
        have HB2 := Aside0.mk hb2
        have HOL := Aside0.mk hol
        have HCR := Aside0.mk hcr
        have HH := Aside0.mk hh
        have HOW := Aside0.mk hown
        have HCN := Aside0.mk hcN
        clear h8 hb2 hout hun hol hcr hh hn hs hcN hown hlk hc1 hd2
        by_cases hdel : f.f2 = false ∧ un = 0
        · obtain ⟨hf2, rfl⟩ := hdel
          have htb2 : w2.ownsMap Try.prog 9 ptrElem m (tblk T).length (dOf (tblk T)) := by
            obtain ⟨es, cl, hmm⟩ := HX.out.2.2.2.1.map
            exact HX.out.2.2.2.1.step (HB2.out.block m (blk_lt hmm))
          obtain ⟨w6, hrun, hm6, htn⟩ := World.ownsMap.drop htb2 law9 Try.underlying103 (key_str (str n) hsz) 0
          have k6 := Kp.turned htn
          have hdl := crash_del HX.out HB2.out hm6 k6
          have hnext := chain HS.out.1 (D := ⟨D.room, done ++ r⟩) ⟨hdl.1, m, own, _, hdl.2, by rw [tfil_del, HDF.out]; exact adel_mid HSR.out⟩
          have hnames : Kd.R Kd.string 9 w6 W.heap.size (fun _ => True) (.slice (some ad) D.files.length cn) (namesB D.files) :=
            R_str_keep (Kd.R_below HNN.out HB2.out) k6 (fun x cs e hx => by
              obtain ⟨es, cl, hmm⟩ := HX.out.2.2.2.1.map
              rw [e, HB2.out.block m (blk_lt hmm), hmm] at hx
              cases hx)
          have HNX := Aside0.mk hnext
          have HNM := Aside0.mk hnames
          rw [hf2] at g2
          have HF2 := Aside0.mk hf2
          clear htb2 hm6 htn k6 hdl hnext hnames hf2
          go_wp2_with fail
          go_roundg (gk - 1)
          case measure => omega
          case rel =>
            refine ⟨i + 1, done, rfl, by omega, by omega, ⟨?_⟩, ⟨?_⟩, HNM⟩
            · rw [HDR.out, show (i + 1).toNat = i.toNat + 1 by omega]
              have h := HD.out
              rw [show crL keep i.toNat ((n, f) :: r) = match crF f (kOf keep i.toNat) with | none => crL keep (i.toNat + 1) r | some f' => (n, f') :: crL keep (i.toNat + 1) r from rfl, HCR.out, if_pos ⟨HF2.out, by simp⟩] at h
              exact h
            · rw [HDR.out]; exact HNX.out
        · have HND := Aside0.mk hdel
          have hgo : f.f2 = true ∨ (f.f2 = false ∧ decide (un = 0) = false ∧ ¬ un = 0) := by
            cases h2 : f.f2
            · exact .inr ⟨rfl, decide_eq_false (fun e => hdel ⟨h2, e⟩), fun e => hdel ⟨h2, e⟩⟩
            · exact .inl rfl
          clear hdel
          rcases hgo with hf2 | ⟨hf2, hu0, hu1⟩
          all_goals
            rw [hf2] at g2
            clear hf2
            go_wp2_with fail
            refine (clone8 A8 c8 out w2 (Kd.V_reads' H8.out).2.2 (by have := HOL.out; omega)).mono ?_
            rintro e w3 ⟨v9, rfl, hr9, hb3⟩
            obtain ⟨A9, c9, rfl⟩ := Kd.R_slice hr9
            have hh3 : w3.heap[g]? = some (.cells #[vn, vs, .bool f.f2, vc] 110 (0, 0)) := (hb3.block _ (by have := (HB2.out).size; have := blk_lt HH.out; omega)).trans ((HB2.out.block _ (blk_lt HH.out)).trans HH.out)
            have t0 : w3.cell? ⟨g, 0, none⟩ = some vn := blk_cell hh3 0
            have t1 : w3.cell? ⟨g, 1, none⟩ = some vs := blk_cell hh3 1
            have t2 : w3.cell? ⟨g, 2, none⟩ = some (.bool f.f2) := blk_cell hh3 2
            have t3 : w3.cell? ⟨g, 3, none⟩ = some vc := blk_cell hh3 3
            have z0 := blk_frozen hh3 0
            have z1 := blk_frozen hh3 1
            have z2 := blk_frozen hh3 2
            have z3 := blk_frozen hh3 3
            have HR9 := Aside0.mk hr9
            have HB3 := Aside0.mk hb3
            have HH3 := Aside0.mk hh3
            clear hr9 hb3 hh3 g2 hdc
            go_wp2_with fail
            go_roundg (gk - 1)
            case measure => omega
            case rel =>
              have ho := ((((OnlyB.refl w3 g).set 0 (.slice A8 out.length c8)).set 1 (.slice A9 out.length c9)).set 2 (.bool true)).set 3 (.slice none 0 0)
              have hst := crash_set HX.out HGT.out HH.out (fun k hk => ⟨(HOW.out k hk).2, Kd.N_typed HCN.out k hk⟩) HB2.out H8.out HB3.out HR9.out (blk_set (blk_set (blk_set (blk_set HH3.out 0 _) 1 _) 2 _) 3 _) ho
              have hnext := chain HS.out.1 (D := ⟨D.room, (done ++ [(n, ⟨out, out, true, []⟩)]) ++ r⟩) ⟨hst.1, m, _, _, hst.2, by rw [tfil_put, HDF.out]; exact (aput_mid HSR.out).trans (by simp)⟩
              refine ⟨i + 1, done ++ [(n, ⟨out, out, true, []⟩)], rfl, by omega, by omega, ⟨?_⟩, ⟨?_⟩, ⟨?_⟩⟩
              · rw [HDR.out, show (i + 1).toNat = i.toNat + 1 by omega]
                have h := HD.out
                rw [show crL keep i.toNat ((n, f) :: r) = match crF f (kOf keep i.toNat) with | none => crL keep (i.toNat + 1) r | some f' => (n, f') :: crL keep (i.toNat + 1) r from rfl, HCR.out, if_neg HND.out] at h
                rw [List.append_assoc]
                exact h
              · rw [HDR.out]; exact hnext
              · exact R_str_keep (Kd.R_below (Kd.R_below HNN.out HB2.out) HB3.out) (ho.kp (Below.refl _ _)) (fun x cs e hx => by
                  rw [e, HH3.out] at hx
                  cases hx)
    · have c6 : decide (i < (D.files.length : Int)) = false := decide_eq_false h6
      have hR := HD.out
      have hF := HS.out
      rw [List.drop_eq_nil_of_le (by omega)] at hR hF
      rw [show crL keep i.toNat [] = [] from by unfold crL; rfl, List.append_nil] at hR
      rw [List.append_nil, hR] at hF
      have HF := Aside0.mk hF
      clear hR hF
      go_wp2
      go_end0
      exact ⟨rfl, HF.out⟩
end Go.Proofs.Ytmmiipnmimjojaa.PS
end
section
namespace Go.Proofs.Ytmmiipnmimjojaa.PS
open Go.RowKit Go.Proofs.YtmmiipnmimjojaaW.PrintWords Go.Proofs.YtmmiipnmimjojaaW.PrintLast Go.Proofs.YtmmiipnmimjojaaW.PrintMore
open Go.Maps Go.Proofs.Ytmmiipnmimjojaa.PD
set_option linter.unusedVariables false
set_option linter.unusedSimpArgs false
/-- All changes' work. -/
def mkAll : List S114 → List Int → List Int
  | [], o => o
  | c :: cs, o => mkAll cs (ap1 c o (chN c))
/-- Each change fits, and no text is longer than B. -/
def ChB (B : Nat) : List S114 → List Int → Prop
  | [], o => o.length ≤ B
  | c :: cs, o => o.length ≤ B ∧ (c.f0 = true → 0 ≤ c.f1 ∧ c.f1 ≤ o.length) ∧ (c.f0 = false → 0 ≤ c.f2 ∧ c.f2 ≤ o.length) ∧ c.f3.length ≤ B ∧ ChB B cs (ap1 c o (chN c))
theorem ChB.len {B : Nat} {cs : List S114} {o : List Int} (h : ChB B cs o) : o.length ≤ B := by cases cs with | nil => exact h | cons c cs => exact h.1
theorem ChB.ok {B : Nat} (hB : B ≤ 1000000) : ∀ {cs : List S114} {o : List Int}, ChB B cs o → ChOk cs o
  | [], o, h => Nat.le_trans h hB
  | c :: cs, o, h => ⟨Nat.le_trans h.1 hB, h.2.1, h.2.2.1, Nat.le_trans h.2.2.2.1 hB, ChB.ok hB h.2.2.2.2⟩
theorem ChB.snoc {B : Nat} {c : S114} : ∀ {cs : List S114} {o : List Int}, ChB B cs o → (c.f0 = true → 0 ≤ c.f1 ∧ c.f1 ≤ (mkAll cs o).length) → (c.f0 = false → 0 ≤ c.f2 ∧ c.f2 ≤ (mkAll cs o).length) → c.f3.length ≤ B →
    (ap1 c (mkAll cs o) (chN c)).length ≤ B → ChB B (cs ++ [c]) o
  | [], o, h, h1, h2, h3, h4 => ⟨h, h1, h2, h3, h4⟩
  | d :: cs, o, h, h1, h2, h3, h4 => ⟨h.1, h.2.1, h.2.2.1, h.2.2.2.1, ChB.snoc h.2.2.2.2 h1 h2 h3 h4⟩
theorem mkAll_snoc (c : S114) : ∀ (cs : List S114) (o : List Int), mkAll (cs ++ [c]) o = ap1 c (mkAll cs o) (chN c)
  | [], _ => rfl
  | _ :: cs, _ => mkAll_snoc c cs _
theorem layL_nil {o : List Int} {j : Nat} (h : j ≤ o.length) : layL o j [] = o := by
  unfold layL
  simp
theorem ap1_write {o b : List Int} {z a : Int} (h : a.toNat ≤ o.length) : ap1 ⟨false, z, a, b⟩ o (chN ⟨false, z, a, b⟩) = layL o a.toNat b := by
  show ap1 ⟨false, z, a, b⟩ o (b.length : Int) = _
  by_cases hb : b.length = 0
  · rw [hb, show ((0 : Nat) : Int) = 0 from rfl, ap1_zero, List.length_eq_zero_iff.1 hb, layL_nil h]
  · rw [ap1_lay _ _ _ _ hb, List.take_length]
theorem ap1_cutN {o b : List Int} {z a : Int} : ap1 ⟨true, z, a, b⟩ o (chN ⟨true, z, a, b⟩) = o.take z.toNat := ap1_cut _ _ _ _
theorem aft_lenB {B : Nat} (k : Int) : ∀ (cs : List S114) (o : List Int) (u : Int), u ≤ k → o.length ≤ B → (u = k ∨ ChB B cs o) → (aft k cs (o, u)).1.length ≤ B
  | [], o, u, _, hl, _ => hl
  | c :: cs, o, u, hu, hl, h => by
    have hc := chN_0 c
    have hm : u + min (chN c) (k - u) ≤ k := by omega
    refine aft_lenB k cs _ _ hm ?_ ?_
    · show (ap1 c o (min (chN c) (k - u))).length ≤ B
      rcases h with rfl | h
      · rw [show min (chN c) (u - u) = 0 by omega, ap1_zero]; exact hl
      · obtain ⟨a1, a2, a3, a4, a5⟩ := h
        have a6 := a5.len
        obtain ⟨c0, z, a, b⟩ := c
        cases c0 with
        | true =>
          unfold ap1
          split
          · exact hl
          · rw [if_pos rfl, List.length_take]; omega
        | false =>
          have h3 := a3 rfl
          dsimp only at h3 a4
          rw [ap1_write (by omega), layL_len _ _ _ (by omega)] at a6
          unfold ap1
          split
          · exact hl
          · rw [if_neg (by simp), layL_len _ _ _ (by dsimp only; omega), List.length_take]
            dsimp only
            omega
    · show u + min (chN c) (k - u) = k ∨ ChB B cs (ap1 c o (min (chN c) (k - u)))
      rcases h with rfl | h
      · exact .inl (by omega)
      · by_cases hh : chN c ≤ k - u
        · rw [Int.min_eq_left hh]; exact .inr h.2.2.2.2
        · exact .inl (by omega)
/-- A file that N deeds have made. -/
structure FInv (N : Nat) (n : Nm) (f : Fil) : Prop where
  named : namedB (str n) = true
  few : f.f3.length ≤ N
  ch : ChB 262144 f.f3 f.f1
  now : mkAll f.f3 f.f1 = f.f0
  short : f.f0.length ≤ 262144
  none_ : f.f2 = false → f.f1 = []
structure DInv (N : Nat) (D : Dsk) : Prop where
  room : 0 ≤ D.room ∧ D.room ≤ 9223372036854775807
  few : D.files.length ≤ 16
  srt : Srt D.files
  files : ∀ n f, (n, f) ∈ D.files → FInv N n f
theorem FInv.mono {N M : Nat} {n : Nm} {f : Fil} (h : FInv N n f) (hm : N ≤ M) : FInv M n f := ⟨h.named, Nat.le_trans h.few hm, h.ch, h.now, h.short, h.none_⟩
theorem DInv.mono {N M : Nat} {D : Dsk} (h : DInv N D) (hm : N ≤ M) : DInv M D := ⟨h.room, h.few, h.srt, fun n f hx => (h.files n f hx).mono hm⟩
theorem ChB.each {B : Nat} : ∀ {cs : List S114} {o : List Int}, ChB B cs o → ∀ c ∈ cs, c.f3.length ≤ B
  | [], _, _, c, hc => by cases hc
  | d :: cs, o, h, c, hc => by
    rcases List.mem_cons.1 hc with rfl | hc
    · exact h.2.2.2.1
    · exact ChB.each h.2.2.2.2 c hc
theorem DInv.ok {N : Nat} {D : Dsk} (h : DInv N D) (hN : N ≤ 1000000) : DskOk D :=
  ⟨h.room, by have := h.few; omega, fun p hp => by
    have hf := h.files p.1 p.2 hp
    refine ⟨by have := hf.short; omega, by have := hf.ch.len; omega, by have := hf.few; omega, fun c hc => by have := hf.ch.each c hc; omega⟩⟩
theorem str_size (n : Nm) : (str n).size = n.length := by show n.toArray.size = _; simp
theorem DInv.ck {N : Nat} {D : Dsk} (h : DInv N D) : DskCk D := fun p hp => by
  have hf := h.files p.1 p.2 hp
  refine ⟨?_, hf.ch.ok (by omega)⟩
  have := namedB_size hf.named
  rw [str_size] at this
  exact this
theorem usedB_le {B : Nat} : ∀ {l : List (Nm × Fil)}, (∀ p ∈ l, p.2.f0.length ≤ B) → usedB l ≤ l.length * B
  | [], _ => by simp [usedB]
  | p :: l, h => by
    have h1 := h p (.head _)
    have h2 := usedB_le (l := l) (fun q hq => h q (.tail _ hq))
    have e : usedB (p :: l) = p.2.f0.length + usedB l := by simp [usedB]
    rw [e, List.length_cons, Nat.succ_mul]
    omega
theorem DInv.used {N : Nat} {D : Dsk} (h : DInv N D) : usedB D.files ≤ 4194304 := by
  have h1 := usedB_le (B := 262144) (l := D.files) (fun p hp => (h.files p.1 p.2 hp).short)
  have h2 := h.few
  have h3 : D.files.length * 262144 ≤ 16 * 262144 := Nat.mul_le_mul_right _ h2
  omega
theorem DInv.put {N : Nat} {D : Dsk} {n : Nm} {f : Fil} (h : DInv N D) (hf : FInv N n f) (hl : (aput n f D.files).length ≤ 16) : DInv N ⟨D.room, aput n f D.files⟩ :=
  ⟨h.room, hl, aput_srt h.srt, fun n' f' hx => by
    rcases (aput_mem h.srt).1 hx with e | ⟨hx, _⟩
    · cases e; exact hf
    · exact h.files _ _ hx⟩
theorem DInv.get {N : Nat} {D : Dsk} {n : Nm} {f : Fil} (h : DInv N D) (hg : aget n D.files = some f) : FInv N n f := h.files _ _ (aget_mem hg)
theorem put_len {N : Nat} {D : Dsk} {n : Nm} {f g : Fil} (h : DInv N D) (hg : aget n D.files = some f) : (aput n g D.files).length ≤ 16 := by
  rw [aput_len h.srt, hg]
  exact h.few
theorem inv_write {N : Nat} {n : Nm} {f : Fil} {at_ : Int} {b : List Int} (h : FInv N n f) (h0 : 0 ≤ at_) (h1 : at_ ≤ f.f0.length) (h2 : (f.f0.length : Int) + moreB f at_ b ≤ 262144) : FInv (N + 1) n (wFil f at_ b) := by
  have hl : (layL f.f0 at_.toNat b).length ≤ 262144 := by
    rw [layL_len _ _ _ (by omega)]
    unfold moreB at h2
    omega
  have hbl : b.length ≤ 262144 := by unfold moreB at h2; omega
  have e := ap1_write (o := f.f0) (b := b) (z := 0) (a := at_) (by omega)
  refine ⟨h.named, ?_, ?_, ?_, hl, h.none_⟩
  · show (f.f3 ++ [_]).length ≤ N + 1
    have := h.few
    simp; omega
  · show ChB 262144 (f.f3 ++ [_]) f.f1
    refine ChB.snoc h.ch (fun h => by cases h) (fun _ => by rw [h.now]; exact ⟨h0, h1⟩) hbl ?_
    rw [h.now, e]
    exact hl
  · show mkAll (f.f3 ++ [_]) f.f1 = _
    rw [mkAll_snoc, h.now, e]
    rfl
theorem inv_empty {N : Nat} {n : Nm} (h : namedB (str n) = true) : FInv N n z110 := ⟨h, Nat.zero_le _, Nat.zero_le _, rfl, Nat.zero_le _, fun _ => rfl⟩
theorem dWrite_inv {N : Nat} {D : Dsk} {s : ByteArray} {at_ : Int} {b : List Int} (h : DInv N D) : DInv (N + 1) (dWrite D s at_ b).2 := by
  have h' := h.mono (Nat.le_succ N)
  unfold dWrite
  split
  · exact h'
  · next hn =>
    have hn' : namedB (str s.data.toList) = true := by rw [str_nm]; simpa using hn
    obtain ⟨f, hf⟩ : ∃ f, (aget s.data.toList D.files).getD z110 = f := ⟨_, rfl⟩
    rw [hf]
    have hfi : FInv N s.data.toList f := by
      cases hg : aget s.data.toList D.files with
      | none => rw [hg] at hf; rw [← hf]; exact inv_empty hn'
      | some g => rw [hg] at hf; rw [← hf]; exact h.get hg
    unfold dW2
    split
    · exact h'
    · split
      · exact h'
      · split
        · exact h'
        · next hp hl hr =>
          have hlim : (f.f0.length : Int) + moreB f at_ b ≤ 262144 := by
            by_cases hh : 262144 < (f.f0.length : Int) + moreB f at_ b
            · exact absurd (.inr hh) hl
            · omega
          refine h'.put (inv_write hfi (by omega) (by omega) hlim) ?_
          rw [aput_len h.srt]
          cases hg : aget s.data.toList D.files with
          | none =>
            have : ¬ 16 ≤ D.files.length := fun hc => hl (.inl ⟨by rw [hg]; rfl, hc⟩)
            show D.files.length + 1 ≤ 16
            omega
          | some g => exact h.few
theorem dCut_inv {N : Nat} {D : Dsk} {s : ByteArray} {z : Int} (h : DInv N D) : DInv (N + 1) (dCut D s z).2 := by
  have h' := h.mono (Nat.le_succ N)
  unfold dCut
  split
  · exact h'
  · next f hg =>
    split
    · exact h'
    · have hf := h.get hg
      refine h'.put ⟨hf.named, ?_, ?_, ?_, ?_, hf.none_⟩ (put_len h hg)
      · show (f.f3 ++ [_]).length ≤ N + 1
        have := hf.few
        simp; omega
      · refine ChB.snoc hf.ch (fun _ => by rw [hf.now]; dsimp only; omega) (fun h => by cases h) (Nat.zero_le _) ?_
        rw [hf.now, ap1_cutN, List.length_take]
        have := hf.short
        omega
      · show mkAll (f.f3 ++ [_]) f.f1 = _
        rw [mkAll_snoc, hf.now, ap1_cutN]
      · show (f.f0.take z.toNat).length ≤ _
        have := hf.short
        rw [List.length_take]; omega
theorem dSync_inv {N : Nat} {D : Dsk} {s : ByteArray} (h : DInv N D) : DInv N (dSync D s).2 := by
  unfold dSync
  split
  · exact h
  · next f hg =>
    have hf := h.get hg
    exact h.put ⟨hf.named, Nat.zero_le _, hf.short, rfl, hf.short, fun h => by cases h⟩ (put_len h hg)
theorem dRemove_inv {N : Nat} {D : Dsk} {s : ByteArray} (h : DInv N D) : DInv N (dRemove D s).2 := by
  unfold dRemove
  split
  · exact h
  · exact ⟨h.room, Nat.le_trans adel_len h.few, adel_srt h.srt, fun n f hx => h.files n f (adel_mem.1 hx).1⟩
theorem del_lt {α : Type} {n : Nm} {x : α} {l : List (Nm × α)} (h : aget n l = some x) : (adel n l).length + 1 ≤ l.length := by
  have hm := aget_mem h
  have : (adel n l).length < l.length := by
    unfold adel
    rw [List.length_filter_lt_length_iff_exists]
    exact ⟨_, hm, by simp⟩
  omega
theorem dRename_inv {N : Nat} {D : Dsk} {s t : ByteArray} (h : DInv N D) : DInv N (dRename D s t).2 := by
  unfold dRename
  split
  · exact h
  · next f hg =>
    split
    · exact h
    · next hn =>
      split
      · exact h
      · have hf := h.get hg
        have h1 : DInv N ⟨D.room, adel s.data.toList D.files⟩ := ⟨h.room, Nat.le_trans adel_len h.few, adel_srt h.srt, fun n f hx => h.files n f (adel_mem.1 hx).1⟩
        refine h1.put ⟨by rw [str_nm]; simpa using hn, hf.few, hf.ch, hf.now, hf.short, hf.none_⟩ ?_
        show (aput _ _ (adel _ _)).length ≤ 16
        rw [aput_len (adel_srt h.srt)]
        have := del_lt hg
        have := h.few
        split <;> omega
theorem crL_inv {N : Nat} (keep : List Int) : ∀ (i : Nat) (l : List (Nm × Fil)), (∀ n f, (n, f) ∈ l → FInv N n f) → (crL keep i l).length ≤ l.length ∧ (∀ n f, (n, f) ∈ crL keep i l → FInv N n f ∧ n ∈ l.map (·.1)) ∧ (Srt l → Srt (crL keep i l))
  | i, [], _ => ⟨Nat.le_refl _, (fun n f h => (List.not_mem_nil h).elim), (fun h => h)⟩
  | i, (n, f) :: l, h => by
    obtain ⟨a1, a2, a3⟩ := crL_inv keep (i + 1) l (fun n f hx => h n f (.tail _ hx))
    have hf := h n f (.head _)
    have hs : Srt ((n, f) :: l) → Srt (crL keep (i + 1) l) := fun hs => a3 (List.pairwise_cons.1 hs).2
    have hk0 : 0 ≤ kOf keep i := by unfold kOf; split <;> omega
    unfold crL
    split
    · exact ⟨by simp; omega, fun n' f' hx => ⟨(a2 _ _ hx).1, by have := (a2 _ _ hx).2; simp only [List.map_cons, List.mem_cons]; exact .inr this⟩, hs⟩
    · next f' hc =>
      refine ⟨by simp; omega, fun n' f1 hx => ?_, fun hss => ?_⟩
      · rcases List.mem_cons.1 hx with e | hx
        · cases e
          refine ⟨?_, by simp⟩
          unfold crF at hc
          split at hc
          · cases hc
          · cases hc
            have hl := aft_lenB (kOf keep i) f.f3 f.f1 0 hk0 hf.ch.len (.inr hf.ch)
            exact ⟨hf.named, Nat.zero_le _, hl, rfl, hl, fun h => by cases h⟩
        · exact ⟨(a2 _ _ hx).1, by have := (a2 _ _ hx).2; simp only [List.map_cons, List.mem_cons]; exact .inr this⟩
      · refine List.pairwise_cons.2 ⟨fun p hp => ?_, hs hss⟩
        have h2 := (a2 p.1 p.2 hp).2
        obtain ⟨q, hq, hqe⟩ := List.mem_map.1 h2
        have := (List.pairwise_cons.1 hss).1 q hq
        rw [hqe] at this
        exact this
theorem dCrash_inv {N : Nat} {D : Dsk} {keep : List Int} (h : DInv N D) : DInv N (dCrash D keep) := by
  obtain ⟨a1, a2, a3⟩ := crL_inv keep 0 D.files h.files
  exact ⟨h.room, Nat.le_trans a1 h.few, a3 h.srt, fun n f hx => (a2 n f hx).1⟩
end Go.Proofs.Ytmmiipnmimjojaa.PS
end
