/- The law's texts and its row. -/
import Derived.Test.YtmmiipnmimjojaaJ26
import Derived.Test.YtmmiipnmimjojaaRows
import Derived.WalkKit
import Derived.ProofKit
import Derived.OpenShut
import Derived.ShutString
import Derived.ChangeOld
import Derived.Below
import Derived.SizedLaws
section
/- WalNone. -/
namespace Go.Proofs.Ytmmiipnmimjojaa.PS
open Go.RowKit Go.Proofs.YtmmiipnmimjojaaW.PrintWords Go.Proofs.YtmmiipnmimjojaaW.PrintLast Go.Proofs.YtmmiipnmimjojaaW.PrintMore
open Go.Maps Go.Proofs.Ytmmiipnmimjojaa.PD
set_option linter.unusedVariables false
set_option linter.unusedSimpArgs false
attribute [local go_sem high] eqA81 eqA83
set_option maxHeartbeats 8000000 in
set_option maxRecDepth 100000 in
theorem walNone_calls {W : World} {n a b c t u : Int} {A : Option Addr} {len cd : Nat} :
    Calls Try.prog 17 #[.int .i64 n, .agg #[.int .i64 a, .int .i64 b, .int .i64 c, .slice A len cd], .agg #[.int .i64 t, .int .i64 u]] W fun e w' => e = .returned (.bool true) ∧ Below W.heap.size W w' := by
  obtain ⟨w1, hw1⟩ : ∃ w1, w1 = (W.alloc (.cells #[.int .i64 a, .int .i64 b, .int .i64 c, .slice A len cd] 48)).alloc (.cells #[.int .i64 t, .int .i64 u] 81) := ⟨_, rfl⟩
  have hb1 : Below W.heap.size W w1 := by rw [hw1]; exact below_alloc (below_alloc (Below.refl _ _) _) _
  have hbx : w1.heap[W.heap.size]? = some (.cells #[.int .i64 a, .int .i64 b, .int .i64 c, .slice A len cd] 48 (0, 0)) := by
    rw [hw1]
    exact ((below_alloc (Below.refl _ (W.alloc (.cells #[.int .i64 a, .int .i64 b, .int .i64 c, .slice A len cd] 48))) (.cells #[.int .i64 t, .int .i64 u] 81)).block W.heap.size (by rw [World.size_alloc]; exact Nat.lt_succ_self _)).trans (blk_new W _)
  have hby : w1.heap[W.heap.size + 1]? = some (.cells #[.int .i64 t, .int .i64 u] 81 (0, 0)) := by
    rw [hw1]
    have := blk_new (W.alloc (.cells #[.int .i64 a, .int .i64 b, .int .i64 c, .slice A len cd] 48)) (.cells #[.int .i64 t, .int .i64 u] 81)
    rwa [World.size_alloc] at this
  have HB1 := Aside0.mk hb1
  have HX := Aside0.mk hbx
  have HY := Aside0.mk hby
  clear hb1 hbx hby
  go_enter Try.func17, Try.ntmps17
  go_upto_region 1 with (fail)
  rw [← hw1]
  clear hw1
  go_wp2_with fail
  refine (open_nil _).mono ?_
  rintro e w2 ⟨rfl, rfl⟩
  go_wp2_with fail
  refine (term_nil _ n).mono ?_
  rintro e w2 ⟨rfl, rfl⟩
  go_wp2_with fail
  refine (wlive_calls _).mono ?_
  rintro e w2 ⟨rfl, hb2⟩
  have HB2 := Aside0.mk (below_step HB1.out hb2)
  have hx2 := (hb2.block _ (blk_lt HX.out)).trans HX.out
  have hy2 := (hb2.block _ (blk_lt HY.out)).trans HY.out
  have x0 : w2.cell? ⟨W.heap.size, 0, none⟩ = some (.int .i64 a) := blk_cell hx2 0
  have x1 : w2.cell? ⟨W.heap.size, 1, none⟩ = some (.int .i64 b) := blk_cell hx2 1
  have x2 : w2.cell? ⟨W.heap.size, 2, none⟩ = some (.int .i64 c) := blk_cell hx2 2
  have x3 : w2.cell? ⟨W.heap.size, 3, none⟩ = some (.slice A len cd) := blk_cell hx2 3
  have HY2 := Aside0.mk hy2
  clear hb2 hx2 hy2
  go_wp2_with fail
  refine (append_nil _ _).mono ?_
  rintro e w3 ⟨rfl, rfl⟩
  have hba := below_alloc (Below.refl w2.heap.size w2) (.cells #[.int .i64 a, .int .i64 b, .int .i64 c, .slice A len cd] 48)
  have hy3 := (hba.block _ (blk_lt HY2.out)).trans HY2.out
  have y0 : (w2.alloc (.cells #[.int .i64 a, .int .i64 b, .int .i64 c, .slice A len cd] 48)).cell? ⟨W.heap.size + 1, 0, none⟩ = some (.int .i64 t) := blk_cell hy3 0
  have y1 : (w2.alloc (.cells #[.int .i64 a, .int .i64 b, .int .i64 c, .slice A len cd] 48)).cell? ⟨W.heap.size + 1, 1, none⟩ = some (.int .i64 u) := blk_cell hy3 1
  have HB3 := Aside0.mk (below_step HB2.out hba)
  clear hba hy3 x0 x1 x2 x3
  go_wp2_with fail
  refine (sethard_nil _ t u).mono ?_
  rintro e w4 ⟨rfl, hb4⟩
  have HB4 := Aside0.mk (below_step HB3.out hb4)
  clear hb4 y0 y1
  go_wp2_with fail
  refine (wsync_nil _).mono ?_
  rintro e w5 ⟨rfl, rfl⟩
  go_wp2_with fail
  refine (compact_nil _ n).mono ?_
  rintro e w5 ⟨rfl, rfl⟩
  go_wp2_with fail
  refine (reset_nil _ n 0).mono ?_
  rintro e w5 ⟨rfl, hb5⟩
  have HB5 := Aside0.mk (below_step HB4.out hb5)
  clear hb5
  go_wp2_with fail
  refine (hard_nil _).mono ?_
  rintro e w6 ⟨rfl, hb6⟩
  have HB6 := Aside0.mk (below_step HB5.out hb6)
  clear hb6
  go_wp2_with fail
  refine (base_nil _).mono ?_
  rintro e w7 ⟨rfl, hb7⟩
  have HB7 := Aside0.mk (below_step HB6.out hb7)
  clear hb7
  go_wp2_with fail
  refine (last_nil _).mono ?_
  rintro e w8 ⟨rfl, rfl⟩
  go_wp2_with fail
  refine (entries_nil _ n n).mono ?_
  rintro e w8 ⟨rfl, rfl⟩
  go_wp2_with fail
  refine wfile_nil.mono ?_
  rintro e w8 ⟨rfl, rfl⟩
  go_wp2_with fail
  go_ret
  exact ⟨rfl, HB7.out⟩
end Go.Proofs.Ytmmiipnmimjojaa.PS
end
section
/- WalNone, as its row takes it. -/
namespace Go.Proofs.Ytmmiipnmimjojaa.PS
open Go.RowKit Go.Proofs.YtmmiipnmimjojaaW.PrintWords
set_option linter.unusedVariables false
theorem Pure.WalNone_pure {P Q R : Prop} (n : Int) (x : S48) (h : S81) (g0 : P) (g1 : Q) (g2 : R) : True := trivial
theorem tollgatelaw06_WalNone.calls (n a b c : Int) (A : Option Addr) (cd : Nat) (l : List Int) (t u : Int) (_b : Bool) (W : World) (hC : k8.C W A l.length l) (hl : l.length ≤ cd) (_hp : True) :
    Calls Try.prog 17 #[.int .i64 n, .agg #[.int .i64 a, .int .i64 b, .int .i64 c, .slice A l.length cd], .agg #[.int .i64 t, .int .i64 u]] W fun e w' => e = .returned (.bool true) ∧ Below W.heap.size W w' := walNone_calls
end Go.Proofs.Ytmmiipnmimjojaa.PS
end
section
/- WalNone: the row, out of what the law's functions compute. -/
namespace Go.Proofs.Ytmmiipnmimjojaa.walNone
open Go.ChangeShapes Go.WideShapes Go.ChangeAt Go.RowKit Go.Proofs.YtmmiipnmimjojaaW.PrintWords Go.Proofs.Ytmmiipnmimjojaa.OpenK Go.Proofs.Ytmmiipnmimjojaa.PS
open Go.ChangeMaps (open_string shut_string)
set_option linter.unusedVariables false
theorem own : ownKnob Try.prog.godebug = none := by kernel_rfl
theorem laidOut : laidOutB Try.prog = true := by kernel_rfl
set_option maxRecDepth 1000000 in
set_option maxHeartbeats 1000000 in
theorem contract (H : Type) (enc : TypeId × Value → H) (W : World) (base : Nat) (args : Array Value) (ds gs : List (DataW H)) (before : List MemPlace)
    (hval0 : ∀ (j : Nat) t v, Try.f17.params[j]? = some t → args[j]? = some v → Value.okWide Try.prog W .any base t v)
    (hW : DataW.Whole enc Try.prog Try.f17.params.toList Rows.walNoneSpec.vars false W args.toList ds gs before)
    (hsz0 : (DataW.weightsEach Try.prog (Try.f17.params.toList ++ Rows.walNoneSpec.plain.varTypes Try.prog) (ds ++ gs)).all (· ≤ reachBytes) = true) :
    Calls Try.prog 17 args W fun e W' => ∃ v, e = .returned v ∧ Rows.walNoneSpec.post enc Try.prog Try.f17 false true false false W args v W' := by
  have hsz : (DataW.weightsEach Try.prog (Try.f17.params.toList ++ Rows.walNoneSpec.plain.varTypes Try.prog) (ds ++ gs)).all (· ≤ reachBytes) = true := hsz0
  have hval : ∀ (j : Nat) t v, Try.f17.params[j]? = some t → args[j]? = some v → Value.okWide Try.prog W .any base t v := hval0
  have hW' := hW
  obtain ⟨p, q, hA0, hV, rfl, hfz, hnd⟩ := hW
  have hA : DataW.TrodAll enc Try.prog W 0 (fun _ => true) true Try.f17.params.toList args.toList ds p := hA0
  rw [Try.params17] at hA hval hsz
  obtain ⟨v0, vs0, d0, ds0, p0, q0, hargs, rfl, rfl, h0, r0⟩ := trodAll_cons hA
  obtain ⟨v1, vs1, d1, ds1, p1, q1, rfl, rfl, rfl, h1, r1⟩ := trodAll_cons r0
  obtain ⟨v2, vs2, d2, ds2, p2, q2, rfl, rfl, rfl, h2, r2⟩ := trodAll_cons r1
  obtain ⟨rfl, rfl, rfl⟩ := trodAll_nil r2
  obtain rfl : args = #[v0, v1, v2] := by cases args; simp_all
  obtain ⟨rfl, rfl⟩ := trodVars_none hV
  have k0 := h0
  have lt0 : ∀ x ∈ p0, x.block < W.heap.size := by obtain ⟨m, hm⟩ := k0; exact DataW.trod_lt m _ _ _ hm
  have z0 := arg_sized hsz (j := 0) (t := 3) rfl rfl
  obtain ⟨x0, rfl, _, _, g0⟩ := open_int Try.underlying3 (hval 0 3 v0 rfl rfl) h0
  have k1 := h1
  have lt1 : ∀ x ∈ p1, x.block < W.heap.size := by obtain ⟨m, hm⟩ := k1; exact DataW.trod_lt m _ _ _ hm
  have z1 := arg_sized hsz (j := 1) (t := 48) rfl rfl
  obtain ⟨b1, rfl, _⟩ := okWide_struct Try.underlying48 (hval 1 48 v1 rfl rfl)
  obtain ⟨fuel1, hf1⟩ := h1
  obtain ⟨x1, K1, g1, s1⟩ := opens48.open_ hf1 z1
  obtain ⟨A1_3, c1_3, e1, l1_3, C1_3⟩ := k48_open K1
  have e1' : Value.agg b1 = .agg #[.int .i64 x1.f0, .int .i64 x1.f1, .int .i64 x1.f2, .slice A1_3 x1.f3.length c1_3] := by obtain ⟨b⟩ := b1; simp only [Value.cells] at e1; rw [e1]
  rw [e1']
  have k2 := h2
  have lt2 : ∀ x ∈ p2, x.block < W.heap.size := by obtain ⟨m, hm⟩ := k2; exact DataW.trod_lt m _ _ _ hm
  have z2 := arg_sized hsz (j := 2) (t := 81) rfl rfl
  obtain ⟨b2, rfl, _⟩ := okWide_struct Try.underlying81 (hval 2 81 v2 rfl rfl)
  obtain ⟨fuel2, hf2⟩ := h2
  obtain ⟨x2, K2, g2, s2⟩ := opens81.open_ hf2 z2
  have e2 := k81_open K2
  have e2' : Value.agg b2 = .agg #[.int .i64 x2.f0, .int .i64 x2.f1] := by obtain ⟨b⟩ := b2; simp only [Value.cells] at e2; rw [e2]
  rw [e2']
  clear hA0 hval0 hsz0 hsz
  have hp := Pure.WalNone_pure x0 x1 x2 g0 g1 g2
  refine (PS.tollgatelaw06_WalNone.calls x0 x1.f0 x1.f1 x1.f2 A1_3 c1_3 x1.f3 x2.f0 x2.f1 true W C1_3 l1_3 hp).mono ?_
  rintro e W' ⟨rfl, hd⟩
  have bel : Below W.heap.size W W' := hd
  rw [← e1', ← e2']
  exact ⟨_, rfl, _, _, _, [], _, [], hW', trodAll_mk1 (shut_bool Try.underlying4 _), (trodAll_cons_mk (Below.trod laidOut (by kernel_rfl) (of_decide_eq_true (by kernel_rfl)) k0 bel lt0) (trodAll_cons_mk (Below.trod laidOut (by kernel_rfl) (of_decide_eq_true (by kernel_rfl)) k1 bel lt1) (trodAll_cons_mk (Below.trod laidOut (by kernel_rfl) (of_decide_eq_true (by kernel_rfl)) k2 bel lt2) trodAll_mk0))), rfl, bel.frame _, fun h => by cases h⟩
set_option maxRecDepth 100000 in
theorem lifted (os : Os) (started : os.Started) (H : Type) (enc : TypeId × Value → H) :
    ReturnsInHanded {} Try.checked os 17 .any (Rows.walNoneSpec.pre6 enc Try.prog Try.f17 Rows.walNoneRow.domain false) (Rows.walNoneSpec.post enc Try.prog Try.f17 false true false false) := by
  refine returnsInHanded_of_change_sized (C := Try.checked) own started (by kernel_rfl) Try.func17
    (ChangeSpec.witness6 (enc := enc) (C := Try.checked) false ⟨#[], #[.int .i64 0, .agg #[.int .i64 0, .int .i64 0, .int .i64 0, .slice none 0 0], .agg #[.int .i64 0, .int .i64 0]], []⟩ 8 (by kernel_rfl) (by kernel_rfl) (by kernel_rfl) (by kernel_rfl)) ?_
  intro W base args ds gs before hval0 hW hcnd hsz0 _
  exact contract H enc W base args ds gs before hval0 hW hsz0
theorem over : Rows.walNoneRow.holds Try.pinned (OpenSpec.ofChange Rows.walNoneSpec) :=
  OpenClaim.holds_of_wide 17 Try.f17 rfl rfl rfl rfl rfl rfl rfl ⟨rfl, rfl, rfl, rfl, rfl⟩ rfl rfl rfl rfl rfl (by kernel_rfl) Try.func17 (by kernel_rfl)
    (of_decide_eq_true (by kernel_rfl)) (by unfold Func.isWrapper; first | (rw [if_pos (by decide +kernel)]; kernel_rfl) | (rw [if_neg (by decide +kernel)]; exact ⟨rfl, rfl⟩))
    (fun os started H enc _ => lifted os started H enc)
end Go.Proofs.Ytmmiipnmimjojaa.walNone
namespace Go.Proofs.Ytmmiipnmimjojaa
theorem walNone_holds : Rows.WalNoneSaid := walNone.over
end Go.Proofs.Ytmmiipnmimjojaa
end
