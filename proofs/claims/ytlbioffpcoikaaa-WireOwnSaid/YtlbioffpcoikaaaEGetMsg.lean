import Derived.Test.YtlbioffpcoikaaaEGetA
import Derived.Deep.RegionLaw
namespace Go.Proofs.Ytlbioffpcoikaaa.PW
open Go.RowKit Go.Proofs.YtlbioffpcoikaaaW.PrintWords Go.Proofs.YtlbioffpcoikaaaW.PrintLast Go.Proofs.YtlbioffpcoikaaaW.PrintMore
set_option linter.unusedVariables false
set_option linter.unusedSimpArgs false
/-- the first i of six numbers -/
abbrev pk (i j n : Int) : Int := if j < i then n else 0
def sAt (s4 s5 s6 s7 s8 s9 s10 : Except Int Int) (i : Int) : Except Int Int := if i = 0 then s4 else if i = 1 then s5 else if i = 2 then s6 else if i = 3 then s7 else if i = 4 then s8 else if i = 5 then s9 else s10
def six (k f t n1 n2 n3 n4 n5 n6 : Int) (b : Bool) (i : Int) : Array Value := M40 k f t (pk i 0 n1) (pk i 1 n2) (pk i 2 n3) (pk i 3 n4) (pk i 4 n5) (pk i 5 n6) b (.slice none 0 0) (.slice none 0 0)
def ptrs (m : Nat) : Array Value := #[.pointer (some ⟨m, 3, none⟩), .pointer (some ⟨m, 4, none⟩), .pointer (some ⟨m, 5, none⟩), .pointer (some ⟨m, 6, none⟩), .pointer (some ⟨m, 7, none⟩), .pointer (some ⟨m, 8, none⟩)]
def PanicAt (x : Int) (X E : Nat) (w0 W : World) (g : Nat) : Exit → Act → World → Prop := fun e a w =>
  e = .panic (fault x) ∧ a.tmps.getD 2 undef = .pointer (some ⟨X, 0, none⟩) ∧ a.tmps.getD 3 undef = .pointer (some ⟨E, 0, none⟩) ∧ a.defers = door E ∧ Below w0.heap.size w0 w ∧ KeepBut W w g none
theorem getD_put (a : Act) (d : Nat) (v : Value) (j : Nat) (h : d ≠ j) : (a.put (some d) v).tmps.getD j undef = a.tmps.getD j undef := by
  simp [Act.put, Array.getD_eq_getD_getElem?, Array.getElem?_setIfInBounds, h]
theorem PanicAt.put {x : Int} {X E : Nat} {w0 W w : World} {g : Nat} {e : Exit} {a : Act} {d : Nat} {v : Value} (h : PanicAt x X E w0 W g e (a.put (some d) v) w) (h2 : d ≠ 2) (h3 : d ≠ 3) : PanicAt x X E w0 W g e a w :=
  ⟨h.1, (getD_put a d v 2 h2).symm.trans h.2.1, (getD_put a d v 3 h3).symm.trans h.2.2.1, h.2.2.2.1, h.2.2.2.2⟩
set_option maxHeartbeats 4000000 in
set_option maxRecDepth 100000 in
theorem getMsg_core (A : Option Addr) (c : Nat) (l : List Int) (w0 : World) (hr : Kd.C (Kd.int .u8) w0 A l.length l) (hc : l.length ≤ c) (hok : okLen l) (r : MsgR) (hres : refMsg l = r) :
    Calls Try.prog 29 #[.slice A l.length c] w0 fun e w' => MsgPost w0 r e w' := by
  obtain ⟨k, s1, h1⟩ : ∃ k s, scOne l (.ok 0) 1 7 = (k, s) := ⟨_, _, rfl⟩
  obtain ⟨f, s2, h2⟩ : ∃ k s, scOne l s1 1 9 = (k, s) := ⟨_, _, rfl⟩
  obtain ⟨t, s3, h3⟩ : ∃ k s, scOne l s2 1 9 = (k, s) := ⟨_, _, rfl⟩
  obtain ⟨o, s4, h4⟩ : ∃ k s, scOne l s3 0 1 = (k, s) := ⟨_, _, rfl⟩
  obtain ⟨n1, s5, h5⟩ : ∃ k s, scNum l s4 0 = (k, s) := ⟨_, _, rfl⟩
  obtain ⟨n2, s6, h6⟩ : ∃ k s, scNum l s5 0 = (k, s) := ⟨_, _, rfl⟩
  obtain ⟨n3, s7, h7⟩ : ∃ k s, scNum l s6 0 = (k, s) := ⟨_, _, rfl⟩
  obtain ⟨n4, s8, h8⟩ : ∃ k s, scNum l s7 0 = (k, s) := ⟨_, _, rfl⟩
  obtain ⟨n5, s9, h9⟩ : ∃ k s, scNum l s8 0 = (k, s) := ⟨_, _, rfl⟩
  obtain ⟨n6, s10, h10⟩ : ∃ k s, scNum l s9 0 = (k, s) := ⟨_, _, rfl⟩
  obtain ⟨n, s11, h11⟩ : ∃ k s, scNum l s10 0 = (k, s) := ⟨_, _, rfl⟩
  obtain ⟨esR, sR, he⟩ : ∃ es s, scEnts l n.toNat [] (scLim n s11) = (es, s) := ⟨_, _, rfl⟩
  obtain ⟨d, sD, hd⟩ : ∃ d s, scRow l sR 32768 = (d, s) := ⟨_, _, rfl⟩
  obtain ⟨sE, hE⟩ : ∃ s, scEnd l sD = s := ⟨_, rfl⟩
  have HM := Aside0.mk (show MsgEq l k f t o n1 n2 n3 n4 n5 n6 n s1 s2 s3 s4 s5 s6 s7 s8 s9 s10 s11 sR sD sE esR d from ⟨h1, h2, h3, h4, h5, h6, h7, h8, h9, h10, h11, he, hd, hE⟩)
  clear h1 h2 h3 h4 h5 h6 h7 h8 h9 h10 h11 he hd hE
  have HRES := Aside0.mk hres
  have HR := Aside0.mk hr
  have HK := Aside0.mk hok
  clear hr hok hres
  obtain ⟨b, hb'⟩ : ∃ b, (o == 1) = b := ⟨_, rfl⟩
  have HC1 := Aside0.mk (C29.start (w0 := w0) (A := A) (n := l.length) (c := c))
  go_enter_defers Try.func29, Try.ntmps29
  go_wp2_with fail
  refine (rone_any w0 _ (w0.heap.size + 1 + 1) A c l 0 HR.out hc HC1.out.rd HC1.out.below HC1.out.g0 HK.out 1 7 k s1 HM.out.h1).mono ?_
  rintro e w1 ⟨B1, K1, hm⟩
  cases s1 with
  | error x =>
    obtain rfl := hm
    exact HC1.out.panic B1 K1 (by rw [← HRES.out]; exact HM.out.e1 rfl) rfl rfl
  | ok a1 =>
  obtain ⟨rfl, I1⟩ := hm
  have HD := Aside0.mk (HC1.out.call B1 K1 I1)
  clear B1 K1 I1 HC1
  have q := HD.out.m.cell 0 (.int .i64 0) rfl
  have fm := HD.out.m.frozen
  have HC1 := Aside0.mk (show C29 w0 _ (w0.heap.size + 1 + 1) A l.length c a1 w0.heap.size (w0.heap.size + 1) (w0.heap.size + 1 + 1 + 1) Z40 (M40 k 0 0 0 0 0 0 0 0 false (.slice none 0 0) (.slice none 0 0)) 0 from HD.out.setM 0 (.int .i64 k))
  clear HD
  go_wp2_with fail
  refine (rone_any w0 _ (w0.heap.size + 1 + 1) A c l a1 HR.out hc HC1.out.rd HC1.out.below HC1.out.g0 HK.out 1 9 f s2 HM.out.h2).mono ?_
  rintro e w2 ⟨B1, K1, hm⟩
  cases s2 with
  | error x =>
    obtain rfl := hm
    exact HC1.out.panic B1 K1 (by rw [← HRES.out]; exact HM.out.e2 rfl) rfl rfl
  | ok a2 =>
  obtain ⟨rfl, I1⟩ := hm
  have HD := Aside0.mk (HC1.out.call B1 K1 I1)
  clear B1 K1 I1 HC1 q fm
  have HC1 := HD
  clear HD
  go_wp2_with fail
  refine (rone_any w0 _ (w0.heap.size + 1 + 1) A c l a2 HR.out hc HC1.out.rd HC1.out.below HC1.out.g0 HK.out 1 9 t s3 HM.out.h3).mono ?_
  rintro e w3 ⟨B1, K1, hm⟩
  cases s3 with
  | error x =>
    obtain rfl := hm
    exact HC1.out.panic B1 K1 (by rw [← HRES.out]; exact HM.out.e3 rfl) rfl rfl
  | ok a3 =>
  obtain ⟨rfl, I1⟩ := hm
  have HD := Aside0.mk (HC1.out.call B1 K1 I1)
  clear B1 K1 I1 HC1
  have q := HD.out.m.cell 1 (.int .i64 0) rfl
  have q2 := HD.out.m.cell 2 (.int .i64 0) rfl
  have fm := HD.out.m.frozen
  have HD1 : C29 w0 _ (w0.heap.size + 1 + 1) A l.length c a3 w0.heap.size (w0.heap.size + 1) (w0.heap.size + 1 + 1 + 1) Z40 (M40 k f 0 0 0 0 0 0 0 false (.slice none 0 0) (.slice none 0 0)) 0 := HD.out.setM 1 (.int .i64 f)
  have HC1 := Aside0.mk (show C29 w0 _ (w0.heap.size + 1 + 1) A l.length c a3 w0.heap.size (w0.heap.size + 1) (w0.heap.size + 1 + 1 + 1) Z40 (M40 k f t 0 0 0 0 0 0 false (.slice none 0 0) (.slice none 0 0)) 0 from HD1.setM 2 (.int .i64 t))
  clear HD HD1
  go_wp2_with fail
  refine (rone_any w0 _ (w0.heap.size + 1 + 1) A c l a3 HR.out hc HC1.out.rd HC1.out.below HC1.out.g0 HK.out 0 1 o s4 HM.out.h4).mono ?_
  rintro e w4 ⟨B1, K1, hm⟩
  cases s4 with
  | error x =>
    obtain rfl := hm
    exact HC1.out.panic B1 K1 (by rw [← HRES.out]; exact HM.out.e4 rfl) rfl rfl
  | ok a4 =>
  obtain ⟨rfl, I1⟩ := hm
  have HD := Aside0.mk (HC1.out.call B1 K1 I1)
  clear B1 K1 I1 HC1 q q2 fm
  have q := HD.out.m.cell 9 (.bool false) rfl
  have fm := HD.out.m.frozen
  have HC1 := Aside0.mk (show C29 w0 _ (w0.heap.size + 1 + 1) A l.length c a4 w0.heap.size (w0.heap.size + 1) (w0.heap.size + 1 + 1 + 1) Z40 (M40 k f t 0 0 0 0 0 0 b (.slice none 0 0) (.slice none 0 0)) 0 from HD.out.setM 9 (.bool b))
  clear HD
  go_wp2_with fail
  have hP0 := blk_new (w4.setCell ⟨w0.heap.size + 1 + 1 + 1, 9, none⟩ (.bool b)) (.cells (ptrs (w0.heap.size + 1 + 1 + 1)) 79 (0, 0))
  have hsz : (w4.setCell ⟨w0.heap.size + 1 + 1 + 1, 9, none⟩ (.bool b)).heap.size = w4.heap.size := by simp [World.setCell]
  rw [hsz] at hP0
  have HP0 := Aside0.mk (show Bk _ w4.heap.size (ptrs (w0.heap.size + 1 + 1 + 1)) 79 from hP0)
  clear hP0 hsz
  have HC2 := Aside0.mk (HC1.out.alloc (.cells (ptrs (w0.heap.size + 1 + 1 + 1)) 79 (0, 0)))
  have hPg : w4.heap.size ≠ (w0.heap.size + 1 + 1) := by have := HC1.out.rd.lt; simp at this; omega
  have hPm : w4.heap.size ≠ (w0.heap.size + 1 + 1 + 1) := by have := HC1.out.m.lt; simp at this; omega
  clear HC1 q fm
  go_loopg [33] 6 (fun kq v33 w' => ∃ (i a : Int), v33 = .int .i64 i ∧ 0 ≤ i ∧ i + kq = 6 ∧ Aside0 (sAt (.ok a4) s5 s6 s7 s8 s9 s10 i = .ok a) ∧ Aside0 (C29 w0 w' (w0.heap.size + 1 + 1) A l.length c a w0.heap.size (w0.heap.size + 1) (w0.heap.size + 1 + 1 + 1) Z40 (six k f t n1 n2 n3 n4 n5 n6 b i) 0) ∧ Aside0 (Bk w' w4.heap.size (ptrs (w0.heap.size + 1 + 1 + 1)) 79))
  case atStart => exact ⟨0, a4, rfl, by omega, by omega, ⟨rfl⟩, HC2, HP0⟩
  case round =>
    clear HP0 HC2
    obtain ⟨i, a, rfl, i0, i1, HS, HC5, HP⟩ := hrel
    rcases (show i = 6 ∨ i = 0 ∨ i = 1 ∨ i = 2 ∨ i = 3 ∨ i = 4 ∨ i = 5 by omega) with rfl | rfl | rfl | rfl | rfl | rfl | rfl
    · have hst : s10 = .ok a := HS.out
      have HC6 := Aside0.mk (show C29 w0 wr (w0.heap.size + 1 + 1) A l.length c a w0.heap.size (w0.heap.size + 1) (w0.heap.size + 1 + 1 + 1) Z40 (M40 k f t n1 n2 n3 n4 n5 n6 b (.slice none 0 0) (.slice none 0 0)) 0 from HC5.out)
      replace hst := Aside0.mk hst
      clear HC5 HP hPg hPm
      go_wp2_with fail
      refine (rnum_any w0 _ (w0.heap.size + 1 + 1) A c l a HR.out hc HC6.out.rd HC6.out.below HC6.out.g0 HK.out 0 n s11 (by rw [← hst.out]; exact HM.out.h11)).mono ?_
      rintro e w5 ⟨B1, K1, hm⟩
      cases s11 with
      | error x =>
        obtain rfl := hm
        exact HC6.out.panic B1 K1 (by rw [← HRES.out]; exact HM.out.e11 rfl) rfl rfl
      | ok a11 =>
      obtain ⟨rfl, I1⟩ := hm
      have HC7 := Aside0.mk (HC6.out.call B1 K1 I1)
      obtain ⟨hn0, hn1⟩ := scNum_bd HK.out HM.out.h11
      clear B1 K1 I1 HC6
      by_cases h8 : 8 < n
      · have hb8 : decide (8 < n) = true := by simpa using h8
        go_wp2
        exact HC7.out.panic HC7.out.below (KeepBut.refl _ _ _) (by rw [← HRES.out]; exact HM.out.eL (x := 6) (by rw [scLim, if_pos h8])) rfl rfl
      · have hb8 : decide (8 < n) = false := by simpa using h8
        have HES := Aside0.mk (show scEnts l n.toNat [] (.ok a11) = (esR, sR) from by have := HM.out.he; rwa [scLim, if_neg h8] at this)
        go_wp2_with fail
        go_loopg [48] n.toNat (fun kq v48 w' => ∃ (i a : Int) (ve : Value) (es : List S34), v48 = .int .i64 i ∧ 0 ≤ i ∧ i + kq = n ∧ (es.length : Int) = i ∧ Aside0 (scEnts l kq es (.ok a) = (esR, sR)) ∧ Aside0 (C29 w0 w' (w0.heap.size + 1 + 1) A l.length c a w0.heap.size (w0.heap.size + 1) (w0.heap.size + 1 + 1 + 1) Z40 (M40 k f t n1 n2 n3 n4 n5 n6 b ve (.slice none 0 0)) 0) ∧ Aside0 (Kd.S k34 34 w' w0.heap.size (fun _ => True) ve es))
        case atStart => exact ⟨0, a11, .slice none 0 0, [], rfl, by omega, by omega, rfl, HES, HC7, ⟨Kd.S_nil _ _ _ _ _⟩⟩
        case round =>
          clear HC7 HES HS hst
          obtain ⟨i, a, ve, es, rfl, i0, i1, hes, HS5, HC5, HE5⟩ := hrel
          by_cases hi : i < n
          · have hb7 : decide (i < n) = true := by simpa using hi
            obtain ⟨j, hj⟩ : ∃ j, gk = j + 1 := ⟨gk - 1, by omega⟩
            have HJ := Aside0.mk hj
            clear hj
            have q10 := HC5.out.m.cell 10 ve rfl
            have f10 := HC5.out.m.frozen
            obtain ⟨x, sx, hx⟩ : ∃ x s, scEntry l (.ok a) = (x, s) := ⟨_, _, rfl⟩
            have HX := Aside0.mk hx
            have HC6 := Aside0.mk HC5.out.drew
            have HE6 := Aside0.mk (Kd.S_drew (Kd.S_types HE5.out HC5.out.rd.1 (by decide)))
            have hesl : (es.length + 1) * 48 ≤ 140737488355328 := by omega
            have h0 := HS5.out
            rw [HJ.out, scEnts, HX.out] at h0
            dsimp only at h0
            have HS6 := Aside0.mk h0
            clear hx h0
            cases sx with
            | error y =>
              have hr0 : r = msgZ y := by rw [← HRES.out]; exact HM.out.eR (scEnts_err HS6.out)
              have HR0 := Aside0.mk hr0
              clear hr0
              go_wp2_with fail
              refine Code.wp_mono (Q := PanicAt y w0.heap.size (w0.heap.size + 1) w0 wr (w0.heap.size + 1 + 1)) (fun e a w h => ?_) ?_
              · obtain ⟨rfl, t2, t3, hd, B, K⟩ := h
                obtain ⟨tm, df⟩ := a
                dsimp only at t2 t3 hd
                subst hd
                exact HC5.out.panic B K HR0.out t2 t3
              · refine wp_region_any (by kernel_rfl) ?_
                change wpAny _ _ _ _ _ _ _ (World.drew _)
                refine wpAny_take (i := 0) (v := .pointer (some ⟨w0.heap.size + 1 + 1 + 1, 10, none⟩)) rfl (by kernel_rfl) (by kernel_rfl) (by kernel_rfl) (fun c a w h => PanicAt.put h (by decide) (by decide)) (Or.inl ⟨by rfl, ?_⟩) ?_
                · intro w; go_simp
                refine wpAny_take (i := 2) (v := .pointer (some ⟨w0.heap.size + 1 + 1, 0, none⟩)) rfl (by kernel_rfl) (by kernel_rfl) (by kernel_rfl) (fun c a w h => PanicAt.put h (by decide) (by decide)) (Or.inl ⟨by rfl, ?_⟩) ?_
                · intro w; go_simp
                refine wpAny_ready (rs := [1, 3]) (by kernel_rfl) (by simp) ?_
                refine AllReady.cons rfl (fun K hK => ?_) (AllReady.cons rfl (fun K hK => ?_) AllReady.nil)
                · go_simp
                  refine hK _ _ ?_
                  clear hK K
                  refine wpAny_ready (rs := [3]) (by kernel_rfl) (by simp) ?_
                  refine AllReady.cons rfl (fun K hK => ?_) AllReady.nil
                  go_simp
                  go_at_call 42
                  refine (rent_any w0 _ (w0.heap.size + 1 + 1) A c l a HR.out hc HC6.out.rd HC6.out.below HC6.out.g0 HK.out x (.error y) HX.out).mono ?_
                  rintro e w1 ⟨B1, K1, hm⟩
                  obtain rfl := hm
                  exact ⟨rfl, rfl, rfl, rfl, B1, (keep_drew (KeepBut.refl _ _ _)).trans K1 (.inl rfl)⟩
                · go_simp
                  go_at_call 42
                  refine (rent_any w0 _ (w0.heap.size + 1 + 1) A c l a HR.out hc HC6.out.rd HC6.out.below HC6.out.g0 HK.out x (.error y) HX.out).mono ?_
                  rintro e w1 ⟨B1, K1, hm⟩
                  obtain rfl := hm
                  exact ⟨rfl, rfl, rfl, rfl, B1, (keep_drew (KeepBut.refl _ _ _)).trans K1 (.inl rfl)⟩
            | ok a2 =>
              go_wp2_with fail
              refine wp_region_noPanic ?_
              go_region_law (first
                | ((refine Kd.S_append_step k34 (w0 := w0) w0.heap.size (by rfl) (.tmp 51) (.tmp 54) 38 34 (.agg #[.int .i64 0, .int .i64 0, .int .i64 0, .slice none 0 0]) 48 (by rfl) Try.underlying38 info34 (by rfl) (by decide) (by decide) ve es (toS x) [.int .i64 x.1, .int .i64 x.2.1, .int .i64 x.2.2.1, .slice Ad x.2.2.2.length cd] (fun _ => True) (fun k => wr.heap.size ≤ k) (by rfl) (by rfl) (k34_mkM _ _ _ (toS x) (Kd.R_lower (Kd.R_mono (Kd.R_bound HR1.out) (fun k hk => hk.2.1)) HC6.out.below.size)) (fun k hk => ⟨trivial, Kd.S_away_ge HE6.out hk⟩) (fun _ _ => trivial) HE7.out HC7.out.below HC7.out.below.size hesl ?_; intro v3 w3 S3 B3 G3 at3; have HC8 := Aside0.mk (HC7.out.grown B3 G3 HE7.out); have d2 := HC8.out.m.cell 10 ve rfl; have f2 := HC8.out.m.frozen; obtain ⟨es', he'⟩ : ∃ es', es ++ [toS x] = es' := ⟨_, rfl⟩; rw [he'] at S3; have HES' := Aside0.mk he'; obtain ⟨A3, c3, rfl⟩ := Kd.S_slice S3; have HS3 := Aside0.mk S3; clear S3 B3 G3 at3 he' d1 e1))
                | (go_simp; go_at_call 42; refine (rent_any w0 _ (w0.heap.size + 1 + 1) A c l a HR.out hc HC6.out.rd HC6.out.below HC6.out.g0 HK.out x (.ok a2) HX.out).mono ?_; rintro e w1 ⟨B1, K1, v, rfl, R1, I1⟩; obtain ⟨Ad, cd, rfl⟩ := Kd.R_slice R1; have HC7 := Aside0.mk (HC6.out.call B1 K1 I1); have d1 := HC7.out.m.cell 10 ve rfl; have e1 : (w1.alloc (.cells #[.int .i64 x.1, .int .i64 x.2.1, .int .i64 x.2.2.1, .slice Ad x.2.2.2.length cd] 34 (0, 0))).cell? ⟨w0.heap.size + 1 + 1 + 1, 10, none⟩ = some ve := ((below_alloc (Below.refl w1.heap.size w1) _).cell (p := ⟨w0.heap.size + 1 + 1 + 1, 10, none⟩) HC7.out.m.lt).trans d1; have HR1 := Aside0.mk R1; have HE7 := Aside0.mk (show Kd.S k34 34 w1 w0.heap.size (fun k => True ∧ ¬ wr.heap.size ≤ k) ve es from Kd.S_mono (Kd.S_keep (Kd.S_bound HE6.out) K1 (fun k hk => hk.1.2)) (fun k hk => ⟨trivial, Nat.not_le_of_lt hk.2.2.1⟩)); clear B1 K1 R1 I1; go_simp))
              all_goals
                refine NoPanic.normal ?_
                have HC9 := Aside0.mk (show C29 w0 _ (w0.heap.size + 1 + 1) A l.length c a2 w0.heap.size (w0.heap.size + 1) (w0.heap.size + 1 + 1 + 1) Z40 (M40 k f t n1 n2 n3 n4 n5 n6 b (.slice A3 es'.length c3) (.slice none 0 0)) 0 from HC8.out.setM 10 (.slice A3 es'.length c3))
                have HE9 := Aside0.mk (Kd.S_set HS3.out HC8.out.m (by decide) 10 (.slice A3 es'.length c3))
                clear d2 f2 HC8 HS3 HC7 HE7 HR1 HC6 HE6 q10 f10
                go_wp2_with fail
                go_roundg j
                case measure => have := HJ.out; omega
                case rel =>
                  refine ⟨i + 1, a2, .slice A3 es'.length c3, es', rfl, by omega, by have := HJ.out; omega, ?_, ⟨by rw [← HES'.out]; exact HS6.out⟩, HC9, HE9⟩
                  rw [← HES'.out, List.length_append]; simp; omega
          · have hb7 : decide (i < n) = false := by simpa using hi
            have hz : gk = 0 := by omega
            have h0 := HS5.out
            rw [hz] at h0
            obtain ⟨rfl, hsR⟩ : es = esR ∧ .ok a = sR := by simpa [scEnts] using h0
            subst hsR
            clear h0 HS5
            go_wp2_with fail
            refine (rrow_any w0 _ (w0.heap.size + 1 + 1) A c l a HR.out hc HC5.out.rd HC5.out.below HC5.out.g0 HK.out 32768 (by decide) d sD HM.out.hd).mono ?_
            rintro e w12 ⟨B1, K1, hm⟩
            cases sD with
            | error x =>
              obtain rfl := hm
              exact HC5.out.panic B1 K1 (by rw [← HRES.out]; exact HM.out.eD rfl) rfl rfl
            | ok a12 =>
            obtain ⟨v, rfl, R1, I1⟩ := hm
            have HC6 := Aside0.mk (HC5.out.call B1 K1 I1)
            have HE6 := Aside0.mk (show Kd.S k34 34 w12 w0.heap.size (fun k => k < wr.heap.size) ve es from
              Kd.S_mono (Kd.S_keep (Kd.S_bound (Kd.S_types HE5.out HC5.out.rd.1 (by decide))) K1 (fun k hk => hk.1.2)) (fun k hk => hk.2.2.1))
            have HR6 := Aside0.mk (Kd.R_lower (Kd.R_mono (ok' := fun k => wr.heap.size ≤ k) (Kd.R_bound R1) (fun k hk => hk.2.1)) HC5.out.below.size)
            obtain ⟨Ad, cd, rfl⟩ := Kd.R_slice R1
            obtain ⟨Ae, ce, rfl⟩ := Kd.S_slice HE6.out
            have q := HC6.out.m.cell 11 (.slice none 0 0) rfl
            have fm := HC6.out.m.frozen
            have HC7 := Aside0.mk (show C29 w0 _ (w0.heap.size + 1 + 1) A l.length c a12 w0.heap.size (w0.heap.size + 1) (w0.heap.size + 1 + 1 + 1) Z40 (M40 k f t n1 n2 n3 n4 n5 n6 b (.slice Ae es.length ce) (.slice Ad d.length cd)) 0 from HC6.out.setM 11 (.slice Ad d.length cd))
            have HE7 := Aside0.mk (Kd.S_set HE6.out HC6.out.m (by decide) 11 (.slice Ad d.length cd))
            have HR7 := Aside0.mk (Kd.R_set HR6.out HC6.out.m (by decide) 11 (.slice Ad d.length cd))
            clear B1 K1 R1 I1 HC5 HE5 HE6 HR6
            go_wp2_with fail
            refine (rend_any w0 _ (w0.heap.size + 1 + 1) A c l a12 HC7.out.rd HC7.out.below HC7.out.g0 sE HM.out.hE).mono ?_
            rintro e w13 ⟨B1, K1, hm⟩
            cases sE with
            | error x =>
              obtain rfl := hm
              exact HC7.out.panic B1 K1 (by rw [← HRES.out]; exact HM.out.eE rfl) rfl rfl
            | ok a13 =>
            obtain ⟨rfl, I1⟩ := hm
            have HC8 := Aside0.mk (HC7.out.call B1 K1 I1)
            have hb := HC7.out.rd.1
            have HE8 := Aside0.mk (Kd.S_mono (ok' := fun k => k < wr.heap.size) (Kd.S_keep (Kd.S_types HE7.out hb (by decide)) K1 (fun k hk => hk.2)) (fun k hk => hk.1))
            have HR8 := Aside0.mk (Kd.R_mono (ok' := fun k => wr.heap.size ≤ k) (Kd.R_keep (Kd.R_types HR7.out hb (by decide)) K1 (fun k hk => hk.2)) (fun k hk => hk.1))
            clear B1 K1 I1 HC7 HE7 HR7 HC6 q fm hb
            have hr0 : r = (k, f, t, n1, n2, n3, n4, n5, n6, b, es, d, 0) := by rw [← HRES.out, ← hb']; exact HM.out.res
            have HR0 := Aside0.mk hr0
            clear hr0
            have q0 := HC8.out.m.cell 0 (.int .i64 k) rfl
            have q1 := HC8.out.m.cell 1 (.int .i64 f) rfl
            have q2 := HC8.out.m.cell 2 (.int .i64 t) rfl
            have q3 := HC8.out.m.cell 3 (.int .i64 n1) rfl
            have q4 := HC8.out.m.cell 4 (.int .i64 n2) rfl
            have q5 := HC8.out.m.cell 5 (.int .i64 n3) rfl
            have q6 := HC8.out.m.cell 6 (.int .i64 n4) rfl
            have q7 := HC8.out.m.cell 7 (.int .i64 n5) rfl
            have q8 := HC8.out.m.cell 8 (.int .i64 n6) rfl
            have q9 := HC8.out.m.cell 9 (.bool b) rfl
            have q10 := HC8.out.m.cell 10 (.slice Ae es.length ce) rfl
            have q11 := HC8.out.m.cell 11 (.slice Ad d.length cd) rfl
            have x0 := HC8.out.x.cell 0 (.int .i64 0) rfl
            have x1 := HC8.out.x.cell 1 (.int .i64 0) rfl
            have x2 := HC8.out.x.cell 2 (.int .i64 0) rfl
            have x3 := HC8.out.x.cell 3 (.int .i64 0) rfl
            have x4 := HC8.out.x.cell 4 (.int .i64 0) rfl
            have x5 := HC8.out.x.cell 5 (.int .i64 0) rfl
            have x6 := HC8.out.x.cell 6 (.int .i64 0) rfl
            have x7 := HC8.out.x.cell 7 (.int .i64 0) rfl
            have x8 := HC8.out.x.cell 8 (.int .i64 0) rfl
            have x9 := HC8.out.x.cell 9 (.bool false) rfl
            have x10 := HC8.out.x.cell 10 (.slice none 0 0) rfl
            have x11 := HC8.out.x.cell 11 (.slice none 0 0) rfl
            have fx := HC8.out.x.frozen
            have e0 := HC8.out.e.cell 0 (.int .i64 0) rfl
            have fe := HC8.out.e.frozen
            go_wp2
            have hx := HR0.out
            subst hx
            obtain ⟨p1, p2, p3⟩ := HC8.out.put (.int .i64 k) (.int .i64 f) (.int .i64 t) (.int .i64 n1) (.int .i64 n2) (.int .i64 n3) (.int .i64 n4) (.int .i64 n5) (.int .i64 n6) (.bool b) (.slice Ae es.length ce) (.slice Ad d.length cd) 0
            have hbX := HC8.out.x
            have hbE := HC8.out.e
            refine door_ret (res29 p2 p3 rfl rfl) ⟨_, _, rfl, ?_, ?_, p1⟩
            · refine Kd.S_mono (Kd.S_move (Kd.S_types (Kd.S_types HE8.out hbX (by decide)) hbE (by decide)) (fun k_ hk => (Below.heap_setCell _ _ _ k_ hk.2).trans (put40_heap _ _ _ _ _ _ _ _ _ _ _ _ _ _ k_ hk.1.2))) (fun k_ hk he => ?_)
              have h1 := hk.1.1
              have h2 := HR8.out.1 k_ he.symm
              omega
            · exact Kd.R_mono (Kd.R_move (Kd.R_types (Kd.R_types HR8.out hbX (by decide)) hbE (by decide)) (fun k_ hk => (Below.heap_setCell _ _ _ k_ hk.2).trans (put40_heap _ _ _ _ _ _ _ _ _ _ _ _ _ _ k_ hk.1.2))) (fun _ _ => trivial)
    · have hst : Except.ok a4 = .ok a := HS.out
      have y := HP.out.cell 0 (.pointer (some ⟨w0.heap.size + 1 + 1 + 1, 3, none⟩)) rfl
      replace hst := Aside0.mk hst
      go_wp2_with fail
      refine (rnum_any w0 _ (w0.heap.size + 1 + 1) A c l a HR.out hc HC5.out.rd HC5.out.below HC5.out.g0 HK.out 0 n1 s5 (by rw [← hst.out]; exact HM.out.h5)).mono ?_
      rintro e w5 ⟨B1, K1, hm⟩
      cases s5 with
      | error x =>
        obtain rfl := hm
        exact HC5.out.panic B1 K1 (by rw [← HRES.out]; exact HM.out.e5 rfl) rfl rfl
      | ok a5 =>
        obtain ⟨rfl, I1⟩ := hm
        have HD := Aside0.mk (HC5.out.call B1 K1 I1)
        have HP2 := Aside0.mk ((HP.out.keep K1 hPg).farq (p := ⟨w0.heap.size + 1 + 1 + 1, 3, none⟩) hPm (.int .i64 n1))
        clear B1 K1 I1 HC5 HP y
        have q := HD.out.m.cell 3 (.int .i64 0) rfl
        have fm := HD.out.m.frozen
        have HC6 := Aside0.mk (show C29 w0 _ (w0.heap.size + 1 + 1) A l.length c a5 w0.heap.size (w0.heap.size + 1) (w0.heap.size + 1 + 1 + 1) Z40 (six k f t n1 n2 n3 n4 n5 n6 b 1) 0 from HD.out.setM 3 (.int .i64 n1))
        clear HD
        go_wp2_with fail
        go_roundg 5
        case measure => omega
        case rel => exact ⟨1, a5, rfl, by omega, by omega, ⟨rfl⟩, HC6, HP2⟩
    · have hst : s5 = .ok a := HS.out
      have y := HP.out.cell 1 (.pointer (some ⟨w0.heap.size + 1 + 1 + 1, 4, none⟩)) rfl
      replace hst := Aside0.mk hst
      go_wp2_with fail
      refine (rnum_any w0 _ (w0.heap.size + 1 + 1) A c l a HR.out hc HC5.out.rd HC5.out.below HC5.out.g0 HK.out 0 n2 s6 (by rw [← hst.out]; exact HM.out.h6)).mono ?_
      rintro e w5 ⟨B1, K1, hm⟩
      cases s6 with
      | error x =>
        obtain rfl := hm
        exact HC5.out.panic B1 K1 (by rw [← HRES.out]; exact HM.out.e6 rfl) rfl rfl
      | ok a5 =>
        obtain ⟨rfl, I1⟩ := hm
        have HD := Aside0.mk (HC5.out.call B1 K1 I1)
        have HP2 := Aside0.mk ((HP.out.keep K1 hPg).farq (p := ⟨w0.heap.size + 1 + 1 + 1, 4, none⟩) hPm (.int .i64 n2))
        clear B1 K1 I1 HC5 HP y
        have q := HD.out.m.cell 4 (.int .i64 0) rfl
        have fm := HD.out.m.frozen
        have HC6 := Aside0.mk (show C29 w0 _ (w0.heap.size + 1 + 1) A l.length c a5 w0.heap.size (w0.heap.size + 1) (w0.heap.size + 1 + 1 + 1) Z40 (six k f t n1 n2 n3 n4 n5 n6 b 2) 0 from HD.out.setM 4 (.int .i64 n2))
        clear HD
        go_wp2_with fail
        go_roundg 4
        case measure => omega
        case rel => exact ⟨2, a5, rfl, by omega, by omega, ⟨rfl⟩, HC6, HP2⟩
    · have hst : s6 = .ok a := HS.out
      have y := HP.out.cell 2 (.pointer (some ⟨w0.heap.size + 1 + 1 + 1, 5, none⟩)) rfl
      replace hst := Aside0.mk hst
      go_wp2_with fail
      refine (rnum_any w0 _ (w0.heap.size + 1 + 1) A c l a HR.out hc HC5.out.rd HC5.out.below HC5.out.g0 HK.out 0 n3 s7 (by rw [← hst.out]; exact HM.out.h7)).mono ?_
      rintro e w5 ⟨B1, K1, hm⟩
      cases s7 with
      | error x =>
        obtain rfl := hm
        exact HC5.out.panic B1 K1 (by rw [← HRES.out]; exact HM.out.e7 rfl) rfl rfl
      | ok a5 =>
        obtain ⟨rfl, I1⟩ := hm
        have HD := Aside0.mk (HC5.out.call B1 K1 I1)
        have HP2 := Aside0.mk ((HP.out.keep K1 hPg).farq (p := ⟨w0.heap.size + 1 + 1 + 1, 5, none⟩) hPm (.int .i64 n3))
        clear B1 K1 I1 HC5 HP y
        have q := HD.out.m.cell 5 (.int .i64 0) rfl
        have fm := HD.out.m.frozen
        have HC6 := Aside0.mk (show C29 w0 _ (w0.heap.size + 1 + 1) A l.length c a5 w0.heap.size (w0.heap.size + 1) (w0.heap.size + 1 + 1 + 1) Z40 (six k f t n1 n2 n3 n4 n5 n6 b 3) 0 from HD.out.setM 5 (.int .i64 n3))
        clear HD
        go_wp2_with fail
        go_roundg 3
        case measure => omega
        case rel => exact ⟨3, a5, rfl, by omega, by omega, ⟨rfl⟩, HC6, HP2⟩
    · have hst : s7 = .ok a := HS.out
      have y := HP.out.cell 3 (.pointer (some ⟨w0.heap.size + 1 + 1 + 1, 6, none⟩)) rfl
      replace hst := Aside0.mk hst
      go_wp2_with fail
      refine (rnum_any w0 _ (w0.heap.size + 1 + 1) A c l a HR.out hc HC5.out.rd HC5.out.below HC5.out.g0 HK.out 0 n4 s8 (by rw [← hst.out]; exact HM.out.h8)).mono ?_
      rintro e w5 ⟨B1, K1, hm⟩
      cases s8 with
      | error x =>
        obtain rfl := hm
        exact HC5.out.panic B1 K1 (by rw [← HRES.out]; exact HM.out.e8 rfl) rfl rfl
      | ok a5 =>
        obtain ⟨rfl, I1⟩ := hm
        have HD := Aside0.mk (HC5.out.call B1 K1 I1)
        have HP2 := Aside0.mk ((HP.out.keep K1 hPg).farq (p := ⟨w0.heap.size + 1 + 1 + 1, 6, none⟩) hPm (.int .i64 n4))
        clear B1 K1 I1 HC5 HP y
        have q := HD.out.m.cell 6 (.int .i64 0) rfl
        have fm := HD.out.m.frozen
        have HC6 := Aside0.mk (show C29 w0 _ (w0.heap.size + 1 + 1) A l.length c a5 w0.heap.size (w0.heap.size + 1) (w0.heap.size + 1 + 1 + 1) Z40 (six k f t n1 n2 n3 n4 n5 n6 b 4) 0 from HD.out.setM 6 (.int .i64 n4))
        clear HD
        go_wp2_with fail
        go_roundg 2
        case measure => omega
        case rel => exact ⟨4, a5, rfl, by omega, by omega, ⟨rfl⟩, HC6, HP2⟩
    · have hst : s8 = .ok a := HS.out
      have y := HP.out.cell 4 (.pointer (some ⟨w0.heap.size + 1 + 1 + 1, 7, none⟩)) rfl
      replace hst := Aside0.mk hst
      go_wp2_with fail
      refine (rnum_any w0 _ (w0.heap.size + 1 + 1) A c l a HR.out hc HC5.out.rd HC5.out.below HC5.out.g0 HK.out 0 n5 s9 (by rw [← hst.out]; exact HM.out.h9)).mono ?_
      rintro e w5 ⟨B1, K1, hm⟩
      cases s9 with
      | error x =>
        obtain rfl := hm
        exact HC5.out.panic B1 K1 (by rw [← HRES.out]; exact HM.out.e9 rfl) rfl rfl
      | ok a5 =>
        obtain ⟨rfl, I1⟩ := hm
        have HD := Aside0.mk (HC5.out.call B1 K1 I1)
        have HP2 := Aside0.mk ((HP.out.keep K1 hPg).farq (p := ⟨w0.heap.size + 1 + 1 + 1, 7, none⟩) hPm (.int .i64 n5))
        clear B1 K1 I1 HC5 HP y
        have q := HD.out.m.cell 7 (.int .i64 0) rfl
        have fm := HD.out.m.frozen
        have HC6 := Aside0.mk (show C29 w0 _ (w0.heap.size + 1 + 1) A l.length c a5 w0.heap.size (w0.heap.size + 1) (w0.heap.size + 1 + 1 + 1) Z40 (six k f t n1 n2 n3 n4 n5 n6 b 5) 0 from HD.out.setM 7 (.int .i64 n5))
        clear HD
        go_wp2_with fail
        go_roundg 1
        case measure => omega
        case rel => exact ⟨5, a5, rfl, by omega, by omega, ⟨rfl⟩, HC6, HP2⟩
    · have hst : s9 = .ok a := HS.out
      have y := HP.out.cell 5 (.pointer (some ⟨w0.heap.size + 1 + 1 + 1, 8, none⟩)) rfl
      replace hst := Aside0.mk hst
      go_wp2_with fail
      refine (rnum_any w0 _ (w0.heap.size + 1 + 1) A c l a HR.out hc HC5.out.rd HC5.out.below HC5.out.g0 HK.out 0 n6 s10 (by rw [← hst.out]; exact HM.out.h10)).mono ?_
      rintro e w5 ⟨B1, K1, hm⟩
      cases s10 with
      | error x =>
        obtain rfl := hm
        exact HC5.out.panic B1 K1 (by rw [← HRES.out]; exact HM.out.e10 rfl) rfl rfl
      | ok a5 =>
        obtain ⟨rfl, I1⟩ := hm
        have HD := Aside0.mk (HC5.out.call B1 K1 I1)
        have HP2 := Aside0.mk ((HP.out.keep K1 hPg).farq (p := ⟨w0.heap.size + 1 + 1 + 1, 8, none⟩) hPm (.int .i64 n6))
        clear B1 K1 I1 HC5 HP y
        have q := HD.out.m.cell 8 (.int .i64 0) rfl
        have fm := HD.out.m.frozen
        have HC6 := Aside0.mk (show C29 w0 _ (w0.heap.size + 1 + 1) A l.length c a5 w0.heap.size (w0.heap.size + 1) (w0.heap.size + 1 + 1 + 1) Z40 (six k f t n1 n2 n3 n4 n5 n6 b 6) 0 from HD.out.setM 8 (.int .i64 n6))
        clear HD
        go_wp2_with fail
        go_roundg 0
        case measure => omega
        case rel => exact ⟨6, a5, rfl, by omega, by omega, ⟨rfl⟩, HC6, HP2⟩
def wire_GetMsg.f (l0 : List Int) : Option (Int × Int × Int × Int × Int × Int × Int × Int × Int × Bool × (List (S34)) × List Int × Int) := if okBytes l0 = true ∧ l0.length ≤ 200000000000000 then some (refMsg l0) else none
theorem wire_GetMsg.calls (A0 : Option Addr) (c0 : Nat) (l0 : List Int) (r1 : Int) (r2 : Int) (r3 : Int) (r4 : Int) (r5 : Int) (r6 : Int) (r7 : Int) (r8 : Int) (r9 : Int) (r10 : Bool) (r11 : List (S34)) (r12 : List Int) (r13 : Int) (w : World) (hr0 : Kd.C (Kd.int .u8) w A0 l0.length l0) (hc0 : l0.length ≤ c0) (h : wire_GetMsg.f l0 = some (r1, r2, r3, r4, r5, r6, r7, r8, r9, r10, r11, r12, r13)) :
    Calls Try.prog 29 #[.slice A0 l0.length c0] w fun e w' => ∃ v10_ v11_ : Value, e = .returned (.tuple #[.agg #[.int .i64 r1, .int .i64 r2, .int .i64 r3, .int .i64 r4, .int .i64 r5, .int .i64 r6, .int .i64 r7, .int .i64 r8, .int .i64 r9, .bool r10, v10_, v11_], .int .i64 r13]) ∧ Kd.S k34 34 w' w.heap.size (fun k_ => some k_ ≠ (v11_ : Value).ownBlock) v10_ r11 ∧ Kd.R (Kd.int .u8) 5 w' w.heap.size (fun _ => True) v11_ r12 ∧ Below w.heap.size w w' := by
  unfold wire_GetMsg.f at h
  by_cases hc : okBytes l0 = true ∧ l0.length ≤ 200000000000000
  · rw [if_pos hc] at h
    exact (getMsg_core A0 c0 l0 w hr0 hc0 hc _ (Option.some.inj h)).mono fun _ _ h => h
  · rw [if_neg hc] at h
    cases h
end Go.Proofs.Ytlbioffpcoikaaa.PW
