import Derived.Test.YtlbioffpcoikaaaEPutA
namespace Go.Proofs.Ytlbioffpcoikaaa.PW
open Go.RowKit Go.Proofs.YtlbioffpcoikaaaW.PrintWords Go.Proofs.YtlbioffpcoikaaaW.PrintLast Go.Proofs.YtlbioffpcoikaaaW.PrintMore
set_option linter.unusedVariables false
set_option linter.unusedSimpArgs false
attribute [local go_sem] index66_0 index66_1 index66_2 index66_3 index66_4 index66_5
set_option maxHeartbeats 2000000 in
set_option maxRecDepth 100000 in
theorem putMsg_core (a0 a1 a2 a3 a4 a5 a6 a7 a8 : Int) (a9 : Bool) (A10 : Option Addr) (c10 : Nat) (l10 : List S34) (A11 : Option Addr) (c11 : Nat) (l11 : List Int) (w : World)
    (hr10 : Kd.C k34 w A10 l10.length l10) (hc10 : l10.length ≤ c10) (hr11 : Kd.C (Kd.int .u8) w A11 l11.length l11) (hc11 : l11.length ≤ c11) (hlen : l10.length ≤ 140737488355328) (res : List Int × Int) (hres : putMsg a0 a1 a2 a3 a4 a5 a6 a7 a8 a9 l10 l11 = res) :
    Calls Try.prog 22 #[.agg #[.int .i64 a0, .int .i64 a1, .int .i64 a2, .int .i64 a3, .int .i64 a4, .int .i64 a5, .int .i64 a6, .int .i64 a7, .int .i64 a8, .bool a9, .slice A10 l10.length c10, .slice A11 l11.length c11]] w fun e w' => ∃ v0_ : Value, e = .returned (.tuple #[v0_, .int .i64 res.2]) ∧ Kd.R (Kd.int .u8) 5 w' w.heap.size (fun _ => True) v0_ res.1 ∧ Below w.heap.size w w' := by
  have HRES := Aside0.mk (show (if msgErr a0 a1 a2 a3 a4 a5 a6 a7 a8 l10 l11 = 0 then (msgBytes a0 a1 a2 a3 a4 a5 a6 a7 a8 a9 l10 l11, 0) else ([], msgErr a0 a1 a2 a3 a4 a5 a6 a7 a8 l10 l11)) = res from hres)
  clear hres
  have hu40 := Try.underlying40
  have hu34 := Try.underlying34
  have HR10 := Aside0.mk hr10
  have HR11 := Aside0.mk hr11
  clear hr10 hr11
  go_enter Try.func22, Try.ntmps22
  go_upto_region 1 with (fail)
  go_cut [4] (fun v4 wc => ∃ b : Bool, v4 = .bool b ∧ Aside0 (b = argBad a0 a1 a2) ∧ Aside0 (Bk wc w.heap.size #[.int .i64 a0, .int .i64 a1, .int .i64 a2, .int .i64 a3, .int .i64 a4, .int .i64 a5, .int .i64 a6, .int .i64 a7, .int .i64 a8, .bool a9, .slice A10 l10.length c10, .slice A11 l11.length c11] 40) ∧ Aside0 (Below w.heap.size w wc))
  case first =>
    have HB := Aside0.mk (below_alloc (Below.refl w.heap.size w) (.cells #[.int .i64 a0, .int .i64 a1, .int .i64 a2, .int .i64 a3, .int .i64 a4, .int .i64 a5, .int .i64 a6, .int .i64 a7, .int .i64 a8, .bool a9, .slice A10 l10.length c10, .slice A11 l11.length c11] 40 (0, 0)))
    have HK := Aside0.mk (blk_new w (.cells #[.int .i64 a0, .int .i64 a1, .int .i64 a2, .int .i64 a3, .int .i64 a4, .int .i64 a5, .int .i64 a6, .int .i64 a7, .int .i64 a8, .bool a9, .slice A10 l10.length c10, .slice A11 l11.length c11] 40 (0, 0)))
    generalize (w.alloc (.cells #[.int .i64 a0, .int .i64 a1, .int .i64 a2, .int .i64 a3, .int .i64 a4, .int .i64 a5, .int .i64 a6, .int .i64 a7, .int .i64 a8, .bool a9, .slice A10 l10.length c10, .slice A11 l11.length c11] 40 (0, 0))) = w1 at *
    have HK1 : Bk w1 w.heap.size _ 40 := HK.out
    have q0 := HK1.cell 0 _ rfl
    have q1 := HK1.cell 1 _ rfl
    have q2 := HK1.cell 2 _ rfl
    clear HK1
    have fin : ∀ n, Aside0 (Bk (w1.drewN n) w.heap.size #[.int .i64 a0, .int .i64 a1, .int .i64 a2, .int .i64 a3, .int .i64 a4, .int .i64 a5, .int .i64 a6, .int .i64 a7, .int .i64 a8, .bool a9, .slice A10 l10.length c10, .slice A11 l11.length c11] 40) ∧ Aside0 (Below w.heap.size w (w1.drewN n)) := fun n => ⟨⟨blk_drewN HK.out n⟩, ⟨pw_below_drewN HB.out n⟩⟩
    have HFIN := Aside0.mk fin
    clear fin
    go_wp2_with fail
    refine (in_calls a0 1 7 _).mono ?_
    rintro e w2 ⟨rfl, n1, rfl⟩
    by_cases k0 : 1 ≤ a0 ∧ a0 ≤ 7
    · have d0 : decide (1 ≤ a0 ∧ a0 ≤ 7) = true := decide_eq_true k0
      rw [d0]
      go_wp2_with fail
      refine (in_calls a1 1 9 _).mono ?_
      rintro e w2 ⟨rfl, n2, rfl⟩
      by_cases k1 : 1 ≤ a1 ∧ a1 ≤ 9
      · have d1 : decide (1 ≤ a1 ∧ a1 ≤ 9) = true := decide_eq_true k1
        rw [d1]
        go_wp2_with fail
        refine (in_calls a2 1 9 _).mono ?_
        rintro e w2 ⟨rfl, n3, rfl⟩
        obtain ⟨b2, d2⟩ : ∃ b, decide (1 ≤ a2 ∧ a2 ≤ 9) = b := ⟨_, rfl⟩
        rw [d2]
        replace d2 := Aside0.mk d2
        go_wp2_with fail
        go_meet
        case rel => exact ⟨_, rfl, ⟨by unfold argBad; rw [d0, d1, d2.out]; rfl⟩, HFIN.out _⟩
      · have d1 : decide (1 ≤ a1 ∧ a1 ≤ 9) = false := decide_eq_false k1
        rw [d1]
        go_wp2_with fail
        go_meet
        case rel => exact ⟨_, rfl, ⟨by unfold argBad; rw [d0, d1]; rfl⟩, HFIN.out _⟩
    · have d0 : decide (1 ≤ a0 ∧ a0 ≤ 7) = false := decide_eq_false k0
      rw [d0]
      go_wp2_with fail
      go_meet
      case rel => exact ⟨_, rfl, ⟨by unfold argBad; rw [d0]; rfl⟩, HFIN.out _⟩
  case rest =>
    obtain ⟨b1, rfl, HA, HK, HB⟩ := hcut
    go_upto_region 2 with (fail)
    go_cut [5] (fun v5 w' => ∃ b : Bool, v5 = .bool b ∧ Aside0 (b = (decide (8 < l10.length) || decide (32768 < l11.length))) ∧ Aside0 (Bk w' w.heap.size #[.int .i64 a0, .int .i64 a1, .int .i64 a2, .int .i64 a3, .int .i64 a4, .int .i64 a5, .int .i64 a6, .int .i64 a7, .int .i64 a8, .bool a9, .slice A10 l10.length c10, .slice A11 l11.length c11] 40) ∧ Aside0 (Below w.heap.size w w'))
    case first =>
      have HK1 : Bk wc w.heap.size _ 40 := HK.out
      have q0 := HK1.cell 10 _ rfl
      have q1 := HK1.cell 11 _ rfl
      clear HK1
      have e1 : decide ((8 : Int) < l10.length) = decide (8 < l10.length) := by rw [decide_eq_decide]; omega
      have e2 : decide ((32768 : Int) < l11.length) = decide (32768 < l11.length) := by rw [decide_eq_decide]; omega
      by_cases k0 : 8 < l10.length
      · have d0 : decide (8 < l10.length) = true := decide_eq_true k0
        rw [d0] at e1
        go_wp2_with fail
        go_meet
        case rel => exact ⟨_, rfl, ⟨by rw [d0]; rfl⟩, ⟨HK.out⟩, ⟨HB.out⟩⟩
      · have d0 : decide (8 < l10.length) = false := decide_eq_false k0
        rw [d0] at e1
        go_wp2_with fail
        go_meet
        case rel => exact ⟨_, rfl, ⟨by rw [d0]; rfl⟩, ⟨HK.out⟩, ⟨HB.out⟩⟩
    case rest =>
      obtain ⟨b2, rfl, HL, HK, HB⟩ := hcut
      go_step
      go_step
      go_cut [4] (fun v4 w' => ∃ b : Bool, v4 = .bool b ∧ Aside0 (b = accN b1 [a3, a4, a5, a6, a7, a8] 6) ∧ Aside0 (Bk w' w.heap.size #[.int .i64 a0, .int .i64 a1, .int .i64 a2, .int .i64 a3, .int .i64 a4, .int .i64 a5, .int .i64 a6, .int .i64 a7, .int .i64 a8, .bool a9, .slice A10 l10.length c10, .slice A11 l11.length c11] 40) ∧ Aside0 (Below w.heap.size w w'))
      case first =>
        have HK1 : Bk wc w.heap.size _ 40 := HK.out
        have q0 := HK1.cell 0 _ rfl
        have q1 := HK1.cell 1 _ rfl
        have q2 := HK1.cell 2 _ rfl
        have q3 := HK1.cell 3 _ rfl
        have q4 := HK1.cell 4 _ rfl
        have q5 := HK1.cell 5 _ rfl
        have q6 := HK1.cell 6 _ rfl
        have q7 := HK1.cell 7 _ rfl
        have q8 := HK1.cell 8 _ rfl
        have q9 := HK1.cell 9 _ rfl
        have q10 := HK1.cell 10 _ rfl
        have q11 := HK1.cell 11 _ rfl
        clear HK1
        go_wp2_with fail
        refine (numbers_calls _ _ _ _ _ _ _ _ _ _ _ _ _ a3 a4 a5 a6 a7 a8 rfl rfl rfl rfl rfl rfl).mono ?_
        rintro e w2 ⟨rfl, B2⟩
        clear q0 q1 q2 q3 q4 q5 q6 q7 q8 q9 q10 q11
        have HK2 := Aside0.mk (blk_below HK.out B2)
        have HB2 := Aside0.mk (below_step HB.out B2)
        clear B2
        go_wp2_with fail
        go_loopg [45, 4] 6 (fun kq v45 v4 w' => ∃ (i : Int) (b : Bool), v45 = .int .i64 i ∧ v4 = .bool b ∧ 0 ≤ i ∧ i + kq = 6 ∧ Aside0 (b = accN b1 [a3, a4, a5, a6, a7, a8] i.toNat) ∧ Aside0 (Bk w' w.heap.size #[.int .i64 a0, .int .i64 a1, .int .i64 a2, .int .i64 a3, .int .i64 a4, .int .i64 a5, .int .i64 a6, .int .i64 a7, .int .i64 a8, .bool a9, .slice A10 l10.length c10, .slice A11 l11.length c11] 40) ∧ Aside0 (Below w.heap.size w w'))
        case atStart => exact ⟨0, b1, rfl, rfl, by omega, by omega, ⟨rfl⟩, HK2, HB2⟩
        case round =>
          obtain ⟨i, b, rfl, rfl, i0, i1, HN, HK3, HB3⟩ := hrel
          rcases (show i = 6 ∨ i = 0 ∨ i = 1 ∨ i = 2 ∨ i = 3 ∨ i = 4 ∨ i = 5 by omega) with rfl | rfl | rfl | rfl | rfl | rfl | rfl
          · go_wp2_with fail
            go_meet
            case rel => exact ⟨_, rfl, HN, HK3, HB3⟩
          · cases b with
            | true =>
              go_wp2_with fail
              go_roundg 5
              case measure => omega
              case rel => exact ⟨1, true, rfl, rfl, by omega, by omega, ⟨by show true = (accN b1 [a3, a4, a5, a6, a7, a8] 0 || nbad a3); rw [← show true = accN b1 [a3, a4, a5, a6, a7, a8] 0 from HN.out]; rfl⟩, HK3, HB3⟩
            | false =>
              go_wp2_with fail
              refine (in_calls a3 0 1099511627776 _).mono ?_
              rintro e w3 ⟨rfl, n1, rfl⟩
              obtain ⟨bb, d2⟩ : ∃ b, decide (0 ≤ a3 ∧ a3 ≤ 1099511627776) = b := ⟨_, rfl⟩
              rw [d2]
              replace d2 := Aside0.mk d2
              go_wp2_with fail
              go_roundg 5
              case measure => omega
              case rel => exact ⟨1, !bb, rfl, rfl, by omega, by omega, ⟨by show (!bb) = (accN b1 [a3, a4, a5, a6, a7, a8] 0 || nbad a3); rw [← show false = accN b1 [a3, a4, a5, a6, a7, a8] 0 from HN.out, nbad, d2.out]; rfl⟩, ⟨blk_drewN HK3.out _⟩, ⟨pw_below_drewN HB3.out _⟩⟩
          · cases b with
            | true =>
              go_wp2_with fail
              go_roundg 4
              case measure => omega
              case rel => exact ⟨2, true, rfl, rfl, by omega, by omega, ⟨by show true = (accN b1 [a3, a4, a5, a6, a7, a8] 1 || nbad a4); rw [← show true = accN b1 [a3, a4, a5, a6, a7, a8] 1 from HN.out]; rfl⟩, HK3, HB3⟩
            | false =>
              go_wp2_with fail
              refine (in_calls a4 0 1099511627776 _).mono ?_
              rintro e w3 ⟨rfl, n1, rfl⟩
              obtain ⟨bb, d2⟩ : ∃ b, decide (0 ≤ a4 ∧ a4 ≤ 1099511627776) = b := ⟨_, rfl⟩
              rw [d2]
              replace d2 := Aside0.mk d2
              go_wp2_with fail
              go_roundg 4
              case measure => omega
              case rel => exact ⟨2, !bb, rfl, rfl, by omega, by omega, ⟨by show (!bb) = (accN b1 [a3, a4, a5, a6, a7, a8] 1 || nbad a4); rw [← show false = accN b1 [a3, a4, a5, a6, a7, a8] 1 from HN.out, nbad, d2.out]; rfl⟩, ⟨blk_drewN HK3.out _⟩, ⟨pw_below_drewN HB3.out _⟩⟩
          · cases b with
            | true =>
              go_wp2_with fail
              go_roundg 3
              case measure => omega
              case rel => exact ⟨3, true, rfl, rfl, by omega, by omega, ⟨by show true = (accN b1 [a3, a4, a5, a6, a7, a8] 2 || nbad a5); rw [← show true = accN b1 [a3, a4, a5, a6, a7, a8] 2 from HN.out]; rfl⟩, HK3, HB3⟩
            | false =>
              go_wp2_with fail
              refine (in_calls a5 0 1099511627776 _).mono ?_
              rintro e w3 ⟨rfl, n1, rfl⟩
              obtain ⟨bb, d2⟩ : ∃ b, decide (0 ≤ a5 ∧ a5 ≤ 1099511627776) = b := ⟨_, rfl⟩
              rw [d2]
              replace d2 := Aside0.mk d2
              go_wp2_with fail
              go_roundg 3
              case measure => omega
              case rel => exact ⟨3, !bb, rfl, rfl, by omega, by omega, ⟨by show (!bb) = (accN b1 [a3, a4, a5, a6, a7, a8] 2 || nbad a5); rw [← show false = accN b1 [a3, a4, a5, a6, a7, a8] 2 from HN.out, nbad, d2.out]; rfl⟩, ⟨blk_drewN HK3.out _⟩, ⟨pw_below_drewN HB3.out _⟩⟩
          · cases b with
            | true =>
              go_wp2_with fail
              go_roundg 2
              case measure => omega
              case rel => exact ⟨4, true, rfl, rfl, by omega, by omega, ⟨by show true = (accN b1 [a3, a4, a5, a6, a7, a8] 3 || nbad a6); rw [← show true = accN b1 [a3, a4, a5, a6, a7, a8] 3 from HN.out]; rfl⟩, HK3, HB3⟩
            | false =>
              go_wp2_with fail
              refine (in_calls a6 0 1099511627776 _).mono ?_
              rintro e w3 ⟨rfl, n1, rfl⟩
              obtain ⟨bb, d2⟩ : ∃ b, decide (0 ≤ a6 ∧ a6 ≤ 1099511627776) = b := ⟨_, rfl⟩
              rw [d2]
              replace d2 := Aside0.mk d2
              go_wp2_with fail
              go_roundg 2
              case measure => omega
              case rel => exact ⟨4, !bb, rfl, rfl, by omega, by omega, ⟨by show (!bb) = (accN b1 [a3, a4, a5, a6, a7, a8] 3 || nbad a6); rw [← show false = accN b1 [a3, a4, a5, a6, a7, a8] 3 from HN.out, nbad, d2.out]; rfl⟩, ⟨blk_drewN HK3.out _⟩, ⟨pw_below_drewN HB3.out _⟩⟩
          · cases b with
            | true =>
              go_wp2_with fail
              go_roundg 1
              case measure => omega
              case rel => exact ⟨5, true, rfl, rfl, by omega, by omega, ⟨by show true = (accN b1 [a3, a4, a5, a6, a7, a8] 4 || nbad a7); rw [← show true = accN b1 [a3, a4, a5, a6, a7, a8] 4 from HN.out]; rfl⟩, HK3, HB3⟩
            | false =>
              go_wp2_with fail
              refine (in_calls a7 0 1099511627776 _).mono ?_
              rintro e w3 ⟨rfl, n1, rfl⟩
              obtain ⟨bb, d2⟩ : ∃ b, decide (0 ≤ a7 ∧ a7 ≤ 1099511627776) = b := ⟨_, rfl⟩
              rw [d2]
              replace d2 := Aside0.mk d2
              go_wp2_with fail
              go_roundg 1
              case measure => omega
              case rel => exact ⟨5, !bb, rfl, rfl, by omega, by omega, ⟨by show (!bb) = (accN b1 [a3, a4, a5, a6, a7, a8] 4 || nbad a7); rw [← show false = accN b1 [a3, a4, a5, a6, a7, a8] 4 from HN.out, nbad, d2.out]; rfl⟩, ⟨blk_drewN HK3.out _⟩, ⟨pw_below_drewN HB3.out _⟩⟩
          · cases b with
            | true =>
              go_wp2_with fail
              go_roundg 0
              case measure => omega
              case rel => exact ⟨6, true, rfl, rfl, by omega, by omega, ⟨by show true = (accN b1 [a3, a4, a5, a6, a7, a8] 5 || nbad a8); rw [← show true = accN b1 [a3, a4, a5, a6, a7, a8] 5 from HN.out]; rfl⟩, HK3, HB3⟩
            | false =>
              go_wp2_with fail
              refine (in_calls a8 0 1099511627776 _).mono ?_
              rintro e w3 ⟨rfl, n1, rfl⟩
              obtain ⟨bb, d2⟩ : ∃ b, decide (0 ≤ a8 ∧ a8 ≤ 1099511627776) = b := ⟨_, rfl⟩
              rw [d2]
              replace d2 := Aside0.mk d2
              go_wp2_with fail
              go_roundg 0
              case measure => omega
              case rel => exact ⟨6, !bb, rfl, rfl, by omega, by omega, ⟨by show (!bb) = (accN b1 [a3, a4, a5, a6, a7, a8] 5 || nbad a8); rw [← show false = accN b1 [a3, a4, a5, a6, a7, a8] 5 from HN.out, nbad, d2.out]; rfl⟩, ⟨blk_drewN HK3.out _⟩, ⟨pw_below_drewN HB3.out _⟩⟩
      case rest =>
        obtain ⟨b3, rfl, HA3, HK, HB⟩ := hcut
        go_step
        go_step
        go_cut [4, 5] (fun v4 v5 w' => ∃ b c : Bool, v4 = .bool b ∧ v5 = .bool c ∧ Aside0 (b = (b3 || l10.any eArg)) ∧ Aside0 (c = (b2 || l10.any eLim)) ∧ Aside0 (Bk w' w.heap.size #[.int .i64 a0, .int .i64 a1, .int .i64 a2, .int .i64 a3, .int .i64 a4, .int .i64 a5, .int .i64 a6, .int .i64 a7, .int .i64 a8, .bool a9, .slice A10 l10.length c10, .slice A11 l11.length c11] 40) ∧ Aside0 (Below w.heap.size w w'))
        case first =>
          have HK1 : Bk wc w.heap.size _ 40 := HK.out
          have q10 := HK1.cell 10 _ rfl
          clear HK1
          go_wp2_with fail
          clear q10
          go_loopg [58, 4, 5] l10.length (fun kq v58 v4 v5 w' => ∃ (i : Int) (b c : Bool), v58 = .int .i64 i ∧ v4 = .bool b ∧ v5 = .bool c ∧ 0 ≤ i ∧ i + kq = l10.length ∧ Aside0 (b = accE eArg b3 l10 i) ∧ Aside0 (c = accE eLim b2 l10 i) ∧ Aside0 (Bk w' w.heap.size #[.int .i64 a0, .int .i64 a1, .int .i64 a2, .int .i64 a3, .int .i64 a4, .int .i64 a5, .int .i64 a6, .int .i64 a7, .int .i64 a8, .bool a9, .slice A10 l10.length c10, .slice A11 l11.length c11] 40) ∧ Aside0 (Below w.heap.size w w'))
          case atStart => exact ⟨0, b3, b2, rfl, rfl, rfl, by omega, by omega, ⟨(accE_zero _ _ _).symm⟩, ⟨(accE_zero _ _ _).symm⟩, HK, HB⟩
          case round =>
            obtain ⟨i, b, c, rfl, rfl, rfl, i0, i1, HN, HM, HK3, HB3⟩ := hrel
            by_cases h6 : i < (l10.length : Int)
            · have c6 : decide (i < (l10.length : Int)) = true := decide_eq_true h6
              have HW := Aside0.mk (show wrap64 (i + 1) = i + 1 from wrap64_in (by omega))
              have HS1 := Aside0.mk (accE_step eArg b3 l10 i i0 h6)
              have HS2 := Aside0.mk (accE_step eLim b2 l10 i i0 h6)
              obtain ⟨ad, A3, c3, e1, hx0, hx1, hx2, hx3, hl3, hi3⟩ := at_T34 HR10.out i i0 h6
              cases e1
              replace hx0 := (HB3.out.cell (World.block_lt_of_cell? w _ hx0)).trans hx0
              replace hx1 := (HB3.out.cell (World.block_lt_of_cell? w _ hx1)).trans hx1
              replace hx2 := (HB3.out.cell (World.block_lt_of_cell? w _ hx2)).trans hx2
              replace hx3 := (HB3.out.cell (World.block_lt_of_cell? w _ hx3)).trans hx3
              have HI3 := Aside0.mk hi3
              clear hi3
              have p0 := eq_true i0
              have p1 := eq_true h6
              go_wp2_with fail
              refine (wire_entry.calls _ _ _ _ _ _ _ _ _ (Kd.C_alloc (Kd.C_below HI3.out HB3.out) _) hl3 (entry_f _ _ _ _)).mono ?_
              rintro e w5 ⟨rfl, B5⟩
              obtain ⟨ba, hba⟩ : ∃ b, decide (entBad (rd_T34 l10 i).f0 (rd_T34 l10 i).f1 (rd_T34 l10 i).f2 (rd_T34 l10 i).f3) = b := ⟨_, rfl⟩
              obtain ⟨bl, hbl⟩ : ∃ b, decide (2048 < (rd_T34 l10 i).f3.length) = b := ⟨_, rfl⟩
              rw [hba, hbl]
              replace hba := Aside0.mk (show eArg (rd_T34 l10 i) = ba from hba)
              replace hbl := Aside0.mk (show eLim (rd_T34 l10 i) = bl from hbl)
              have HK5 := Aside0.mk (blk_below (blk_alloc HK3.out _) B5)
              have HB5 := Aside0.mk (below_step (below_alloc HB3.out _) B5)
              clear B5 hx0 hx1 hx2 hx3
              clear hl3 HI3
              cases b with
              | true => 
                cases c with
                | true => 
                  go_wp2_with fail
                  go_roundg (gk - 1)
                  case measure => omega
                  case rel => exact ⟨i + 1, _, _, rfl, rfl, rfl, by omega, by omega, ⟨by rw [HS1.out, ← HN.out]; rfl⟩, ⟨by rw [HS2.out, ← HM.out]; rfl⟩, HK5, HB5⟩
                | false =>
                  go_wp2_with fail
                  go_roundg (gk - 1)
                  case measure => omega
                  case rel => exact ⟨i + 1, _, _, rfl, rfl, rfl, by omega, by omega, ⟨by rw [HS1.out, ← HN.out]; rfl⟩, ⟨by rw [HS2.out, ← HM.out, hbl.out]; rfl⟩, HK5, HB5⟩
              | false =>
                cases c with
                | true => 
                  go_wp2_with fail
                  go_roundg (gk - 1)
                  case measure => omega
                  case rel => exact ⟨i + 1, _, _, rfl, rfl, rfl, by omega, by omega, ⟨by rw [HS1.out, ← HN.out, hba.out]; rfl⟩, ⟨by rw [HS2.out, ← HM.out]; rfl⟩, HK5, HB5⟩
                | false =>
                  go_wp2_with fail
                  go_roundg (gk - 1)
                  case measure => omega
                  case rel => exact ⟨i + 1, _, _, rfl, rfl, rfl, by omega, by omega, ⟨by rw [HS1.out, ← HN.out, hba.out]; rfl⟩, ⟨by rw [HS2.out, ← HM.out, hbl.out]; rfl⟩, HK5, HB5⟩
            · have c6 : decide (i < (l10.length : Int)) = false := decide_eq_false h6
              have hi : i = l10.length := by omega
              subst hi
              go_wp2_with fail
              go_meet
              case rel => exact ⟨_, _, rfl, rfl, ⟨by rw [HN.out, accE_all]⟩, ⟨by rw [HM.out, accE_all]⟩, HK3, HB3⟩
        case rest =>
          obtain ⟨b4, b5, rfl, rfl, HA4, HL4, HK, HB⟩ := hcut
          have HPA := Aside0.mk (show b4 = msgArg a0 a1 a2 a3 a4 a5 a6 a7 a8 l10 by rw [HA4.out, HA3.out, HA.out]; rfl)
          have HPL := Aside0.mk (show b5 = msgLim l10 l11 by rw [HL4.out, HL.out]; rfl)
          clear HA HL HA3 HA4 HL4
          cases b4 with
          | true =>
            go_wp2_with fail
            go_ret2
            have hx := HRES.out
            rw [show msgErr a0 a1 a2 a3 a4 a5 a6 a7 a8 l10 l11 = 2 from if_pos HPA.out.symm, if_neg (by decide)] at hx
            subst hx
            exact ⟨_, rfl, Kd.R_nil _ _ _ _ _, HB.out⟩
          | false =>
          have hnm : ¬ msgArg a0 a1 a2 a3 a4 a5 a6 a7 a8 l10 = true := fun h => by rw [h] at HPA; cases HPA.out
          have HNM := Aside0.mk hnm
          clear hnm
          cases b5 with
          | true =>
            go_wp2_with fail
            go_ret2
            have hx := HRES.out
            rw [show msgErr a0 a1 a2 a3 a4 a5 a6 a7 a8 l10 l11 = 6 from (if_neg HNM.out).trans (if_pos HPL.out.symm), if_neg (by decide)] at hx
            subst hx
            exact ⟨_, rfl, Kd.R_nil _ _ _ _ _, HB.out⟩
          | false =>
          have hnm : ¬ msgLim l10 l11 = true := fun h => by rw [h] at HPL; cases HPL.out
          have hx := HRES.out
          rw [show msgErr a0 a1 a2 a3 a4 a5 a6 a7 a8 l10 l11 = 0 from (if_neg HNM.out).trans (if_neg hnm), if_pos rfl] at hx
          have HX := Aside0.mk hx
          have HNL := Aside0.mk hnm
          clear hx hnm HRES HPA HPL
          have hle1 : w.heap.size + 1 ≤ wc.heap.size := by have := HK.out.lt; omega
          go_upto_region 18 with (fail)
          go_cut [12] (fun v12 w' => ∃ g : Nat, v12 = .slice (some ⟨g, 0, none⟩) 4 4 ∧ w.heap.size + 1 ≤ g ∧ Aside0 (Bk w' g #[.int .u8 a0, .int .u8 a1, .int .u8 a2, .int .u8 0] 5) ∧ Aside0 (Bk w' w.heap.size #[.int .i64 a0, .int .i64 a1, .int .i64 a2, .int .i64 a3, .int .i64 a4, .int .i64 a5, .int .i64 a6, .int .i64 a7, .int .i64 a8, .bool a9, .slice A10 l10.length c10, .slice A11 l11.length c11] 40) ∧ Aside0 (Below w.heap.size w w'))
          case first =>
            have HK1 : Bk wc w.heap.size _ 40 := HK.out
            have q0 := HK1.cell 0 _ rfl
            have q1 := HK1.cell 1 _ rfl
            have q2 := HK1.cell 2 _ rfl
            clear HK1
            go_wp2_with fail
            go_meet
            case rel =>
              obtain ⟨m0, m1, m2, _⟩ := msgArg_ok HNM.out
              rw [show a0 % 256 = a0 by omega, show a1 % 256 = a1 by omega, show a2 % 256 = a2 by omega]
              exact ⟨_, rfl, hle1, ⟨blk_new wc _⟩, ⟨blk_alloc HK.out _⟩, ⟨below_alloc HB.out _⟩⟩
          case rest =>
          clear HK HB hle1
          obtain ⟨g6, rfl, hg6, HG, HK, HB⟩ := hcut
          go_step
          go_step
          go_cut [12] (fun v12 w' => Aside0 (Kd.R (Kd.int .u8) 5 w' w.heap.size (fun k => w.heap.size + 1 ≤ k) v12 (msgHead a0 a1 a2 a9)) ∧ Aside0 (Bk w' w.heap.size #[.int .i64 a0, .int .i64 a1, .int .i64 a2, .int .i64 a3, .int .i64 a4, .int .i64 a5, .int .i64 a6, .int .i64 a7, .int .i64 a8, .bool a9, .slice A10 l10.length c10, .slice A11 l11.length c11] 40) ∧ Aside0 (Below w.heap.size w w'))
          case first =>
            have HK1 : Bk wc w.heap.size _ 40 := HK.out
            have q9 := HK1.cell 9 _ rfl
            have HG1 : Bk wc g6 _ 5 := HG.out
            have g3 := HG1.cell 3 _ rfl
            have f3 := HG1.frozen 3
            clear HK1 HG1
            cases a9 with
            | true =>
              go_wp2_with fail
              go_meet
              case rel => exact ⟨⟨R_of_bk (HG.out.set 3 (.int .u8 1)) (by omega) (by omega)⟩, ⟨HK.out.setFar _ (by show w.heap.size ≠ g6; omega) _⟩, ⟨HB.out.setCell (p := ⟨g6, 3, none⟩) (by show w.heap.size ≤ g6; omega) _⟩⟩
            | false =>
              go_wp2_with fail
              go_meet
              case rel => exact ⟨⟨R_of_bk HG.out (by omega) (by omega)⟩, HK, HB⟩
          case rest =>
          clear HK HB HG hg6
          obtain ⟨HR, HK, HB⟩ := hcut
          go_step
          go_step
          go_cut [12] (fun v12 w' => Aside0 (Kd.R (Kd.int .u8) 5 w' w.heap.size (fun k => w.heap.size + 1 ≤ k) v12 (msgHead a0 a1 a2 a9 ++ encsUpto [a3, a4, a5, a6, a7, a8] 6)) ∧ Aside0 (Bk w' w.heap.size #[.int .i64 a0, .int .i64 a1, .int .i64 a2, .int .i64 a3, .int .i64 a4, .int .i64 a5, .int .i64 a6, .int .i64 a7, .int .i64 a8, .bool a9, .slice A10 l10.length c10, .slice A11 l11.length c11] 40) ∧ Aside0 (Below w.heap.size w w'))
          case first =>
            have HK1 : Bk wc w.heap.size _ 40 := HK.out
            have q0 := HK1.cell 0 _ rfl
            have q1 := HK1.cell 1 _ rfl
            have q2 := HK1.cell 2 _ rfl
            have q3 := HK1.cell 3 _ rfl
            have q4 := HK1.cell 4 _ rfl
            have q5 := HK1.cell 5 _ rfl
            have q6 := HK1.cell 6 _ rfl
            have q7 := HK1.cell 7 _ rfl
            have q8 := HK1.cell 8 _ rfl
            have q9 := HK1.cell 9 _ rfl
            have q10 := HK1.cell 10 _ rfl
            have q11 := HK1.cell 11 _ rfl
            clear HK1
            go_wp2_with fail
            refine (numbers_calls _ _ _ _ _ _ _ _ _ _ _ _ _ a3 a4 a5 a6 a7 a8 rfl rfl rfl rfl rfl rfl).mono ?_
            rintro e w2 ⟨rfl, B2⟩
            clear q0 q1 q2 q3 q4 q5 q6 q7 q8 q9 q10 q11
            have HK2 := Aside0.mk (blk_below HK.out B2)
            have HB2 := Aside0.mk (below_step HB.out B2)
            have HR2 := Aside0.mk (Kd.R_below HR.out B2)
            clear B2
            go_wp2_with fail
            go_loopg [96, 12] 6 (fun kq v96 v12 w' => ∃ i : Int, v96 = .int .i64 i ∧ 0 ≤ i ∧ i + kq = 6 ∧ Aside0 (Kd.R (Kd.int .u8) 5 w' w.heap.size (fun k => w.heap.size + 1 ≤ k) v12 (msgHead a0 a1 a2 a9 ++ encsUpto [a3, a4, a5, a6, a7, a8] i)) ∧ Aside0 (Bk w' w.heap.size #[.int .i64 a0, .int .i64 a1, .int .i64 a2, .int .i64 a3, .int .i64 a4, .int .i64 a5, .int .i64 a6, .int .i64 a7, .int .i64 a8, .bool a9, .slice A10 l10.length c10, .slice A11 l11.length c11] 40) ∧ Aside0 (Below w.heap.size w w'))
            case atStart => exact ⟨0, rfl, by omega, by omega, ⟨by rw [encsUpto_zero]; exact HR2.out⟩, HK2, HB2⟩
            case round =>
              obtain ⟨i, rfl, i0, i1, HR3, HK3, HB3⟩ := hrel
              rcases (show i = 6 ∨ i = 0 ∨ i = 1 ∨ i = 2 ∨ i = 3 ∨ i = 4 ∨ i = 5 by omega) with rfl | rfl | rfl | rfl | rfl | rfl | rfl
              · go_wp2_with fail
                go_meet
                case rel => exact ⟨⟨HR3.out⟩, HK3, HB3⟩
              · have hn := msgArg_num (a9 := a9) HNM.out 0 (by decide)
                go_wp2_with fail
                refine (wire_number.calls 10 _ _ _ a3 _ w _ HB3.out HR3.out (number_f hn.1.1 hn.1.2 (by omega) hn.2)).mono ?_
                rintro e w3 ⟨v3, rfl, R3, B3, K3⟩
                have HR4 := Aside0.mk (row_step R3 HK3.out)
                have HB4 := Aside0.mk B3
                have HK4 := Aside0.mk (blk_kept HK3.out K3 (by omega))
                clear R3 B3 K3 hn
                go_wp2_with fail
                go_roundg 5
                case measure => omega
                case rel => exact ⟨1, rfl, by omega, by omega, ⟨by rw [encsUpto_0] at HR4; exact HR4.out⟩, HK4, HB4⟩
              · have hn := msgArg_num (a9 := a9) HNM.out 1 (by decide)
                go_wp2_with fail
                refine (wire_number.calls 10 _ _ _ a4 _ w _ HB3.out HR3.out (number_f hn.1.1 hn.1.2 (by omega) hn.2)).mono ?_
                rintro e w3 ⟨v3, rfl, R3, B3, K3⟩
                have HR4 := Aside0.mk (row_step R3 HK3.out)
                have HB4 := Aside0.mk B3
                have HK4 := Aside0.mk (blk_kept HK3.out K3 (by omega))
                clear R3 B3 K3 hn
                go_wp2_with fail
                go_roundg 4
                case measure => omega
                case rel => exact ⟨2, rfl, by omega, by omega, ⟨by rw [encsUpto_1] at HR4; exact HR4.out⟩, HK4, HB4⟩
              · have hn := msgArg_num (a9 := a9) HNM.out 2 (by decide)
                go_wp2_with fail
                refine (wire_number.calls 10 _ _ _ a5 _ w _ HB3.out HR3.out (number_f hn.1.1 hn.1.2 (by omega) hn.2)).mono ?_
                rintro e w3 ⟨v3, rfl, R3, B3, K3⟩
                have HR4 := Aside0.mk (row_step R3 HK3.out)
                have HB4 := Aside0.mk B3
                have HK4 := Aside0.mk (blk_kept HK3.out K3 (by omega))
                clear R3 B3 K3 hn
                go_wp2_with fail
                go_roundg 3
                case measure => omega
                case rel => exact ⟨3, rfl, by omega, by omega, ⟨by rw [encsUpto_2] at HR4; exact HR4.out⟩, HK4, HB4⟩
              · have hn := msgArg_num (a9 := a9) HNM.out 3 (by decide)
                go_wp2_with fail
                refine (wire_number.calls 10 _ _ _ a6 _ w _ HB3.out HR3.out (number_f hn.1.1 hn.1.2 (by omega) hn.2)).mono ?_
                rintro e w3 ⟨v3, rfl, R3, B3, K3⟩
                have HR4 := Aside0.mk (row_step R3 HK3.out)
                have HB4 := Aside0.mk B3
                have HK4 := Aside0.mk (blk_kept HK3.out K3 (by omega))
                clear R3 B3 K3 hn
                go_wp2_with fail
                go_roundg 2
                case measure => omega
                case rel => exact ⟨4, rfl, by omega, by omega, ⟨by rw [encsUpto_3] at HR4; exact HR4.out⟩, HK4, HB4⟩
              · have hn := msgArg_num (a9 := a9) HNM.out 4 (by decide)
                go_wp2_with fail
                refine (wire_number.calls 10 _ _ _ a7 _ w _ HB3.out HR3.out (number_f hn.1.1 hn.1.2 (by omega) hn.2)).mono ?_
                rintro e w3 ⟨v3, rfl, R3, B3, K3⟩
                have HR4 := Aside0.mk (row_step R3 HK3.out)
                have HB4 := Aside0.mk B3
                have HK4 := Aside0.mk (blk_kept HK3.out K3 (by omega))
                clear R3 B3 K3 hn
                go_wp2_with fail
                go_roundg 1
                case measure => omega
                case rel => exact ⟨5, rfl, by omega, by omega, ⟨by rw [encsUpto_4] at HR4; exact HR4.out⟩, HK4, HB4⟩
              · have hn := msgArg_num (a9 := a9) HNM.out 5 (by decide)
                go_wp2_with fail
                refine (wire_number.calls 10 _ _ _ a8 _ w _ HB3.out HR3.out (number_f hn.1.1 hn.1.2 (by omega) hn.2)).mono ?_
                rintro e w3 ⟨v3, rfl, R3, B3, K3⟩
                have HR4 := Aside0.mk (row_step R3 HK3.out)
                have HB4 := Aside0.mk B3
                have HK4 := Aside0.mk (blk_kept HK3.out K3 (by omega))
                clear R3 B3 K3 hn
                go_wp2_with fail
                go_roundg 0
                case measure => omega
                case rel => exact ⟨6, rfl, by omega, by omega, ⟨by rw [encsUpto_5] at HR4; exact HR4.out⟩, HK4, HB4⟩
          case rest =>
          clear HK HB HR
          obtain ⟨HR, HK, HB⟩ := hcut
          have HK1 : Bk wc w.heap.size _ 40 := HK.out
          have q10 := HK1.cell 10 _ rfl
          clear HK1
          obtain ⟨e1, e2, e3⟩ := msgLim_ok HNL.out
          have hb1 := msgHead_bound (a9 := a9) HNM.out
          have HB1 := Aside0.mk hb1
          clear hb1
          have HE3 := Aside0.mk e3
          clear e3
          go_wp2_with fail
          refine (wire_number.calls 10 _ _ _ l10.length _ w _ HB.out HR.out (number_f (by omega) (by omega) (by omega) (by have := HB1.out; omega))).mono ?_
          rintro e w3 ⟨v3, rfl, R3, B3, K3⟩
          have HR4 := Aside0.mk (row_step R3 HK.out)
          have HB4 := Aside0.mk B3
          have HK4 := Aside0.mk (blk_kept HK.out K3 (by omega))
          clear R3 B3 K3 HR HK HB
          have q10 := HK4.out
          replace q10 := (show Bk w3 w.heap.size _ 40 from q10).cell 10 _ rfl
          obtain ⟨pre, hpre⟩ : ∃ pre, msgHead a0 a1 a2 a9 ++ encsUpto [a3, a4, a5, a6, a7, a8] 6 ++ enc l10.length = pre := ⟨_, rfl⟩
          rw [hpre] at HR4
          have hprel : pre.length ≤ 46 := by
            have h1 := enc_len (n := (l10.length : Int)) (by omega) (by omega)
            have h2 := HB1.out
            rw [← hpre, List.length_append]; omega
          have HPRE := Aside0.mk hpre
          clear hpre HB1
          go_wp2_with fail
          clear q10
          go_loopg [111, 12] l10.length (fun kq v111 v12 w' => ∃ i : Int, v111 = .int .i64 i ∧ 0 ≤ i ∧ i + kq = l10.length ∧ Aside0 (Kd.R (Kd.int .u8) 5 w' w.heap.size (fun k => w.heap.size + 1 ≤ k) v12 (pre ++ entsUpto l10 i)) ∧ Aside0 (Bk w' w.heap.size #[.int .i64 a0, .int .i64 a1, .int .i64 a2, .int .i64 a3, .int .i64 a4, .int .i64 a5, .int .i64 a6, .int .i64 a7, .int .i64 a8, .bool a9, .slice A10 l10.length c10, .slice A11 l11.length c11] 40) ∧ Aside0 (Below w.heap.size w w'))
          case atStart => exact ⟨0, rfl, by omega, by omega, ⟨by rw [entsUpto_zero]; exact HR4.out⟩, HK4, HB4⟩
          case round =>
            obtain ⟨i, rfl, i0, i1, HR5, HK5, HB5⟩ := hrel
            clear HR4 HK4 HB4
            have hents := entsUpto_len (msgArg_ok HNM.out).2.2.2.2.2.2.2.2.2 HE3.out e1 i
            by_cases h6 : i < (l10.length : Int)
            · have c6 : decide (i < (l10.length : Int)) = true := decide_eq_true h6
              have HS1 := Aside0.mk (entsUpto_step pre l10 i i0 h6)
              have hmem := rd_T34_mem l10 i i0 h6
              have HLF := Aside0.mk (lay_f (kk := 10) (b := pre ++ entsUpto l10 i) (by omega) (by rw [List.length_append]; omega) ((msgArg_ok HNM.out).2.2.2.2.2.2.2.2.2 _ hmem) (HE3.out _ hmem))
              clear hmem hents
              obtain ⟨ad, A3, c3, e1', hx0, hx1, hx2, hx3, hl3, hi3⟩ := at_T34 HR10.out i i0 h6
              cases e1'
              replace hx0 := (HB5.out.cell (World.block_lt_of_cell? w _ hx0)).trans hx0
              replace hx1 := (HB5.out.cell (World.block_lt_of_cell? w _ hx1)).trans hx1
              replace hx2 := (HB5.out.cell (World.block_lt_of_cell? w _ hx2)).trans hx2
              replace hx3 := (HB5.out.cell (World.block_lt_of_cell? w _ hx3)).trans hx3
              have HI3 := Aside0.mk hi3
              clear hi3
              have p0 := eq_true i0
              have p1 := eq_true h6
              go_wp2_with fail
              refine (wire_lay.calls 10 _ _ _ _ _ _ _ _ _ _ w _ (below_alloc HB5.out _) (Kd.R_alloc HR5.out _) (Kd.C_kept_came (Kd.heap_int .u8) HI3.out (below_alloc HB5.out _) (fun k hk => by omega)) hl3 HLF.out).mono ?_
              rintro e w5 ⟨v5, rfl, R5, B5, K5⟩
              have HR6 := Aside0.mk (row_step R5 (blk_alloc HK5.out _))
              have HB6 := Aside0.mk B5
              have HK6 := Aside0.mk (blk_kept (blk_alloc HK5.out _) K5 (by omega))
              clear R5 B5 K5 hx0 hx1 hx2 hx3 hl3 HI3 HLF
              go_wp2_with fail
              go_roundg (gk - 1)
              case measure => omega
              case rel => exact ⟨i + 1, rfl, by omega, by omega, ⟨by rw [← HS1.out]; exact HR6.out⟩, HK6, HB6⟩
            · have c6 : decide (i < (l10.length : Int)) = false := decide_eq_false h6
              have hi : i = l10.length := by omega
              subst hi
              have HK1 : Bk wr w.heap.size _ 40 := HK5.out
              have q11 := HK1.cell 11 _ rfl
              clear HK1
              rw [entsUpto_all] at HR5 hents
              obtain ⟨mid, hmid⟩ : ∃ mid, pre ++ l10.flatMap eBytes = mid := ⟨_, rfl⟩
              rw [hmid] at HR5
              have hmidl : mid.length ≤ 17000 := by rw [← hmid, List.length_append]; omega
              have HMID := Aside0.mk hmid
              clear hmid hents
              go_wp2_with fail
              refine (wire_number.calls 10 _ _ _ l11.length _ w _ HB5.out HR5.out (number_f (by omega) (by omega) (by omega) (by omega))).mono ?_
              rintro e w5 ⟨v5, rfl, R5, B5, K5⟩
              have HR6 := Aside0.mk (row_step R5 HK5.out)
              have HB6 := Aside0.mk B5
              have HK6 := Aside0.mk (blk_kept HK5.out K5 (by omega))
              clear R5 B5 K5 q11 HR5 HB5 HK5
              have HK1 : Bk w5 w.heap.size _ 40 := HK6.out
              have q11 := HK1.cell 11 _ rfl
              clear HK1
              go_upto_region 33 with (fail)
              have hlt5 := blk_lt HK6.out
              have hlast : mid.length + (enc (l11.length : Int)).length + l11.length ≤ 140737488355328 := by
                have := enc_len (n := (l11.length : Int)) (by omega) (by omega)
                omega
              go_wp2_with (first | ((with_reducible refine gate_builtin (b := .append) (xs := #[.tmp 124, .tmp 126]) rfl ?_); at_builtin; refine Kd.R_append_rows (Kd.int .u8) (w0 := w) w.heap.size rfl (.tmp 124) (.tmp 126) 22 5 (.int .u8 0) 1 rfl Try.underlying22 info5 rfl (by decide) (by omega) v5 (mid ++ enc l11.length) l11 _ _ _ (fun k => w.heap.size + 1 ≤ k) (fun _ => False) rfl rfl HR6.out ?aR (fun _ _ h => h) (fun _ h => h.elim) ?aF HB6.out ?aS ?aL ?_; (case aR => exact Kd.C_below HR11.out HB6.out); (case aF => exact fun k hk => Nat.le_trans hlt5 hk); (case aS => exact Nat.le_of_lt hlt5); (case aL => rw [List.length_append]; omega); intro v6 w6 ho hb hg hat; have n0_ := Aside0.mk ho; have n1_ := Aside0.mk hb; clear ho hb hg hat; have HR7 := n0_; have HB7 := n1_; clear n0_ n1_))
              go_ret2
              have hx := HX.out
              subst hx
              refine ⟨_, rfl, ?_, HB7.out⟩
              have hfin : msgBytes a0 a1 a2 a3 a4 a5 a6 a7 a8 a9 l10 l11 = mid ++ enc l11.length ++ l11 := by
                rw [← HMID.out, ← HPRE.out]; rfl
              rw [hfin]
              exact Kd.R_mono HR7.out (fun _ _ => trivial)
def wire_PutMsg.f (a0_0 : Int) (a0_1 : Int) (a0_2 : Int) (a0_3 : Int) (a0_4 : Int) (a0_5 : Int) (a0_6 : Int) (a0_7 : Int) (a0_8 : Int) (a0_9 : Bool) (l0_10 : List (S34)) (l0_11 : List Int) : Option (List Int × Int) :=
  if l0_10.length ≤ 140737488355328 then some (putMsg a0_0 a0_1 a0_2 a0_3 a0_4 a0_5 a0_6 a0_7 a0_8 a0_9 l0_10 l0_11) else none
theorem wire_PutMsg.calls (a0_0 : Int) (a0_1 : Int) (a0_2 : Int) (a0_3 : Int) (a0_4 : Int) (a0_5 : Int) (a0_6 : Int) (a0_7 : Int) (a0_8 : Int) (a0_9 : Bool) (A0_10 : Option Addr) (c0_10 : Nat) (l0_10 : List (S34)) (A0_11 : Option Addr) (c0_11 : Nat) (l0_11 : List Int) (r1 : List Int) (r2 : Int) (w : World) (hr0_10 : Kd.C k34 w A0_10 l0_10.length l0_10) (hc0_10 : l0_10.length ≤ c0_10) (hr0_11 : Kd.C (Kd.int .u8) w A0_11 l0_11.length l0_11) (hc0_11 : l0_11.length ≤ c0_11) (h : wire_PutMsg.f a0_0 a0_1 a0_2 a0_3 a0_4 a0_5 a0_6 a0_7 a0_8 a0_9 l0_10 l0_11 = some (r1, r2)) :
    Calls Try.prog 22 #[.agg #[.int .i64 a0_0, .int .i64 a0_1, .int .i64 a0_2, .int .i64 a0_3, .int .i64 a0_4, .int .i64 a0_5, .int .i64 a0_6, .int .i64 a0_7, .int .i64 a0_8, .bool a0_9, .slice A0_10 l0_10.length c0_10, .slice A0_11 l0_11.length c0_11]] w fun e w' => ∃ v0_ : Value, e = .returned (.tuple #[v0_, .int .i64 r2]) ∧ Kd.R (Kd.int .u8) 5 w' w.heap.size (fun _ => True) v0_ r1 ∧ Below w.heap.size w w' := by
  unfold wire_PutMsg.f at h
  by_cases hc : l0_10.length ≤ 140737488355328
  · rw [if_pos hc] at h
    exact putMsg_core _ _ _ _ _ _ _ _ _ _ _ _ _ _ _ _ _ hr0_10 hc0_10 hr0_11 hc0_11 hc _ (Option.some.inj h)
  · rw [if_neg hc] at h; cases h
end Go.Proofs.Ytlbioffpcoikaaa.PW
