/- The texts of this claim's seat, joined: part 3. -/
import Derived.Test.YtmmiipnmimjojaaJ2
import Derived.Test.YtmmiipnmimjojaaProg
import Derived.Below
import Derived.Deep.Draws
import Derived.Deep.AppendLies
import Derived.Maps.AppendAt
import Derived.OwnWalk
import Derived.Laws.BytesArg
import Derived.Laws.MakeOwn
import Derived.Laws.OwnMore
import Derived.Deep.OwnRows
import Derived.Tactics
import Derived.Lib.ConvBytes
import Derived.Laws.Slices
import Derived.WalkKit
import Derived.KernelRfl
import Derived.RowKit3
import Derived.Deep.LoopGhost
import Derived.Deep.QuietTactic
import Derived.BigQuiet
import Derived.WideLaws
import Derived.Deep.DeepCutAuto
import Derived.Deep.CutBlock
import Derived.Deep.RegionHeld3
import Derived.Laws.Rows
import Derived.Lib.AppendStr
import Derived.ArgAppend
import Derived.Laws.IdiomCopy
import Derived.OrdersHeld
import Derived.Laws.BitsLemmas
import Derived.RowKit
import GoSem.Op.String
import Derived.Maps.OwnOps
import Derived.Maps.OwnSet
import Derived.Maps.RangeWalk
import Derived.StringKeys
import Derived.Laws.CopyOwn
import Derived.WalkSpells
import Derived.Lib.SliceRun
section
namespace Go.Proofs.Ytmmiipnmimjojaa.PS
open Go.RowKit Go.Proofs.YtmmiipnmimjojaaW.PrintWords Go.Proofs.YtmmiipnmimjojaaW.PrintLast Go.Proofs.YtmmiipnmimjojaaW.PrintMore
attribute [local go_sem] max2_int min2_int max_two min_two max_three min_three max_four min_four   -- for this text's walks alone
set_option linter.unusedVariables false
set_option linter.unusedSimpArgs false



def errW : Option Int → Value
  | none => .nilIface
  | some c => .iface 0 (.int .i64 c)
theorem errW_none : errW none = .nilIface := rfl
theorem errW_some (c : Int) : errW (some c) = .iface 0 (.int .i64 c) := rfl

theorem info5 : (Try.prog.info? 5).map (fun i => (i.zero, i.size, i.bytes)) = some (some (.int .u8 0), 1, 1) := by kernel_rfl
theorem info144 : (Try.prog.info? 144).map (fun i => (i.zero, i.size, i.bytes)) = some (some (.agg #[(.string ⟨#[]⟩), (.bool false), (.slice none 0 0), (.slice none 0 0)]), 4, 72) := by kernel_rfl
structure S166 where
  f0 : Bool
  f1 : Int
  f2 : Int
def z166 : S166 := ⟨false, (0 : Int), (0 : Int)⟩
def k166 : Kd S166 := Kd.iso (Kd.pair Kd.bool (Kd.pair (Kd.int .i64) (Kd.int .u8))) (fun x : S166 => (x.f0, x.f1, x.f2))
theorem k166_open {w : World} {x : S166} {cs : List Value} (h : k166.K w x cs) : cs = [.bool x.f0, .int .i64 x.f1, .int .u8 x.f2] := by
  obtain ⟨_, _, rfl, rfl, ⟨_, _, rfl, rfl, rfl⟩⟩ := h
  exact rfl
theorem k166_mkM (w : World) (base : Nat) (ok : Nat → Prop) (x : S166)  : k166.M w base ok x [.bool x.f0, .int .i64 x.f1, .int .u8 x.f2] := ⟨[.bool x.f0], [.int .i64 x.f1, .int .u8 x.f2], rfl, rfl, ⟨[.int .i64 x.f1], [.int .u8 x.f2], rfl, rfl, rfl⟩⟩
def rd_T166 (xs : List S166) (i : Int) : S166 := xs.getD i.toNat z166
theorem at_T166 {w : World} {A : Option Addr} {n : Nat} {xs : List S166} (h : Kd.C k166 w A n xs) (i : Int) (h0 : 0 ≤ i) (h1 : i < n) : ∃ ad , A = some ad ∧ w.cell? (ad.add (i.toNat * 3)) = some (.bool (rd_T166 xs i).f0) ∧ w.cell? ⟨(ad.add (i.toNat * 3)).block, (ad.add (i.toNat * 3)).off + 1, none⟩ = some (.int .i64 (rd_T166 xs i).f1) ∧ w.cell? ⟨(ad.add (i.toNat * 3)).block, (ad.add (i.toNat * 3)).off + 2, none⟩ = some (.int .u8 (rd_T166 xs i).f2) := by
  obtain ⟨ad, c, e, _, hK, hc0⟩ := Kd.C_get h z166 i h0 h1
  have hc : ∀ j u, c[j]? = some u → w.cell? (ad.add (i.toNat * 3 + j)) = some u := hc0
  obtain rfl := k166_open hK
  exact ⟨ad, e, hc 0 _ rfl, by rw [← add_field _ _ 1 (by omega)]; exact hc 1 _ rfl, by rw [← add_field _ _ 2 (by omega)]; exact hc 2 _ rfl⟩



structure S144 where
  f0 : ByteArray
  f1 : Bool
  f2 : (List Int)
  f3 : (List S166)
def z144 : S144 := ⟨(⟨#[]⟩ : ByteArray), false, ([] : List Int), ([] : List S166)⟩
def k144 : Kd S144 := Kd.iso (Kd.pair Kd.string (Kd.pair Kd.bool (Kd.pair (Kd.slice 5 (Kd.int .u8)) (Kd.slice 166 k166)))) (fun x : S144 => (x.f0, x.f1, x.f2, x.f3))
theorem k144_open {w : World} {x : S144} {cs : List Value} (h : k144.K w x cs) : ∃ A2 c2 A3 c3, cs = [.string x.f0, .bool x.f1, .slice A2 x.f2.length c2, .slice A3 x.f3.length c3] ∧ x.f2.length ≤ c2 ∧ (Kd.int .u8).C w A2 x.f2.length x.f2 ∧ x.f3.length ≤ c3 ∧ k166.C w A3 x.f3.length x.f3 := by
  obtain ⟨_, _, rfl, rfl, ⟨_, _, rfl, rfl, ⟨_, _, rfl, ⟨A2, c2, rfl, l2, g2⟩, ⟨A3, c3, rfl, l3, g3⟩⟩⟩⟩ := h
  exact ⟨A2, c2, A3, c3, rfl, l2, g2, l3, g3⟩
theorem k144_mk (w : World) (x : S144) {A2 : Option Addr} {c2 : Nat} (l2 : x.f2.length ≤ c2) (g2 : (Kd.int .u8).C w A2 x.f2.length x.f2) {A3 : Option Addr} {c3 : Nat} (l3 : x.f3.length ≤ c3) (g3 : k166.C w A3 x.f3.length x.f3) : k144.K w x [.string x.f0, .bool x.f1, .slice A2 x.f2.length c2, .slice A3 x.f3.length c3] := ⟨[.string x.f0], [.bool x.f1, .slice A2 x.f2.length c2, .slice A3 x.f3.length c3], rfl, rfl, ⟨[.bool x.f1], [.slice A2 x.f2.length c2, .slice A3 x.f3.length c3], rfl, rfl, ⟨[.slice A2 x.f2.length c2], [.slice A3 x.f3.length c3], rfl, ⟨A2, c2, rfl, l2, g2⟩, ⟨A3, c3, rfl, l3, g3⟩⟩⟩⟩
theorem k144_openF {W : World} {ok : Nat → Prop} {x : S144} {cs : List Value} (h : Kd.FK k144 W ok x cs) : ∃ A2 c2 A3 c3, cs = [.string x.f0, .bool x.f1, .slice A2 x.f2.length c2, .slice A3 x.f3.length c3] ∧ x.f2.length ≤ c2 ∧ Kd.F (Kd.int .u8) W ok A2 x.f2.length x.f2 ∧ x.f3.length ≤ c3 ∧ Kd.F k166 W ok A3 x.f3.length x.f3 := by
  obtain ⟨A2, c2, A3, c3, rfl, l2, _, l3, _⟩ := k144_open (Kd.FK_now h)
  exact ⟨A2, c2, A3, c3, rfl, l2, (fun W' hW => by obtain ⟨A2_, c2_, A3_, c3_, he, l2_, g2_, l3_, g3_⟩ := k144_open (h W' hW); injection (Option.some.inj (show some (Value.slice A2 x.f2.length c2) = some (Value.slice A2_ x.f2.length c2_) from congrArg (fun l => l[2]?) he)) with ha_ _ _; rw [ha_]; exact g2_), l3, (fun W' hW => by obtain ⟨A2_, c2_, A3_, c3_, he, l2_, g2_, l3_, g3_⟩ := k144_open (h W' hW); injection (Option.some.inj (show some (Value.slice A3 x.f3.length c3) = some (Value.slice A3_ x.f3.length c3_) from congrArg (fun l => l[3]?) he)) with ha_ _ _; rw [ha_]; exact g3_)⟩
theorem k144_mkF (W : World) (ok : Nat → Prop) (x : S144) {A2 : Option Addr} {c2 : Nat} (l2 : x.f2.length ≤ c2) (g2 : Kd.F (Kd.int .u8) W ok A2 x.f2.length x.f2) {A3 : Option Addr} {c3 : Nat} (l3 : x.f3.length ≤ c3) (g3 : Kd.F k166 W ok A3 x.f3.length x.f3) : Kd.FK k144 W ok x [.string x.f0, .bool x.f1, .slice A2 x.f2.length c2, .slice A3 x.f3.length c3] := fun W2 hW => k144_mk W2 x l2 (g2 W2 hW) l3 (g3 W2 hW)
def rd_T144 (xs : List S144) (i : Int) : S144 := xs.getD i.toNat z144
theorem at_T144 {w : World} {A : Option Addr} {n : Nat} {xs : List S144} (h : Kd.C k144 w A n xs) (i : Int) (h0 : 0 ≤ i) (h1 : i < n) : ∃ ad A2 c2 A3 c3, A = some ad ∧ w.cell? (ad.add (i.toNat * 4)) = some (.string (rd_T144 xs i).f0) ∧ w.cell? ⟨(ad.add (i.toNat * 4)).block, (ad.add (i.toNat * 4)).off + 1, none⟩ = some (.bool (rd_T144 xs i).f1) ∧ w.cell? ⟨(ad.add (i.toNat * 4)).block, (ad.add (i.toNat * 4)).off + 2, none⟩ = some (.slice A2 (rd_T144 xs i).f2.length c2) ∧ w.cell? ⟨(ad.add (i.toNat * 4)).block, (ad.add (i.toNat * 4)).off + 3, none⟩ = some (.slice A3 (rd_T144 xs i).f3.length c3) ∧ (rd_T144 xs i).f2.length ≤ c2 ∧ (Kd.int .u8).C w A2 (rd_T144 xs i).f2.length (rd_T144 xs i).f2 ∧ (rd_T144 xs i).f3.length ≤ c3 ∧ k166.C w A3 (rd_T144 xs i).f3.length (rd_T144 xs i).f3 := by
  obtain ⟨ad, c, e, _, hK, hc0⟩ := Kd.C_get h z144 i h0 h1
  have hc : ∀ j u, c[j]? = some u → w.cell? (ad.add (i.toNat * 4 + j)) = some u := hc0
  obtain ⟨A2, c2, A3, c3, rfl, l2, g2, l3, g3⟩ := k144_open hK
  exact ⟨ad, A2, c2, A3, c3, e, hc 0 _ rfl, by rw [← add_field _ _ 1 (by omega)]; exact hc 1 _ rfl, by rw [← add_field _ _ 2 (by omega)]; exact hc 2 _ rfl, by rw [← add_field _ _ 3 (by omega)]; exact hc 3 _ rfl, l2, g2, l3, g3⟩

structure S48 where
  f0 : Int
  f1 : Int
  f2 : Int
  f3 : (List Int)



structure S140 where
  f0 : Int
  f1 : (List S144)


structure S58 where
  f0 : Int
  f1 : ByteArray
  f2 : ByteArray
  f3 : Int
  f4 : (List Int)
  f5 : (List Int)
def z58 : S58 := ⟨(0 : Int), (⟨#[]⟩ : ByteArray), (⟨#[]⟩ : ByteArray), (0 : Int), ([] : List Int), ([] : List Int)⟩
def k58 : Kd S58 := Kd.iso (Kd.pair (Kd.int .i64) (Kd.pair Kd.string (Kd.pair Kd.string (Kd.pair (Kd.int .i64) (Kd.pair (Kd.slice 5 (Kd.int .u8)) (Kd.slice 3 (Kd.int .i64))))))) (fun x : S58 => (x.f0, x.f1, x.f2, x.f3, x.f4, x.f5))
theorem k58_open {w : World} {x : S58} {cs : List Value} (h : k58.K w x cs) : ∃ A4 c4 A5 c5, cs = [.int .i64 x.f0, .string x.f1, .string x.f2, .int .i64 x.f3, .slice A4 x.f4.length c4, .slice A5 x.f5.length c5] ∧ x.f4.length ≤ c4 ∧ (Kd.int .u8).C w A4 x.f4.length x.f4 ∧ x.f5.length ≤ c5 ∧ (Kd.int .i64).C w A5 x.f5.length x.f5 := by
  obtain ⟨_, _, rfl, rfl, ⟨_, _, rfl, rfl, ⟨_, _, rfl, rfl, ⟨_, _, rfl, rfl, ⟨_, _, rfl, ⟨A4, c4, rfl, l4, g4⟩, ⟨A5, c5, rfl, l5, g5⟩⟩⟩⟩⟩⟩ := h
  exact ⟨A4, c4, A5, c5, rfl, l4, g4, l5, g5⟩
def rd_T58 (xs : List S58) (i : Int) : S58 := xs.getD i.toNat z58
theorem at_T58 {w : World} {A : Option Addr} {n : Nat} {xs : List S58} (h : Kd.C k58 w A n xs) (i : Int) (h0 : 0 ≤ i) (h1 : i < n) : ∃ ad A4 c4 A5 c5, A = some ad ∧ w.cell? (ad.add (i.toNat * 6)) = some (.int .i64 (rd_T58 xs i).f0) ∧ w.cell? ⟨(ad.add (i.toNat * 6)).block, (ad.add (i.toNat * 6)).off + 1, none⟩ = some (.string (rd_T58 xs i).f1) ∧ w.cell? ⟨(ad.add (i.toNat * 6)).block, (ad.add (i.toNat * 6)).off + 2, none⟩ = some (.string (rd_T58 xs i).f2) ∧ w.cell? ⟨(ad.add (i.toNat * 6)).block, (ad.add (i.toNat * 6)).off + 3, none⟩ = some (.int .i64 (rd_T58 xs i).f3) ∧ w.cell? ⟨(ad.add (i.toNat * 6)).block, (ad.add (i.toNat * 6)).off + 4, none⟩ = some (.slice A4 (rd_T58 xs i).f4.length c4) ∧ w.cell? ⟨(ad.add (i.toNat * 6)).block, (ad.add (i.toNat * 6)).off + 5, none⟩ = some (.slice A5 (rd_T58 xs i).f5.length c5) ∧ (rd_T58 xs i).f4.length ≤ c4 ∧ (Kd.int .u8).C w A4 (rd_T58 xs i).f4.length (rd_T58 xs i).f4 ∧ (rd_T58 xs i).f5.length ≤ c5 ∧ (Kd.int .i64).C w A5 (rd_T58 xs i).f5.length (rd_T58 xs i).f5 := by
  obtain ⟨ad, c, e, _, hK, hc0⟩ := Kd.C_get h z58 i h0 h1
  have hc : ∀ j u, c[j]? = some u → w.cell? (ad.add (i.toNat * 6 + j)) = some u := hc0
  obtain ⟨A4, c4, A5, c5, rfl, l4, g4, l5, g5⟩ := k58_open hK
  exact ⟨ad, A4, c4, A5, c5, e, hc 0 _ rfl, by rw [← add_field _ _ 1 (by omega)]; exact hc 1 _ rfl, by rw [← add_field _ _ 2 (by omega)]; exact hc 2 _ rfl, by rw [← add_field _ _ 3 (by omega)]; exact hc 3 _ rfl, by rw [← add_field _ _ 4 (by omega)]; exact hc 4 _ rfl, by rw [← add_field _ _ 5 (by omega)]; exact hc 5 _ rfl, l4, g4, l5, g5⟩

structure S114 where
  f0 : Bool
  f1 : Int
  f2 : Int
  f3 : (List Int)
def z114 : S114 := ⟨false, (0 : Int), (0 : Int), ([] : List Int)⟩
def k114 : Kd S114 := Kd.iso (Kd.pair Kd.bool (Kd.pair (Kd.int .i64) (Kd.pair (Kd.int .i64) (Kd.slice 5 (Kd.int .u8))))) (fun x : S114 => (x.f0, x.f1, x.f2, x.f3))
theorem k114_open {w : World} {x : S114} {cs : List Value} (h : k114.K w x cs) : ∃ A3 c3, cs = [.bool x.f0, .int .i64 x.f1, .int .i64 x.f2, .slice A3 x.f3.length c3] ∧ x.f3.length ≤ c3 ∧ (Kd.int .u8).C w A3 x.f3.length x.f3 := by
  obtain ⟨_, _, rfl, rfl, ⟨_, _, rfl, rfl, ⟨_, _, rfl, rfl, ⟨A3, c3, rfl, l3, g3⟩⟩⟩⟩ := h
  exact ⟨A3, c3, rfl, l3, g3⟩
theorem k114_mk (w : World) (x : S114) {A3 : Option Addr} {c3 : Nat} (l3 : x.f3.length ≤ c3) (g3 : (Kd.int .u8).C w A3 x.f3.length x.f3) : k114.K w x [.bool x.f0, .int .i64 x.f1, .int .i64 x.f2, .slice A3 x.f3.length c3] := ⟨[.bool x.f0], [.int .i64 x.f1, .int .i64 x.f2, .slice A3 x.f3.length c3], rfl, rfl, ⟨[.int .i64 x.f1], [.int .i64 x.f2, .slice A3 x.f3.length c3], rfl, rfl, ⟨[.int .i64 x.f2], [.slice A3 x.f3.length c3], rfl, rfl, ⟨A3, c3, rfl, l3, g3⟩⟩⟩⟩
theorem k114_mkF (W : World) (ok : Nat → Prop) (x : S114) {A3 : Option Addr} {c3 : Nat} (l3 : x.f3.length ≤ c3) (g3 : Kd.F (Kd.int .u8) W ok A3 x.f3.length x.f3) : Kd.FK k114 W ok x [.bool x.f0, .int .i64 x.f1, .int .i64 x.f2, .slice A3 x.f3.length c3] := fun W2 hW => k114_mk W2 x l3 (g3 W2 hW)
def rd_T114 (xs : List S114) (i : Int) : S114 := xs.getD i.toNat z114
theorem at_T114 {w : World} {A : Option Addr} {n : Nat} {xs : List S114} (h : Kd.C k114 w A n xs) (i : Int) (h0 : 0 ≤ i) (h1 : i < n) : ∃ ad A3 c3, A = some ad ∧ w.cell? (ad.add (i.toNat * 4)) = some (.bool (rd_T114 xs i).f0) ∧ w.cell? ⟨(ad.add (i.toNat * 4)).block, (ad.add (i.toNat * 4)).off + 1, none⟩ = some (.int .i64 (rd_T114 xs i).f1) ∧ w.cell? ⟨(ad.add (i.toNat * 4)).block, (ad.add (i.toNat * 4)).off + 2, none⟩ = some (.int .i64 (rd_T114 xs i).f2) ∧ w.cell? ⟨(ad.add (i.toNat * 4)).block, (ad.add (i.toNat * 4)).off + 3, none⟩ = some (.slice A3 (rd_T114 xs i).f3.length c3) ∧ (rd_T114 xs i).f3.length ≤ c3 ∧ (Kd.int .u8).C w A3 (rd_T114 xs i).f3.length (rd_T114 xs i).f3 := by
  obtain ⟨ad, c, e, _, hK, hc0⟩ := Kd.C_get h z114 i h0 h1
  have hc : ∀ j u, c[j]? = some u → w.cell? (ad.add (i.toNat * 4 + j)) = some u := hc0
  obtain ⟨A3, c3, rfl, l3, g3⟩ := k114_open hK
  exact ⟨ad, A3, c3, e, hc 0 _ rfl, by rw [← add_field _ _ 1 (by omega)]; exact hc 1 _ rfl, by rw [← add_field _ _ 2 (by omega)]; exact hc 2 _ rfl, by rw [← add_field _ _ 3 (by omega)]; exact hc 3 _ rfl, l3, g3⟩


structure S110 where
  f0 : (List Int)
  f1 : (List Int)
  f2 : Bool
  f3 : (List S114)
def z110 : S110 := ⟨([] : List Int), ([] : List Int), false, ([] : List S114)⟩

structure S81 where
  f0 : Int
  f1 : Int

structure S83 where
  f0 : Int
  f1 : Int


structure S124 where
  f0 : S83
  f1 : S81
  f2 : (List S48)

structure S87 where
  f0 : S83
  f1 : S81
  f2 : (List S48)

structure S85 where
  f0 : Int
  f1 : (List S48)
  f2 : S81
  f3 : S83
  f4 : (List Int)

end Go.Proofs.Ytmmiipnmimjojaa.PS
end
section
namespace Go.Proofs.Ytmmiipnmimjojaa.PD
abbrev Nm := List UInt8
def nlt (a b : Nm) : Bool := Op.bytesLess a b
theorem nlt_irrefl : ∀ a : Nm, nlt a a = false
  | [] => rfl
  | a :: x => by
    have := nlt_irrefl x
    unfold nlt at this ⊢
    simp [Op.bytesLess, this]
theorem nlt_trans : ∀ {a b c : Nm}, nlt a b = true → nlt b c = true → nlt a c = true
  | _, [], _, h, _ => by unfold nlt at h; cases ‹Nm› <;> simp [Op.bytesLess] at h
  | _, _ :: _, [], _, h => by simp [nlt, Op.bytesLess] at h
  | [], _ :: _, _ :: _, _, _ => rfl
  | a :: x, b :: y, c :: z, h1, h2 => by
    simp only [nlt, Op.bytesLess, Bool.or_eq_true, Bool.and_eq_true, decide_eq_true_eq, beq_iff_eq, UInt8.lt_iff_toNat_lt] at h1 h2 ⊢
    rcases h1 with h1 | ⟨rfl, h1⟩
    · rcases h2 with h2 | ⟨rfl, h2⟩
      · exact .inl (by omega)
      · exact .inl h1
    · rcases h2 with h2 | ⟨rfl, h2⟩
      · exact .inl h2
      · exact .inr ⟨rfl, nlt_trans h1 h2⟩
theorem nlt_total : ∀ {a b : Nm}, a ≠ b → nlt a b = true ∨ nlt b a = true
  | [], [], h => absurd rfl h
  | [], _ :: _, _ => .inl rfl
  | _ :: _, [], _ => .inr rfl
  | a :: x, b :: y, h => by
    simp only [nlt, Op.bytesLess, Bool.or_eq_true, Bool.and_eq_true, decide_eq_true_eq, beq_iff_eq, UInt8.lt_iff_toNat_lt]
    by_cases e : a = b
    · subst e
      have hx : x ≠ y := fun e => h (by rw [e])
      rcases nlt_total hx with h | h
      · exact .inl (.inr ⟨rfl, h⟩)
      · exact .inr (.inr ⟨rfl, h⟩)
    · have : a.toNat ≠ b.toNat := fun e' => e (UInt8.toNat_inj.1 e')
      rcases Nat.lt_or_gt_of_ne this with h | h
      · exact .inl (.inl h)
      · exact .inr (.inl h)
theorem nlt_ne {a b : Nm} (h : nlt a b = true) : a ≠ b := fun e => by rw [e, nlt_irrefl] at h; cases h
theorem nlt_asymm {a b : Nm} (h : nlt a b = true) : nlt b a = false := by
  cases hb : nlt b a
  · rfl
  · have := nlt_trans h hb; rw [nlt_irrefl] at this; cases this
section
variable {α β : Type}
def Srt (l : List (Nm × α)) : Prop := l.Pairwise fun p q => nlt p.1 q.1 = true
def aget (n : Nm) : List (Nm × α) → Option α
  | [] => none
  | p :: l => if p.1 = n then some p.2 else aget n l
def aput (n : Nm) (x : α) : List (Nm × α) → List (Nm × α)
  | [] => [(n, x)]
  | p :: l => if p.1 = n then (n, x) :: l else if nlt n p.1 then (n, x) :: p :: l else p :: aput n x l
def adel (n : Nm) (l : List (Nm × α)) : List (Nm × α) := l.filter fun p => !(p.1 == n)
def amap (f : α → β) (l : List (Nm × α)) : List (Nm × β) := l.map fun p => (p.1, f p.2)
theorem aget_map (f : α → β) (n : Nm) : ∀ l : List (Nm × α), aget n (amap f l) = (aget n l).map f
  | [] => rfl
  | p :: l => by
    show (if p.1 = n then some (f p.2) else aget n (amap f l)) = (if p.1 = n then some p.2 else aget n l).map f
    rw [aget_map f n l]
    split <;> rfl
theorem aput_map (f : α → β) (n : Nm) (x : α) : ∀ l : List (Nm × α), aput n (f x) (amap f l) = amap f (aput n x l)
  | [] => rfl
  | p :: l => by
    show (if p.1 = n then (n, f x) :: amap f l else if nlt n p.1 then (n, f x) :: (p.1, f p.2) :: amap f l else (p.1, f p.2) :: aput n (f x) (amap f l)) = amap f (if p.1 = n then (n, x) :: l else if nlt n p.1 then (n, x) :: p :: l else p :: aput n x l)
    rw [aput_map f n x l]
    split
    · rfl
    · split <;> rfl
theorem adel_map (f : α → β) (n : Nm) (l : List (Nm × α)) : adel n (amap f l) = amap f (adel n l) := by
  unfold adel amap
  rw [List.filter_map]
  rfl
theorem amap_len (f : α → β) (l : List (Nm × α)) : (amap f l).length = l.length := by simp [amap]
theorem amap_keys (f : α → β) (l : List (Nm × α)) : (amap f l).map (·.1) = l.map (·.1) := by simp [amap]
theorem srt_map (f : α → β) {l : List (Nm × α)} (h : Srt l) : Srt (amap f l) := by
  unfold Srt amap
  rw [List.pairwise_map]
  exact h
theorem srt_keys {l : List (Nm × α)} {r : List (Nm × β)} (h : Srt l) (e : r.map (·.1) = l.map (·.1)) : Srt r := by
  have h1 : (l.map (·.1)).Pairwise (fun a b => nlt a b = true) := by rw [List.pairwise_map]; exact h
  rw [← e, List.pairwise_map] at h1
  exact h1
theorem srt_nil : Srt ([] : List (Nm × α)) := .nil
theorem aget_mem {n : Nm} {x : α} : ∀ {l : List (Nm × α)}, aget n l = some x → (n, x) ∈ l
  | p :: l, h => by
    unfold aget at h
    split at h
    · rename_i e; cases h; subst e; exact .head _
    · exact .tail _ (aget_mem h)
theorem aget_none {n : Nm} : ∀ {l : List (Nm × α)}, aget n l = none ↔ ∀ p ∈ l, p.1 ≠ n
  | [] => by simp [aget]
  | p :: l => by
    unfold aget
    by_cases e : p.1 = n
    · rw [if_pos e]; simp [e]
    · rw [if_neg e, aget_none (l := l)]; simp [e]
theorem aget_of_mem {l : List (Nm × α)} (h : Srt l) {n : Nm} {x : α} (hm : (n, x) ∈ l) : aget n l = some x := by
  induction l with
  | nil => cases hm
  | cons p l ih =>
    obtain ⟨h1, h2⟩ := List.pairwise_cons.1 h
    unfold aget
    rcases List.mem_cons.1 hm with rfl | hm
    · rw [if_pos rfl]
    · rw [if_neg (nlt_ne (h1 _ hm)), ih h2 hm]
theorem aput_mem {n : Nm} {x : α} {q : Nm × α} : ∀ {l : List (Nm × α)}, Srt l → (q ∈ aput n x l ↔ q = (n, x) ∨ (q ∈ l ∧ q.1 ≠ n))
  | [], _ => by simp [aput]
  | p :: l, h => by
    obtain ⟨h1, h2⟩ := List.pairwise_cons.1 h
    unfold aput
    by_cases e : p.1 = n
    · rw [if_pos e, List.mem_cons, List.mem_cons]
      constructor
      · rintro (a | a)
        · exact .inl a
        · exact .inr ⟨.inr a, fun e' => nlt_ne (h1 q a) (e.trans e'.symm)⟩
      · rintro (a | ⟨a | a, b⟩)
        · exact .inl a
        · exact absurd (a ▸ e) b
        · exact .inr a
    · rw [if_neg e]
      by_cases hl : nlt n p.1 = true
      · rw [if_pos hl, List.mem_cons]
        constructor
        · rintro (a | a)
          · exact .inl a
          · refine .inr ⟨a, fun e' => ?_⟩
            rcases List.mem_cons.1 a with a | a
            · exact e (a ▸ e')
            · exact nlt_ne (nlt_trans hl (h1 q a)) e'.symm
        · rintro (a | ⟨a, _⟩)
          · exact .inl a
          · exact .inr a
      · rw [if_neg hl, List.mem_cons, aput_mem h2, List.mem_cons]
        constructor
        · rintro (a | a | ⟨a, b⟩)
          · exact .inr ⟨.inl a, fun e' => e (a ▸ e')⟩
          · exact .inl a
          · exact .inr ⟨.inr a, b⟩
        · rintro (a | ⟨a | a, b⟩)
          · exact .inr (.inl a)
          · exact .inl a
          · exact .inr (.inr ⟨a, b⟩)
theorem aput_srt {n : Nm} {x : α} : ∀ {l : List (Nm × α)}, Srt l → Srt (aput n x l)
  | [], _ => List.pairwise_singleton _ _
  | p :: l, h => by
    obtain ⟨h1, h2⟩ := List.pairwise_cons.1 h
    unfold aput
    by_cases e : p.1 = n
    · rw [if_pos e]
      exact List.pairwise_cons.2 ⟨fun q hq => by rw [← e]; exact h1 q hq, h2⟩
    · rw [if_neg e]
      by_cases hl : nlt n p.1 = true
      · rw [if_pos hl]
        refine List.pairwise_cons.2 ⟨fun q hq => ?_, h⟩
        rcases List.mem_cons.1 hq with rfl | hq
        · exact hl
        · exact nlt_trans hl (h1 q hq)
      · rw [if_neg hl]
        refine List.pairwise_cons.2 ⟨fun q hq => ?_, aput_srt h2⟩
        rcases (aput_mem h2).1 hq with rfl | ⟨hq, _⟩
        · rcases nlt_total e with h | h
          · exact h
          · exact absurd h hl
        · exact h1 q hq
theorem adel_mem {n : Nm} {q : Nm × α} {l : List (Nm × α)} : q ∈ adel n l ↔ q ∈ l ∧ q.1 ≠ n := by
  unfold adel
  rw [List.mem_filter]
  simp
theorem adel_srt {n : Nm} {l : List (Nm × α)} (h : Srt l) : Srt (adel n l) := h.filter _
theorem adel_none {n : Nm} {l : List (Nm × α)} (h : aget n l = none) : adel n l = l := by
  unfold adel
  rw [List.filter_eq_self]
  intro p hp
  have := aget_none.1 h p hp
  simpa using this
theorem aget_put {n m : Nm} {x : α} {l : List (Nm × α)} (h : Srt l) : aget m (aput n x l) = if m = n then some x else aget m l := by
  by_cases e : m = n
  · subst e
    rw [if_pos rfl]
    exact aget_of_mem (aput_srt h) ((aput_mem h).2 (.inl rfl))
  · rw [if_neg e]
    cases hg : aget m l with
    | none =>
      rw [aget_none]
      intro p hp
      rcases (aput_mem h).1 hp with rfl | ⟨hp, _⟩
      · exact fun e' => e e'.symm
      · exact aget_none.1 hg p hp
    | some y => exact aget_of_mem (aput_srt h) ((aput_mem h).2 (.inr ⟨aget_mem hg, e⟩))
theorem aget_del {n m : Nm} {l : List (Nm × α)} (h : Srt l) : aget m (adel n l) = if m = n then none else aget m l := by
  by_cases e : m = n
  · subst e
    rw [if_pos rfl, aget_none]
    intro p hp
    exact (adel_mem.1 hp).2
  · rw [if_neg e]
    cases hg : aget m l with
    | none =>
      rw [aget_none]
      intro p hp
      exact aget_none.1 hg p (adel_mem.1 hp).1
    | some y => exact aget_of_mem (adel_srt h) (adel_mem.2 ⟨aget_mem hg, e⟩)
theorem aput_len {n : Nm} {x : α} : ∀ {l : List (Nm × α)}, Srt l → (aput n x l).length = if (aget n l).isSome then l.length else l.length + 1
  | [], _ => rfl
  | p :: l, h => by
    obtain ⟨h1, h2⟩ := List.pairwise_cons.1 h
    unfold aput aget
    by_cases e : p.1 = n
    · rw [if_pos e, if_pos e]; rfl
    · rw [if_neg e, if_neg e]
      by_cases hl : nlt n p.1 = true
      · have hn : aget n l = none := aget_none.2 (fun q hq e' => nlt_ne (nlt_trans hl (h1 q hq)) e'.symm)
        rw [if_pos hl, hn]; rfl
      · rw [if_neg hl, List.length_cons, aput_len h2]
        split <;> rfl
theorem adel_len {n : Nm} {l : List (Nm × α)} : (adel n l).length ≤ l.length := List.length_filter_le _ _
/-- Two sorted lists that hold the same are one. -/
theorem srt_ext : ∀ {l r : List (Nm × α)}, Srt l → Srt r → (∀ p, p ∈ l ↔ p ∈ r) → l = r
  | [], [], _, _, _ => rfl
  | [], q :: r, _, _, h => by have := (h q).2 (.head _); cases this
  | p :: l, [], _, _, h => by have := (h p).1 (.head _); cases this
  | p :: l, q :: r, hl, hr, h => by
    obtain ⟨l1, l2⟩ := List.pairwise_cons.1 hl
    obtain ⟨r1, r2⟩ := List.pairwise_cons.1 hr
    have hpq : p = q := by
      rcases List.mem_cons.1 ((h p).1 (.head _)) with e | a
      · exact e
      · rcases List.mem_cons.1 ((h q).2 (.head _)) with e | b
        · exact e.symm
        · have := nlt_trans (r1 p a) (l1 q b)
          rw [nlt_irrefl] at this; cases this
    subst hpq
    rw [srt_ext l2 r2 (fun z => ?_)]
    constructor
    · intro hz
      rcases List.mem_cons.1 ((h z).1 (.tail _ hz)) with e | e
      · have := l1 z hz; rw [e, nlt_irrefl] at this; cases this
      · exact e
    · intro hz
      rcases List.mem_cons.1 ((h z).2 (.tail _ hz)) with e | e
      · have := r1 z hz; rw [e, nlt_irrefl] at this; cases this
      · exact e
theorem srt_get {l r : List (Nm × α)} (hl : Srt l) (hr : Srt r) (h : ∀ n, aget n l = aget n r) : l = r :=
  srt_ext hl hr fun p => ⟨fun hp => aget_mem ((h p.1).symm.trans (aget_of_mem hl hp)), fun hp => aget_mem ((h p.1).trans (aget_of_mem hr hp))⟩
theorem aput_same {n : Nm} {x : α} {l : List (Nm × α)} (h : Srt l) (hx : aget n l = some x) : aput n x l = l :=
  srt_get (aput_srt h) h fun m => by rw [aget_put h]; split; (rename_i e; rw [e, hx]); rfl
end
end Go.Proofs.Ytmmiipnmimjojaa.PD
end
section
namespace Go.Proofs.Ytmmiipnmimjojaa.PS
open Go.RowKit Go.Proofs.YtmmiipnmimjojaaW.PrintWords Go.Proofs.YtmmiipnmimjojaaW.PrintLast Go.Proofs.YtmmiipnmimjojaaW.PrintMore
open Go.Maps Go.Proofs.Ytmmiipnmimjojaa.PD
set_option linter.unusedVariables false
set_option linter.unusedSimpArgs false
structure Kp (w W : World) (S : Nat → Prop) : Prop where
  os : W.os = w.os
  tape : W.tape = w.tape
  output : W.output = w.output
  size : w.heap.size ≤ W.heap.size
  block : ∀ k, k < w.heap.size → ¬ S k → W.heap[k]? = w.heap[k]?
section
variable {w W W2 : World} {S S2 : Nat → Prop}
theorem Kp.refl (w : World) (S : Nat → Prop) : Kp w w S := ⟨rfl, rfl, rfl, Nat.le_refl _, fun _ _ _ => rfl⟩
theorem Kp.of_below (h : Below w.heap.size w W) (S : Nat → Prop) : Kp w W S := ⟨h.os, h.tape, h.output, h.size, fun k hk _ => h.block k hk⟩
theorem Kp.below {B : Nat} (h : Kp w W S) (hS : ∀ k, S k → k < w.heap.size → B ≤ k) (hB : B ≤ w.heap.size) : Below B w W :=
  ⟨h.os, h.tape, h.output, h.size, fun k hk => h.block k (by omega) (fun hs => by have := hS k hs (by omega); omega)⟩
theorem Kp.none (h : Kp w W (fun _ => False)) : Below w.heap.size w W := h.below (fun _ hk => hk.elim) (Nat.le_refl _)
theorem Kp.mono (h : Kp w W S) (hs : ∀ k, S k → S2 k) : Kp w W S2 := ⟨h.os, h.tape, h.output, h.size, fun k hk hn => h.block k hk (fun x => hn (hs k x))⟩
theorem Kp.trans (h : Kp w W S) (k : Kp W W2 S2) (hs : ∀ k, k < w.heap.size → S2 k → S k) : Kp w W2 S :=
  ⟨k.os.trans h.os, k.tape.trans h.tape, k.output.trans h.output, Nat.le_trans h.size k.size, fun i hi hn => (k.block i (Nat.lt_of_lt_of_le hi h.size) (fun x => hn (hs i hi x))).trans (h.block i hi hn)⟩
theorem Kp.then_below (h : Kp w W S) (k : Below W.heap.size W W2) : Kp w W2 S := h.trans (Kp.of_below k (fun _ => False)) (fun _ _ hk => hk.elim)
theorem Kp.kept (h : Kp w W S) : Kept w W S := ⟨h.size, h.block⟩
theorem Kp.drewN (h : Kp w W S) (n : Nat) : Kp w (W.drewN n) S := ⟨h.os, h.tape, h.output, h.size, h.block⟩
theorem Kp.alloc (h : Kp w W S) (o : Obj) : Kp w (W.alloc o) S := h.then_below (below_alloc (Below.refl _ _) o)
theorem Kp.setCell (h : Kp w W S) {p : Addr} (hp : S p.block ∨ w.heap.size ≤ p.block) (u : Value) : Kp w (W.setCell p u) S :=
  h.trans (S2 := fun k => k = p.block) ⟨rfl, rfl, rfl, by simp [World.setCell], fun i _ hn => Below.heap_setCell W p u i hn⟩ (fun k hk e => by rcases hp with hp | hp; rw [e]; exact hp; omega)
theorem Kp.grown {row : Option Nat} (h : Kp w W S) (hg : W.grownBy W2 row) (hr : ∀ k, row = some k → S k ∨ w.heap.size ≤ k) : Kp w W2 S :=
  h.trans (S2 := fun k => row = some k) ⟨hg.os, hg.tape, hg.output, hg.size, fun i hi hn => hg.block i hi (fun e => hn e.symm)⟩ (fun k hk e => by rcases hr k e with a | a; exact a; omega)
theorem Kp.drawn (h : Drawn0 w W) (S : Nat → Prop) : Kp w W S := by
  obtain ⟨n, rfl⟩ := h.out
  exact (Kp.refl w S).drewN n
theorem Kp.cell (h : Kp w W S) {a : Addr} (ha : a.block < w.heap.size) (hn : ¬ S a.block) : W.cell? a = w.cell? a := World.cell?_of_block (w := w) (h.block a.block ha hn)
end
abbrev Fil := S110
structure Dsk where
  room : Int
  files : List (Nm × Fil)
theorem info114 : (Try.prog.info? 114).map (fun i => (i.zero, i.size, i.bytes)) = some (some (.agg #[(.bool false), (.int .i64 0), (.int .i64 0), (.slice none 0 0)]), 4, 48) := by kernel_rfl
/-- Block k is a row of bytes. -/
def U8 (W : World) (k : Nat) : Prop := ∃ cs fr, W.heap[k]? = some (.cells cs 5 fr)
theorem U8.of_same {W W1 : World} {k : Nat} (h : U8 W k) (e : W1.heap[k]? = W.heap[k]?) : U8 W1 k := by
  obtain ⟨cs, fr, h⟩ := h
  exact ⟨cs, fr, e.trans h⟩
theorem U8.lt {W : World} {k : Nat} (h : U8 W k) : k < W.heap.size := by
  obtain ⟨cs, fr, h⟩ := h
  exact blk_lt h
theorem U8.ne {W : World} {k : Nat} {cs : Array Value} {t : TypeId} {fr : Nat × Nat} (h : W.heap[k]? = some (.cells cs t fr)) (ht : t ≠ 5) : ¬ U8 W k := by
  rintro ⟨cs', fr', h'⟩
  rw [h] at h'
  injection h' with h'
  injection h' with _ h' _
  exact ht h'
theorem U8.ne_map {W : World} {k : Nat} {es : Array MapEntry} {c : Nat} (h : W.heap[k]? = some (.map es c)) : ¬ U8 W k := by
  rintro ⟨cs', fr', h'⟩
  rw [h] at h'
  injection h' with h'
  cases h'
/-- Its bytes that are only read. -/
def RO (W : World) (S : Nat → Prop) (k : Nat) : Prop := S k ∧ U8 W k
/-- Its blocks that may be written. -/
def WR (W : World) (S : Nat → Prop) (k : Nat) : Prop := S k ∧ ¬ U8 W k
/-- With what is new since W. -/
def Nw (W W' : World) (S : Nat → Prop) (k : Nat) : Prop := S k ∨ (W.heap.size ≤ k ∧ k < W'.heap.size)
def ptrElem : Value → Option (DataW Unit × List MemPlace)
  | .pointer (some ⟨b, 0, none⟩) => some (.lit (.int .i64 b), [])
  | .pointer none => some (.nil, [])
  | _ => none
def dOf (L : List (Nm × Nat)) : DataW Unit := .map (L.map fun p => (.string p.1, .lit (.int .i64 p.2)))
theorem ptrElem_some {v : Value} {b : Nat} {ps : List MemPlace} (h : ptrElem v = some (.lit (.int .i64 b), ps)) : v = .pointer (some ⟨b, 0, none⟩) := by
  unfold ptrElem at h
  split at h
  · injection h with h
    injection h with h _
    injection h with h
    injection h with _ h
    rw [Int.ofNat.inj h]
  · injection h with h; injection h with h; cases h
  · cases h
theorem ptrElem_nil {v : Value} {ps : List MemPlace} (h : ptrElem v = some (.nil, ps)) : v = .pointer none := by
  unfold ptrElem at h
  split at h
  · injection h with h; injection h with h; cases h
  · rfl
  · cases h
theorem same_str (a b : Nm) : (Lit.string a).sameKey (.string b) = (a == b) := rfl
theorem dOf_at (n : Nm) (z : DataW Unit) : ∀ L : List (Nm × Nat), (dOf L).atKey (.string n) z = match aget n L with | some b => .lit (.int .i64 b) | none => z
  | [] => rfl
  | p :: L => by
    have ih := dOf_at n z L
    unfold dOf DataW.atKey at ih ⊢
    simp only [List.map_cons, List.find?_cons, same_str]
    unfold aget
    by_cases e : p.1 = n
    · rw [if_pos e]; simp [e]
    · rw [if_neg e]
      have : (p.1 == n) = false := by simpa using e
      rw [this]
      exact ih
theorem before_str (a b : Nm) : (Lit.string a).before (.string b) = nlt a b := by
  show bytesBefore a b = Op.bytesLess a b
  induction a generalizing b with
  | nil => cases b <;> rfl
  | cons x a ih => cases b with
    | nil => rfl
    | cons y b => rw [bytesBefore, Op.bytesLess, ih]
theorem insert_dOf (n : Nm) (b : Nat) : ∀ L : List (Nm × Nat), (∀ p ∈ L, p.1 ≠ n) → DataW.insert (H := Unit) (.string n, .lit (.int .i64 b)) (L.map fun p => (.string p.1, .lit (.int .i64 p.2))) = (aput n b L).map fun p => (.string p.1, .lit (.int .i64 p.2))
  | [], _ => rfl
  | p :: L, h => by
    have ih := insert_dOf n b L (fun q hq => h q (.tail _ hq))
    rw [List.map_cons, DataW.insert, before_str]
    unfold aput
    rw [if_neg (h p (.head _))]
    by_cases e : nlt n p.1 = true
    · rw [if_pos e, if_pos e]; rfl
    · rw [if_neg e, if_neg e, ih]; rfl
theorem filter_dOf (n : Nm) (L : List (Nm × Nat)) : ((L.map fun p => ((Lit.string p.1, DataW.lit (.int .i64 p.2)) : Lit × DataW Unit)).filter fun p => !p.1.sameKey (.string n)) = (adel n L).map fun p => (.string p.1, .lit (.int .i64 p.2)) := by
  rw [List.filter_map]
  rfl
theorem del_mem_ne {n : Nm} {L : List (Nm × Nat)} : ∀ p ∈ adel n L, p.1 ≠ n := fun p hp => (adel_mem.1 hp).2
theorem dOf_put {n : Nm} {b : Nat} {L : List (Nm × Nat)} (h : Srt L) : (dOf L).put (.string n) (.lit (.int .i64 b)) = dOf (aput n b L) := by
  show DataW.map (DataW.insert (.string n, .lit (.int .i64 b)) ((L.map fun p => (.string p.1, .lit (.int .i64 p.2))).filter fun p => !p.1.sameKey (.string n))) = _
  rw [filter_dOf, insert_dOf n b _ del_mem_ne]
  have : aput n b (adel n L) = aput n b L := srt_get (aput_srt (adel_srt h)) (aput_srt h) fun m => by rw [aget_put (adel_srt h), aget_put h, aget_del h]; split <;> rfl
  rw [this]; rfl
theorem dOf_del {n : Nm} {L : List (Nm × Nat)} : (dOf L).del (.string n) = dOf (adel n L) := by
  show DataW.map ((L.map fun p => (.string p.1, .lit (.int .i64 p.2))).filter fun p => !p.1.sameKey (.string n)) = _
  rw [filter_dOf]; rfl
theorem dOf_size (L : List (Nm × Nat)) : Maps.size (dOf L) = L.length := by simp [dOf, Maps.size]
theorem dOf_has (n : Nm) (L : List (Nm × Nat)) : Maps.has (dOf L) (.string n) = (aget n L).isSome := by
  unfold dOf
  rw [Maps.has_eq]
  induction L with
  | nil => rfl
  | cons p L ih =>
    rw [List.map_cons, List.any_cons, same_str]
    unfold aget
    by_cases e : p.1 = n
    · rw [if_pos e]; simp [e]
    · rw [if_neg e]
      have : (p.1 == n) = false := by simpa using e
      rw [this, Bool.false_or]
      exact ih
theorem law9 : Keyed Try.prog 9 := string_keyed Try.underlying9
/-- The map in block m tells the files' blocks. -/
def Tbl (W : World) (m : Nat) (L : List (Nm × Nat)) : Prop := W.ownsMap Try.prog 9 ptrElem m L.length (dOf L)
section
variable {W W1 : World} {m : Nat} {L : List (Nm × Nat)}
theorem Tbl.step (h : Tbl W m L) (e : W1.heap[m]? = W.heap[m]?) : Tbl W1 m L := by
  obtain ⟨es, clock, hb, r⟩ := h
  exact ⟨es, clock, e.trans hb, r⟩
theorem Tbl.map (h : Tbl W m L) : ∃ es c, W.heap[m]? = some (.map es c) := by
  obtain ⟨es, clock, hb, _⟩ := h
  exact ⟨es, clock, hb⟩
theorem key_str (s : ByteArray) (hs : s.size ≤ maxLen) : keyOf Try.prog 9 (.string s) = some (.string s.data.toList) := WideMaps.keyOf_string_mk Try.underlying9 hs
theorem zero106 (w : World) : (zeroValue 106).run Try.prog w = .ok (.pointer none) w := by kernel_rfl
theorem Tbl.look (h : Tbl W m L) (s : ByteArray) (hs : s.size ≤ maxLen) (b : Option Nat) (hb : aget s.data.toList L = b) :
    (Instr.lookup 103 (.map (some m)) (.string s) true).run Try.prog W = .ok (.tuple #[.pointer (b.map fun b => ⟨b, 0, none⟩), .bool b.isSome]) W := by
  obtain ⟨v, ps, hrun, hv⟩ := World.ownsMap.look_ok h law9 Try.underlying103 (zero106 W) (zd := .nil) (zp := []) rfl (key_str s hs)
  rw [dOf_has, hb] at hrun
  rw [dOf_at, hb] at hv
  cases b with
  | none =>
    rw [ptrElem_nil hv] at hrun
    exact hrun
  | some b =>
    rw [ptrElem_some hv] at hrun
    exact hrun
/-- Without 'ok'. -/
theorem Tbl.look1 (h : Tbl W m L) (s : ByteArray) (hs : s.size ≤ maxLen) (b : Nat) (hb : aget s.data.toList L = some b) :
    (Instr.lookup 103 (.map (some m)) (.string s) false).run Try.prog W = .ok (.pointer (some ⟨b, 0, none⟩)) W := by
  obtain ⟨v, ps, hrun, hv⟩ := World.ownsMap.lookup h law9 Try.underlying103 (zero106 W) (zd := .nil) (zp := []) rfl (key_str s hs)
  rw [dOf_at, hb] at hv
  rw [ptrElem_some hv] at hrun
  exact hrun
theorem Tbl.len (h : Tbl W m L) (ty : TypeId) : (Builtin.len_ #[103] ty #[.map (some m)]).run Try.prog W = .ok (.int .i64 L.length) W := by
  have := World.ownsMap.len h Try.underlying103 ty
  rw [dOf_size] at this
  exact this
theorem Tbl.made (w : World) : Tbl (w.alloc (.map #[] 0)) w.heap.size [] := World.ownsMap_made w Try.prog 9 ptrElem
/-- How many entries: just as many as it reads as. -/
theorem own_exact {n n' : Nat} {D : DataW Unit} (h : W.ownsMap Try.prog 9 ptrElem m n D) (hn : Maps.size D ≤ n') : W.ownsMap Try.prog 9 ptrElem m n' D := by
  obtain ⟨es, clock, hb, F, hs, hD⟩ := h
  refine ⟨es, clock, hb, F, ?_, hD⟩
  have e1 : Maps.size D = es.size := by rw [hD]; simp [Maps.size, length_sorted]
  omega
theorem Tbl.put_of (hs : Srt L) {n : Nm} {b : Nat} {k : Nat} (h : W.ownsMap Try.prog 9 ptrElem m k ((dOf L).put (.string n) (.lit (.int .i64 b)))) : Tbl W m (aput n b L) := by
  rw [dOf_put hs] at h
  exact own_exact h (by rw [dOf_size]; exact Nat.le_refl _)
theorem Tbl.del_of {n : Nm} {k : Nat} (h : W.ownsMap Try.prog 9 ptrElem m k ((dOf L).del (.string n))) : Tbl W m (adel n L) := by
  rw [dOf_del] at h
  exact own_exact h (by rw [dOf_size]; exact Nat.le_refl _)
end
/-- A file of the disk whose blocks are S: its struct lies in block b; own: whose a row of changes is. -/
def FilAt (W : World) (S : Nat → Prop) (own : Nat → Nat) (b : Nat) (f : Fil) : Prop :=
  S b ∧ own b = b ∧ ∃ vn vs vc, W.heap[b]? = some (.cells #[vn, vs, .bool f.f2, vc] 110 (0, 0)) ∧ Kd.V (Kd.int .u8) 5 W 0 (RO W S) vn f.f0 ∧ Kd.V (Kd.int .u8) 5 W 0 (RO W S) vs f.f1 ∧
    Kd.N k114 114 W 0 (fun k => RO W S k ∨ some k = vc.ownBlock) vc f.f3 ∧ ∀ k, vc.ownBlock = some k → S k ∧ own k = b
section
variable {W W1 : World} {S S1 : Nat → Prop} {own own1 : Nat → Nat} {b : Nat} {f : Fil}
/-- A file stays what it is where its blocks stay. -/
theorem FilAt.step (h : FilAt W S own b f) (hS : ∀ k, k < W.heap.size → S k → S1 k) (ho : ∀ k, k < W.heap.size → own1 k = own k)
    (hm : ∀ k, k < W.heap.size → S k → (k = b ∨ (own k = b ∧ ∃ cs, W.heap[k]? = some (.cells cs 114 (0, 0))) ∨ U8 W k) → W1.heap[k]? = W.heap[k]?) : FilAt W1 S1 own1 b f := by
  obtain ⟨hb, hob, vn, vs, vc, hh, hn, hs, hc, hown⟩ := h
  have hro : ∀ k, RO W S k → k < W.heap.size → W1.heap[k]? = W.heap[k]? := fun k hk hlt => hm k hlt hk.1 (.inr (.inr hk.2))
  have hrs : ∀ k, RO W S k → k < W.heap.size → RO W1 S1 k := fun k hk hlt => ⟨hS k hlt hk.1, hk.2.of_same (hro k hk hlt)⟩
  have hV : ∀ v (xs : List Int), Kd.V (Kd.int .u8) 5 W 0 (RO W S) v xs → Kd.V (Kd.int .u8) 5 W1 0 (RO W1 S1) v xs := fun v xs h => Kd.V_map h fun A hF => Kd.F_mono (Kd.F_step (Kd.F_bound hF) (fun k hk _ => hro k hk.1 hk.2)) (fun k hk => hrs k hk.1 hk.2)
  have hlt := Kd.N_lt hc
  refine ⟨hS b (blk_lt hh) hb, (ho b (blk_lt hh)).trans hob, vn, vs, vc, (hm b (blk_lt hh) hb (.inl rfl)).trans hh, hV _ _ hn, hV _ _ hs, ?_, fun k hk => ⟨hS k (hlt k hk) (hown k hk).1, (ho k (hlt k hk)).trans (hown k hk).2⟩⟩
  refine Kd.N_mono (Kd.N_step (Kd.N_bound hc) (fun k hk hlt' => ?_)) (fun k hk => ?_)
  · rcases hk.1 with h | h
    · exact hro k h hk.2
    · exact hm k hk.2 (hown k h.symm).1 (.inr (.inl ⟨(hown k h.symm).2, Kd.N_typed hc k h.symm⟩))
  · rcases hk.1 with h | h
    · exact .inl (hrs k h hk.2)
    · exact .inr h
theorem FilAt.lt (h : FilAt W S own b f) : b < W.heap.size := by
  obtain ⟨_, _, vn, vs, vc, hh, _⟩ := h
  exact blk_lt hh
theorem FilAt.blk (h : FilAt W S own b f) : ∃ cs, W.heap[b]? = some (.cells cs 110 (0, 0)) := by
  obtain ⟨_, _, vn, vs, vc, hh, _⟩ := h
  exact ⟨_, hh⟩
end
abbrev Tb := List (Nm × (Nat × Fil))
def tblk (T : Tb) : List (Nm × Nat) := amap (fun e : Nat × Fil => e.1) T
def tfil (T : Tb) : List (Nm × Fil) := amap (fun e : Nat × Fil => e.2) T
/-- The disk D lies in block d: its map in block m, its files as T tells. -/
def DskIn (W : World) (S : Nat → Prop) (d m : Nat) (own : Nat → Nat) (T : Tb) (room : Int) : Prop :=
  S d ∧ S m ∧ W.heap[d]? = some (.cells #[.int .i64 room, .map (some m)] 105 (0, 0)) ∧ Tbl W m (tblk T) ∧ Srt T ∧ (∀ n b f, (n, b, f) ∈ T → FilAt W S own b f) ∧ (T.map fun e => e.2.1).Nodup
def DskAt (W : World) (S : Nat → Prop) (d : Nat) (D : Dsk) : Prop := ∃ m own T, DskIn W S d m own T D.room ∧ tfil T = D.files
section
variable {W W1 : World} {S S1 : Nat → Prop} {d : Nat} {D : Dsk}
/-- A disk stays what it is where its blocks stay. -/
theorem DskAt.step (h : DskAt W S d D) (hS : ∀ k, k < W.heap.size → S k → S1 k) (hm : ∀ k, k < W.heap.size → S k → W1.heap[k]? = W.heap[k]?) : DskAt W1 S1 d D := by
  obtain ⟨m, own, T, ⟨hd, hM, hh, ht, hs, hf, hnd⟩, hD⟩ := h
  obtain ⟨es, c, hmap⟩ := ht.map
  have l1 := blk_lt hh
  have l2 := blk_lt hmap
  exact ⟨m, own, T, ⟨hS d l1 hd, hS m l2 hM, (hm d l1 hd).trans hh, ht.step (hm m l2 hM), hs, fun n b f hx => (hf n b f hx).step hS (fun _ _ => rfl) (fun k hk hSk _ => hm k hk hSk), hnd⟩, hD⟩
theorem DskAt.kp (h : DskAt W S d D) {P : Nat → Prop} (k : Kp W W1 P) (hP : ∀ k, k < W.heap.size → S k → ¬ P k) : DskAt W1 S d D := h.step (fun _ _ hk => hk) (fun i hi hS => k.block i hi (hP i hi hS))
theorem DskAt.below (h : DskAt W S d D) (k : Below W.heap.size W W1) : DskAt W1 S d D := h.step (fun _ _ hk => hk) (fun i hi _ => k.block i hi)
theorem DskAt.mono (h : DskAt W S d D) (hS : ∀ k, k < W.heap.size → S k → S1 k) : DskAt W S1 d D := h.step hS (fun _ _ _ => rfl)
theorem DskAt.srt (h : DskAt W S d D) : Srt D.files := by
  obtain ⟨m, own, T, ⟨_, _, _, _, hs, _⟩, hD⟩ := h
  rw [← hD]
  exact srt_map _ hs
end
/-- The owner of what is new since W. -/
def ownN (W : World) (own : Nat → Nat) (b : Nat) (k : Nat) : Nat := if k < W.heap.size then own k else b
theorem tblk_put {n : Nm} {b : Nat} {f : Fil} {T : Tb} : tblk (aput n (b, f) T) = aput n b (tblk T) := (aput_map (fun e : Nat × Fil => e.1) n (b, f) T).symm
theorem tfil_put {n : Nm} {b : Nat} {f : Fil} {T : Tb} : tfil (aput n (b, f) T) = aput n f (tfil T) := (aput_map (fun e : Nat × Fil => e.2) n (b, f) T).symm
theorem tblk_del {n : Nm} {T : Tb} : tblk (adel n T) = adel n (tblk T) := (adel_map _ n T).symm
theorem tfil_del {n : Nm} {T : Tb} : tfil (adel n T) = adel n (tfil T) := (adel_map _ n T).symm
theorem mem_nodup {n n' : Nm} {b : Nat} {f f' : Fil} : ∀ {T : Tb}, (T.map fun e => e.2.1).Nodup → (n, b, f) ∈ T → (n', b, f') ∈ T → (n, b, f) = (n', b, f')
  | e :: T, h, h1, h2 => by
    rw [List.map_cons] at h
    obtain ⟨a1, a2⟩ := List.nodup_cons.1 h
    have hin : ∀ {x : Nm} {y : Fil}, (x, b, y) ∈ T → b ∈ T.map fun e => e.2.1 := fun {x y} hx => List.mem_map.2 ⟨(x, b, y), hx, rfl⟩
    rcases List.mem_cons.1 h1 with e1 | t1
    · rcases List.mem_cons.1 h2 with e2 | t2
      · rw [e1, e2]
      · exact absurd (by rw [← e1]; exact hin t2) a1
    · rcases List.mem_cons.1 h2 with e2 | t2
      · exact absurd (by rw [← e2]; exact hin t1) a1
      · exact mem_nodup a2 t1 t2
theorem nodup_put {T : Tb} {n : Nm} {b : Nat} {f' : Fil} : ∀ {T : Tb}, Srt T → (T.map fun e => e.2.1).Nodup → (∀ n' f, (n', b, f) ∈ T → n' = n) → ((aput n (b, f') T).map fun e => e.2.1).Nodup
  | [], _, _, _ => by simp [aput]
  | e :: T, hs, h, hb => by
    obtain ⟨s1, s2⟩ := List.pairwise_cons.1 hs
    rw [List.map_cons] at h
    obtain ⟨a1, a2⟩ := List.nodup_cons.1 h
    have hrest : ∀ q ∈ T, q.1 ≠ n → q.2.1 ≠ b := fun q hq hne hqb => hne (hb q.1 q.2.2 (.tail _ (by rw [← hqb]; exact hq)))
    unfold aput
    by_cases e1 : e.1 = n
    · rw [if_pos e1, List.map_cons]
      refine List.nodup_cons.2 ⟨fun hm => ?_, a2⟩
      obtain ⟨q, hq, hqb⟩ := List.mem_map.1 hm
      exact hrest q hq (fun e2 => nlt_ne (s1 q hq) (e1.trans e2.symm)) hqb
    · rw [if_neg e1]
      have heb : e.2.1 ≠ b := fun h => e1 (hb e.1 e.2.2 (by rw [← h]; exact .head _))
      by_cases hl : nlt n e.1 = true
      · rw [if_pos hl, List.map_cons]
        refine List.nodup_cons.2 ⟨fun hm => ?_, h⟩
        obtain ⟨q, hq, hqb⟩ := List.mem_map.1 hm
        rcases List.mem_cons.1 hq with rfl | hq
        · exact heb hqb
        · exact hrest q hq (fun e2 => nlt_ne (nlt_trans hl (s1 q hq)) e2.symm) hqb
      · rw [if_neg hl, List.map_cons]
        refine List.nodup_cons.2 ⟨fun hm => ?_, nodup_put (T := T) s2 a2 (fun n' f hq => hb n' f (.tail _ hq))⟩
        obtain ⟨q, hq, hqb⟩ := List.mem_map.1 hm
        rcases (aput_mem s2).1 hq with rfl | ⟨hq, _⟩
        · exact heb hqb.symm
        · exact a1 (List.mem_map.2 ⟨q, hq, hqb⟩)
section
variable {W W1 : World} {S S1 : Nat → Prop} {d m : Nat} {own : Nat → Nat} {T : Tb} {room : Int} {n : Nm} {b : Nat} {f f' : Fil} {vn vs vc : Value}
/-- One file is turned. -/
theorem DskIn.turn (h : DskIn W S d m own T room) (hm : (n, b, f) ∈ T) (hb : W.heap[b]? = some (.cells #[vn, vs, .bool f.f2, vc] 110 (0, 0))) (hc : ∀ k, vc.ownBlock = some k → own k = b ∧ ∃ cs, W.heap[k]? = some (.cells cs 114 (0, 0)))
    (k : Kp W W1 (fun k => k = b ∨ vc.ownBlock = some k)) (hf : FilAt W1 (Nw W W1 S) (ownN W own b) b f') : DskIn W1 (Nw W W1 S) d m (ownN W own b) (aput n (b, f') T) room := by
  obtain ⟨hd, hM, hh, ht, hs, hfs, hnd⟩ := h
  obtain ⟨es, c, hmap⟩ := ht.map
  have hne : ∀ {x : Nat} {o : Obj}, W.heap[x]? = some o → (∀ cs, o ≠ .cells cs 110 (0, 0)) → (∀ cs, o ≠ .cells cs 114 (0, 0)) → ¬ (x = b ∨ vc.ownBlock = some x) := by
    intro x o hx h1 h2 he
    rcases he with rfl | he
    · rw [hb] at hx; cases hx; exact h1 _ rfl
    · obtain ⟨_, cs, hcs⟩ := hc x he
      rw [hcs] at hx; cases hx; exact h2 _ rfl
  have n1 := hne hh (fun _ h => by cases h) (fun _ h => by cases h)
  have n2 := hne hmap (fun _ h => by cases h) (fun _ h => by cases h)
  refine ⟨.inl hd, .inl hM, (k.block d (blk_lt hh) n1).trans hh, ?_, aput_srt hs, ?_, nodup_put (T := T) hs hnd (fun n' f0 h0 => ?_)⟩
  · have ht1 := ht.step (k.block m (blk_lt hmap) n2)
    have e : tblk (aput n (b, f') T) = tblk T := by
      rw [tblk_put]
      exact aput_same (srt_map _ hs) (by unfold tblk; rw [aget_map, aget_of_mem hs hm]; rfl)
    rw [e]
    exact ht1
  · intro n' b' f0 hq
    rcases (aput_mem hs).1 hq with e | ⟨hq, hne'⟩
    · cases e; exact hf
    · have hbb : b' ≠ b := fun e => by
        have := mem_nodup hnd (e ▸ hq) hm
        injection this with h1 _
        exact hne' h1
      refine (hfs _ _ _ hq).step (fun _ _ h => .inl h) (fun x hx => by unfold ownN; rw [if_pos hx]) (fun x hx hS hxx => k.block x hx (fun he => ?_))
      have hob : own b = b := (hfs _ _ _ hm).2.1
      rcases he with rfl | he
      · rcases hxx with h | ⟨h, _⟩ | h
        · exact hbb h.symm
        · exact hbb (h.symm.trans hob)
        · exact U8.ne hb (by decide) h
      · obtain ⟨ho, cs, hcs⟩ := hc x he
        rcases hxx with h | ⟨h, _⟩ | h
        · subst h
          obtain ⟨cs', hh'⟩ := (hfs _ _ _ hq).blk
          rw [hcs] at hh'
          injection hh' with hh'
          injection hh' with _ hh' _
          cases hh'
        · exact hbb (h.symm.trans ho)
        · exact U8.ne hcs (by decide) h
  · have := mem_nodup hnd h0 hm
    cases this
    rfl
end
end Go.Proofs.Ytmmiipnmimjojaa.PS
end
section
namespace Go.Proofs.Ytmmiipnmimjojaa.PS
open Go.RowKit Go.Proofs.YtmmiipnmimjojaaW.PrintWords Go.Proofs.YtmmiipnmimjojaaW.PrintLast Go.Proofs.YtmmiipnmimjojaaW.PrintMore
open Go.Maps Go.Proofs.Ytmmiipnmimjojaa.PD
set_option linter.unusedVariables false
set_option linter.unusedSimpArgs false
abbrev k8 : Kd Int := Kd.int .u8
theorem nil_of_C {α : Type} {d : Kd α} {w : World} {l : List α} (h : d.C w none l.length l) : l = [] := by
  cases l with
  | nil => rfl
  | cons x l =>
    obtain ⟨ad, e, _⟩ := h.2.2 (by simp)
    cases e
theorem eql22 (w : World) (a : Option Addr) (n c : Nat) : (binOp .eql 22 (.slice a n c) (.slice none 0 0)).run Try.prog w = .ok (.bool a.isNone) w := Lib.run_eql_slice_nil w 22 5 a n c 0 0 Try.underlying22
set_option maxRecDepth 100000 in
/-- slices.Clone of bytes. -/
theorem clone8 (A : Option Addr) (c : Nat) (l : List Int) (w : World) (hr : k8.C w A l.length l) (hl : l.length ≤ 140737488355328) :
    Calls Try.prog 59 #[.slice A l.length c] w fun e w' => ∃ v1, e = .returned v1 ∧ k8.R 5 w' w.heap.size (fun _ => True) v1 l ∧ Below w.heap.size w w' := by
  have HR := Aside0.mk hr
  clear hr
  have hE := eql22
  cases A with
  | none =>
    have hz : l = [] := nil_of_C HR.out
    subst hz
    go_enter Try.func59, Try.ntmps59
    go_wp2
    go_ret
    exact ⟨_, rfl, Kd.R_nil _ _ _ _ _, Below.refl _ _⟩
  | some a =>
    go_enter Try.func59, Try.ntmps59
    go_wp2_with (first
      | ((with_reducible refine gate_dst (N := 5) rfl ?_); refine Kd.R_lit k8 _ 5 ?hg (N := 5) ?hd (xs := ([] : List Int)) (inner := []) (ok := fun _ => True) (okp := fun _ => True) ?hr ?hp (fun _ hk => hk) trivial (Below.refl _ _) (Nat.le_refl _) (by simp) ?_; (case hd => rfl); (case hg => rfl); (case hr => first | (go_simp; done) | (go_simp; rfl)); (case hp => exact (Reps.none _ _)); intro v0 w0 ho hb hg_ hnew_; clear hg_ hnew_; have HO := Aside0.mk ho; have HB := Aside0.mk hb; clear ho hb)
      | (at_builtin; refine Kd.R_append_rows k8 (w0 := w) w.heap.size (by rfl) (.tmp 5) (.tmp 6) 22 5 (.int .u8 0) 1 (by rfl) Try.underlying22 info5 (by rfl) (by decide) (by decide) _ [] l (some a) l.length c (fun _ => True) (fun _ => False) (by rfl) (by rfl) HO.out (Kd.C_below HR.out HB.out) (fun _ _ h => h) (fun _ h => h.elim) (fun _ _ => trivial) HB.out HB.out.size (by rw [List.length_nil, Nat.zero_add, Nat.mul_one]; exact hl) ?_; intro v1 w1 hR hb1 hg hat; have HO1 := Aside0.mk hR; have HB1 := Aside0.mk hb1; clear hR hb1 hg hat)
      | go_in)
    go_ret
    exact ⟨_, rfl, HO1.out, HB1.out⟩
/-- copy(v[j:], ys), v a row of one's own. -/
theorem copy8 {W w0 : World} {ops : Array Oper} {rest : List Oper} {o : Oper} {a : Act} {Q : Exit → Act → World → Prop} (hgd : o.guard = none) (d s : Operand)
    (ho : o.op = .call { callee := .builtin .copy, args := #[d, s], argTypes := #[22, 22] }) {A A' : Option Addr} {c j base sc : Nat} {xs ys : List Int} {ok : Nat → Prop}
    (hd : a.eval d = .slice (if c = j then A else A.map (·.add (j * 1))) (xs.length - j) (c - j)) (hs : a.eval s = .slice A' ys.length sc) (hR : k8.R 5 W base ok (.slice A xs.length c) xs) (hC : k8.C W A' ys.length ys) (hj : j ≤ xs.length)
    (hB : Below base w0 W)
    (h : ∀ w', k8.R 5 w' base ok (.slice A xs.length c) (xs.take j ++ ys.take (Nat.min ys.length (xs.length - j)) ++ xs.drop (j + Nat.min ys.length (xs.length - j))) → Below base w0 w' → wpList Try.prog ops Q rest (a.put o.dst (goInt (Nat.min ys.length (xs.length - j)))) w') :
    wpList Try.prog ops Q (o :: rest) a W := by
  have hi : (Try.prog.info? 5).map (·.size) = some 1 := by
    have := congrArg (Option.map (·.2.1)) info5
    rwa [Option.map_map] at this
  have hown := Kd.own_of_R (enc := Value.int .u8) (h1 := fun _ => rfl) hR
  have hok := hR.1
  generalize hm : Nat.min ys.length (xs.length - j) = m at *
  have hm1 : m ≤ ys.length := by rw [← hm]; exact Nat.min_le_left _ _
  have hm2 : m ≤ xs.length - j := by rw [← hm]; exact Nat.min_le_right _ _
  have hnothing : m = 0 → wpList Try.prog ops Q (o :: rest) a W := fun hz => by
    refine wpList_copy_nothing hgd d s 22 22 ho 5 Try.underlying22 hi _ _ _ _ _ _ hd hs (hm.trans hz) ?_
    subst hz
    refine h W ?_ hB
    rw [List.take_zero, List.append_nil, Nat.add_zero, List.take_append_drop]
    exact hR
  rcases hown.2 with ⟨hv, hn⟩ | ⟨g, cap, cur, hv, hbg, hh, h1, h2, h3, h4⟩
  · exact hnothing (by omega)
  · by_cases hz : m = 0
    · exact hnothing hz
    · cases hv
      obtain ⟨ad, rfl, hcell⟩ := (Kd.reads_of_C (enc := Value.int .u8) (d := (0 : Int)) (h1 := fun _ => rfl) hC).2.2 (by omega)
      have hne : ¬ c = j := by omega
      refine wpList_copy_splice hgd d s 22 22 ho 5 Try.underlying22 hi _ _ _ _ _ _ hd hs g j cur.toList 5 (by simpa using hh) ((ys.take m).map (Value.int .u8)) (by simp; omega) (fun _ => ⟨?_, _, rfl, ?_⟩) (by simp; omega) (by intro v hv; obtain ⟨x, _, rfl⟩ := List.mem_map.1 hv; rfl) base w0 hB hbg ?_
      · rw [if_neg hne, Nat.mul_one, Option.map_some]
        unfold Addr.add
        split
        · rename_i e; rw [e]
        · simp
      · intro i v hv
        rw [List.getElem?_map] at hv
        obtain ⟨x, hx, rfl⟩ := Option.map_eq_some_iff.1 hv
        have hi2 : i < m := by have := (List.getElem?_eq_some_iff.1 hx).1; rw [List.length_take] at this; omega
        rw [hcell i (by omega), List.getD_eq_getElem?_getD]
        rw [List.getElem?_take_of_lt hi2] at hx
        rw [hx]; rfl
      · intro w' hw' hB'
        have hlen : ((ys.take m).map (Value.int .u8)).length = m := by rw [List.length_map, List.length_take]; omega
        have hgl : ((xs.take j ++ ys.take m ++ xs.drop (j + m)).length = xs.length) := by simp only [List.length_append, List.length_take, List.length_drop]; omega
        have ho' : w'.ownsRow base 5 1 (.slice (some ⟨g, 0, none⟩) xs.length c) (xs.take j ++ ys.take m ++ xs.drop (j + m)).length (encs (Value.int .u8) (xs.take j ++ ys.take m ++ xs.drop (j + m))) := by
          refine ⟨by simp [encs], .inr ⟨g, c, _, by rw [hgl], hbg, hw'.out, by omega, h2, ?_, ?_⟩⟩
          · rw [List.size_toArray, length_splice _ _ _ (by rw [hlen]; simp; omega)]; simpa using h3
          · have h4' : cur.toList.take xs.length = encs (Value.int .u8) xs := by simpa using h4
            have hcl : cur.toList.length = c := by simpa using h3
            rw [hgl, Nat.mul_one]
            show ((splice cur.toList j ((ys.take m).map (Value.int .u8)))).take xs.length = _
            unfold splice
            rw [hlen, encs_append, encs_append]
            have e1 : cur.toList.take j = encs (Value.int .u8) (xs.take j) := by
              have := congrArg (List.take j) h4'
              rw [List.take_take, Nat.min_eq_left hj] at this
              rw [this]; simp [encs, List.map_take]
            have e2 : (cur.toList.drop (j + m)).take (xs.length - (j + m)) = encs (Value.int .u8) (xs.drop (j + m)) := by
              have := congrArg (List.drop (j + m)) h4'
              rw [List.drop_take] at this
              rw [this]; simp [encs, List.map_drop]
            have e3 : (encs (Value.int .u8) (xs.take j) ++ (ys.take m).map (Value.int .u8)).length = j + m := by rw [List.length_append, hlen, encs_length, List.length_take]; omega
            rw [e1, ← List.append_assoc, List.take_append, List.take_of_length_le (by omega), e3, e2]
            rfl
        have hR' := Kd.R_of_own (enc := Value.int .u8) (h1 := fun _ => rfl) ho' hok
        rw [hlen]
        exact h w' hR' hB'
/-- Bytes laid over others from a place on. -/
def layL (old : List Int) (j : Nat) (b : List Int) : List Int := old.take j ++ b ++ old.drop (j + b.length)
theorem layL_of (old b : List Int) (j : Nat) (hj : j ≤ old.length) :
    (old.take j ++ b.take (Nat.min b.length (old.length - j)) ++ old.drop (j + Nat.min b.length (old.length - j))) ++ b.drop (Nat.min b.length (old.length - j)) = layL old j b := by
  unfold layL
  by_cases h : b.length ≤ old.length - j
  · have e : Nat.min b.length (old.length - j) = b.length := Nat.min_eq_left h
    rw [e, List.drop_length, List.append_nil, List.take_length]
  · have e : Nat.min b.length (old.length - j) = old.length - j := Nat.min_eq_right (by omega)
    have e1 : old.drop (j + (old.length - j)) = [] := List.drop_eq_nil_of_le (by omega)
    have e2 : old.drop (j + b.length) = [] := List.drop_eq_nil_of_le (by omega)
    rw [e, e1, e2, List.append_nil, List.append_nil, List.append_assoc, List.take_append_drop]
theorem layL_len (old b : List Int) (j : Nat) (hj : j ≤ old.length) : (layL old j b).length = max old.length (j + b.length) := by
  unfold layL
  simp only [List.length_append, List.length_take, List.length_drop]
  omega
set_option maxRecDepth 100000 in
/-- disk.lay -/
theorem lay_calls (A : Option Addr) (c : Nat) (old : List Int) (at_ : Int) (A' : Option Addr) (c' : Nat) (b : List Int) (w : World) (hr : k8.C w A old.length old) (hr' : k8.C w A' b.length b) (hc' : b.length ≤ c') (h0 : 0 ≤ at_) (h1 : at_ ≤ old.length)
    (hl : old.length + b.length ≤ 100000000000) :
    Calls Try.prog 58 #[.slice A old.length c, .int .i64 at_, .slice A' b.length c'] w fun e w' => ∃ v1, e = .returned v1 ∧ k8.R 5 w' w.heap.size (fun _ => True) v1 (layL old at_.toNat b) ∧ Below w.heap.size w w' := by
  have HR := Aside0.mk hr
  have HR' := Aside0.mk hr'
  clear hr hr'
  obtain ⟨i0, hi0, hz⟩ := Option.map_eq_some_iff.1 info5
  simp only [Prod.mk.injEq] at hz
  have hiz : i0.size = 1 := hz.2.1
  have HI := Aside0.mk hi0
  have HZ := Aside0.mk hiz
  clear hz hi0 hiz
  obtain ⟨j, rfl⟩ := Int.eq_ofNat_of_zero_le h0
  go_enter Try.func58, Try.ntmps58
  go_wp2_with fail
  refine (clone8 A c old w HR.out (by omega)).mono ?_
  rintro e w1 ⟨v1, rfl, ho, hb⟩
  obtain ⟨A1, c1, rfl⟩ := Kd.R_slice ho
  have hlen := (Kd.R_reads' ho).2.1
  have HO := Aside0.mk ho
  have HB := Aside0.mk hb
  clear ho hb
  have hcut := cut_from 22 5 .i64 Try.underlying22 HI.out 1 HZ.out A1 old.length c1 (j : Int) (by omega) (by omega)
  rw [Int.toNat_natCast] at hcut
  obtain ⟨D1, hD1⟩ : ∃ D1, (if c1 = j then A1 else A1.map (·.add (j * 1))) = D1 := ⟨_, rfl⟩
  rw [hD1] at hcut
  have HD := Aside0.mk hD1
  clear hD1
  obtain ⟨m, hm⟩ : ∃ m, Nat.min b.length (old.length - j) = m := ⟨_, rfl⟩
  have hmb : m ≤ b.length := by rw [← hm]; exact Nat.min_le_left _ _
  have hcut2 := cut_from 22 5 .i64 Try.underlying22 HI.out 1 HZ.out A' b.length c' (m : Int) (by omega) (by omega)
  rw [Int.toNat_natCast] at hcut2
  obtain ⟨D2, hD2⟩ : ∃ D2, (if c' = m then A' else A'.map (·.add (m * 1))) = D2 := ⟨_, rfl⟩
  rw [hD2] at hcut2
  have HM := Aside0.mk hm
  have HD2 := Aside0.mk hD2
  clear hm hD2
  have hdrop : ∀ W, k8.C W A' b.length b → k8.C W D2 (b.length - m) (b.drop m) := fun W h => by
    have h' := Kd.C_drop h hmb hc'
    rw [List.length_drop] at h'
    rw [← HD2.out]
    exact h'
  have HDR := Aside0.mk hdrop
  clear hdrop
  have hfin := layL_of old b j (by omega)
  rw [HM.out] at hfin
  have HF := Aside0.mk hfin
  clear hfin
  obtain ⟨X, hX⟩ : ∃ X, old.take j ++ b.take m ++ old.drop (j + m) = X := ⟨_, rfl⟩
  have hXl : X.length = old.length := by
    have hm2 : m ≤ old.length - j := by rw [← HM.out]; exact Nat.min_le_right _ _
    rw [← hX]; simp only [List.length_append, List.length_take, List.length_drop]; omega
  have HX := Aside0.mk hX
  have HXL := Aside0.mk hXl
  clear hX hXl
  go_wp2_with (first
    | ((with_reducible refine gate_dst (N := 15) rfl ?_); refine copy8 (by rfl) (.tmp 13) (.tmp 14) (by rfl) (A := A1) (A' := A') (c := c1) (j := j) (sc := c') (xs := old) (ys := b) (base := w.heap.size) (ok := fun _ => True) (by rw [HD.out]; rfl) (by rfl) HO.out (Kd.C_below HR'.out HB.out) (by omega) HB.out ?_; rw [HM.out, HX.out]; intro w2 ho2 hb2; have HO2 := Aside0.mk ho2; have HB2 := Aside0.mk hb2; clear ho2 hb2)
    | ((with_reducible refine gate_dst (N := 20) rfl ?_); refine Kd.R_append_rows k8 (w0 := w) w.heap.size (by rfl) (.tmp 16) (.tmp 19) 22 5 (.int .u8 0) 1 (by rfl) Try.underlying22 info5 (by rfl) (by decide) (by decide) _ X (b.drop m) D2 (b.length - m) (c' - m) (fun _ => True) (fun _ => False) (by rfl) (by rfl) HO2.out (HDR.out _ (Kd.C_below HR'.out HB2.out)) (fun _ _ h => h) (fun _ h => h.elim) (fun _ _ => trivial) HB2.out HB2.out.size (by rw [HXL.out]; omega) ?_; intro v3 w3 hR hb3 hg hat; have HO3 := Aside0.mk hR; have HB3 := Aside0.mk hb3; clear hR hb3 hg hat)
    | go_in)
  go_ret
  refine ⟨_, rfl, ?_, HB3.out⟩
  have := HO3.out
  rw [← HX.out, HF.out] at this
  exact this
end Go.Proofs.Ytmmiipnmimjojaa.PS
end
