/- disk.with, for each closure. -/
import Derived.Test.YtmmiipnmimjojaaD4
namespace Go.Proofs.Ytmmiipnmimjojaa.PS
open Go.RowKit Go.Proofs.YtmmiipnmimjojaaW.PrintWords Go.Proofs.YtmmiipnmimjojaaW.PrintLast Go.Proofs.YtmmiipnmimjojaaW.PrintMore
open Go.Maps Go.Proofs.Ytmmiipnmimjojaa.PD
set_option linter.unusedVariables false
set_option linter.unusedSimpArgs false
theorem DskIn.get {W : World} {S : Nat → Prop} {d m : Nat} {own : Nat → Nat} {T : Tb} {room : Int} (h : DskIn W S d m own T room) (n : Nm) : aget n (tblk T) = (aget n T).map fun e => e.1 := aget_map _ _ _
theorem DskAt.in_ {W : World} {S : Nat → Prop} {d : Nat} {D : Dsk} (h : DskAt W S d D) (n : Nm) : ∃ m own T, DskIn W S d m own T D.room ∧ tfil T = D.files ∧ aget n D.files = (aget n T).map fun e => e.2 := by
  obtain ⟨m, own, T, hi, hD⟩ := h
  exact ⟨m, own, T, hi, hD, by rw [← hD]; exact aget_map _ _ _⟩
set_option maxRecDepth 100000 in
theorem with_sync {W : World} {S : Nat → Prop} {d m : Nat} {own : Nat → Nat} {T : Tb} {room : Int} {b : Nat} {f : Fil} {s : ByteArray} {caps : Array Value} {P : Int → World → Prop} (h : DskIn W S d m own T room) (hs : s.size ≤ maxLen) (hg : aget s.data.toList T = some (b, f))
    (hK : Calls Try.prog 61 (#[.pointer (some ⟨b, 0, none⟩)] ++ caps) W fun e w' => ∃ r, e = .returned (.int .i64 r) ∧ P r w') :
    Calls Try.prog 60 #[.pointer (some ⟨d, 0, none⟩), .string s, .func (.func 61) #[] caps] W fun e w' => ∃ r, e = .returned (.int .i64 r) ∧ P r w' := by
  have hc1 : W.cell? ⟨d, 1, none⟩ = some (.map (some m)) := blk_cell h.2.2.1 1
  have hl := h.2.2.2.1.look s hs (some b) (by rw [h.get, hg]; rfl)
  have HK := Aside0.mk hK
  clear hK hg h
  go_enter Try.func60, Try.ntmps60
  go_wp2_with fail
  refine HK.out.mono ?_
  rintro e w' ⟨r, rfl, hp⟩
  have HP := Aside0.mk hp
  clear hp
  go_wp2
  go_ret
  exact ⟨_, rfl, HP.out⟩
set_option maxRecDepth 100000 in
theorem gone_sync {W : World} {S : Nat → Prop} {d m : Nat} {own : Nat → Nat} {T : Tb} {room : Int} {s : ByteArray} {caps : Array Value} (h : DskIn W S d m own T room) (hs : s.size ≤ maxLen) (hg : aget s.data.toList T = none) :
    Calls Try.prog 60 #[.pointer (some ⟨d, 0, none⟩), .string s, .func (.func 61) #[] caps] W fun e w' => e = .returned (.int .i64 8) ∧ w' = W := by
  have hc1 : W.cell? ⟨d, 1, none⟩ = some (.map (some m)) := blk_cell h.2.2.1 1
  have hl := h.2.2.2.1.look s hs none (by rw [h.get, hg]; rfl)
  clear hg h
  go_enter Try.func60, Try.ntmps60
  go_wp2_with fail
  go_ret
  exact ⟨rfl, rfl⟩
set_option maxRecDepth 100000 in
theorem nil_sync {W : World} {s : ByteArray} {caps : Array Value} :
    Calls Try.prog 60 #[.pointer none, .string s, .func (.func 61) #[] caps] W fun e w' => e = .returned (.int .i64 1) ∧ w' = W := by
  go_enter Try.func60, Try.ntmps60
  go_wp2_with fail
  go_ret
  exact ⟨rfl, rfl⟩
set_option maxRecDepth 100000 in
theorem with_cut {W : World} {S : Nat → Prop} {d m : Nat} {own : Nat → Nat} {T : Tb} {room : Int} {b : Nat} {f : Fil} {s : ByteArray} {caps : Array Value} {P : Int → World → Prop} (h : DskIn W S d m own T room) (hs : s.size ≤ maxLen) (hg : aget s.data.toList T = some (b, f))
    (hK : Calls Try.prog 77 (#[.pointer (some ⟨b, 0, none⟩)] ++ caps) W fun e w' => ∃ r, e = .returned (.int .i64 r) ∧ P r w') :
    Calls Try.prog 60 #[.pointer (some ⟨d, 0, none⟩), .string s, .func (.func 77) #[] caps] W fun e w' => ∃ r, e = .returned (.int .i64 r) ∧ P r w' := by
  have hc1 : W.cell? ⟨d, 1, none⟩ = some (.map (some m)) := blk_cell h.2.2.1 1
  have hl := h.2.2.2.1.look s hs (some b) (by rw [h.get, hg]; rfl)
  have HK := Aside0.mk hK
  clear hK hg h
  go_enter Try.func60, Try.ntmps60
  go_wp2_with fail
  refine HK.out.mono ?_
  rintro e w' ⟨r, rfl, hp⟩
  have HP := Aside0.mk hp
  clear hp
  go_wp2
  go_ret
  exact ⟨_, rfl, HP.out⟩
set_option maxRecDepth 100000 in
theorem gone_cut {W : World} {S : Nat → Prop} {d m : Nat} {own : Nat → Nat} {T : Tb} {room : Int} {s : ByteArray} {caps : Array Value} (h : DskIn W S d m own T room) (hs : s.size ≤ maxLen) (hg : aget s.data.toList T = none) :
    Calls Try.prog 60 #[.pointer (some ⟨d, 0, none⟩), .string s, .func (.func 77) #[] caps] W fun e w' => e = .returned (.int .i64 8) ∧ w' = W := by
  have hc1 : W.cell? ⟨d, 1, none⟩ = some (.map (some m)) := blk_cell h.2.2.1 1
  have hl := h.2.2.2.1.look s hs none (by rw [h.get, hg]; rfl)
  clear hg h
  go_enter Try.func60, Try.ntmps60
  go_wp2_with fail
  go_ret
  exact ⟨rfl, rfl⟩
set_option maxRecDepth 100000 in
theorem nil_cut {W : World} {s : ByteArray} {caps : Array Value} :
    Calls Try.prog 60 #[.pointer none, .string s, .func (.func 77) #[] caps] W fun e w' => e = .returned (.int .i64 1) ∧ w' = W := by
  go_enter Try.func60, Try.ntmps60
  go_wp2_with fail
  go_ret
  exact ⟨rfl, rfl⟩
set_option maxRecDepth 100000 in
theorem with_rename {W : World} {S : Nat → Prop} {d m : Nat} {own : Nat → Nat} {T : Tb} {room : Int} {b : Nat} {f : Fil} {s : ByteArray} {caps : Array Value} {P : Int → World → Prop} (h : DskIn W S d m own T room) (hs : s.size ≤ maxLen) (hg : aget s.data.toList T = some (b, f))
    (hK : Calls Try.prog 75 (#[.pointer (some ⟨b, 0, none⟩)] ++ caps) W fun e w' => ∃ r, e = .returned (.int .i64 r) ∧ P r w') :
    Calls Try.prog 60 #[.pointer (some ⟨d, 0, none⟩), .string s, .func (.func 75) #[] caps] W fun e w' => ∃ r, e = .returned (.int .i64 r) ∧ P r w' := by
  have hc1 : W.cell? ⟨d, 1, none⟩ = some (.map (some m)) := blk_cell h.2.2.1 1
  have hl := h.2.2.2.1.look s hs (some b) (by rw [h.get, hg]; rfl)
  have HK := Aside0.mk hK
  clear hK hg h
  go_enter Try.func60, Try.ntmps60
  go_wp2_with fail
  refine HK.out.mono ?_
  rintro e w' ⟨r, rfl, hp⟩
  have HP := Aside0.mk hp
  clear hp
  go_wp2
  go_ret
  exact ⟨_, rfl, HP.out⟩
set_option maxRecDepth 100000 in
theorem gone_rename {W : World} {S : Nat → Prop} {d m : Nat} {own : Nat → Nat} {T : Tb} {room : Int} {s : ByteArray} {caps : Array Value} (h : DskIn W S d m own T room) (hs : s.size ≤ maxLen) (hg : aget s.data.toList T = none) :
    Calls Try.prog 60 #[.pointer (some ⟨d, 0, none⟩), .string s, .func (.func 75) #[] caps] W fun e w' => e = .returned (.int .i64 8) ∧ w' = W := by
  have hc1 : W.cell? ⟨d, 1, none⟩ = some (.map (some m)) := blk_cell h.2.2.1 1
  have hl := h.2.2.2.1.look s hs none (by rw [h.get, hg]; rfl)
  clear hg h
  go_enter Try.func60, Try.ntmps60
  go_wp2_with fail
  go_ret
  exact ⟨rfl, rfl⟩
set_option maxRecDepth 100000 in
theorem nil_rename {W : World} {s : ByteArray} {caps : Array Value} :
    Calls Try.prog 60 #[.pointer none, .string s, .func (.func 75) #[] caps] W fun e w' => e = .returned (.int .i64 1) ∧ w' = W := by
  go_enter Try.func60, Try.ntmps60
  go_wp2_with fail
  go_ret
  exact ⟨rfl, rfl⟩
set_option maxRecDepth 100000 in
theorem with_remove {W : World} {S : Nat → Prop} {d m : Nat} {own : Nat → Nat} {T : Tb} {room : Int} {b : Nat} {f : Fil} {s : ByteArray} {caps : Array Value} {P : Int → World → Prop} (h : DskIn W S d m own T room) (hs : s.size ≤ maxLen) (hg : aget s.data.toList T = some (b, f))
    (hK : Calls Try.prog 76 (#[.pointer (some ⟨b, 0, none⟩)] ++ caps) W fun e w' => ∃ r, e = .returned (.int .i64 r) ∧ P r w') :
    Calls Try.prog 60 #[.pointer (some ⟨d, 0, none⟩), .string s, .func (.func 76) #[] caps] W fun e w' => ∃ r, e = .returned (.int .i64 r) ∧ P r w' := by
  have hc1 : W.cell? ⟨d, 1, none⟩ = some (.map (some m)) := blk_cell h.2.2.1 1
  have hl := h.2.2.2.1.look s hs (some b) (by rw [h.get, hg]; rfl)
  have HK := Aside0.mk hK
  clear hK hg h
  go_enter Try.func60, Try.ntmps60
  go_wp2_with fail
  refine HK.out.mono ?_
  rintro e w' ⟨r, rfl, hp⟩
  have HP := Aside0.mk hp
  clear hp
  go_wp2
  go_ret
  exact ⟨_, rfl, HP.out⟩
set_option maxRecDepth 100000 in
theorem gone_remove {W : World} {S : Nat → Prop} {d m : Nat} {own : Nat → Nat} {T : Tb} {room : Int} {s : ByteArray} {caps : Array Value} (h : DskIn W S d m own T room) (hs : s.size ≤ maxLen) (hg : aget s.data.toList T = none) :
    Calls Try.prog 60 #[.pointer (some ⟨d, 0, none⟩), .string s, .func (.func 76) #[] caps] W fun e w' => e = .returned (.int .i64 8) ∧ w' = W := by
  have hc1 : W.cell? ⟨d, 1, none⟩ = some (.map (some m)) := blk_cell h.2.2.1 1
  have hl := h.2.2.2.1.look s hs none (by rw [h.get, hg]; rfl)
  clear hg h
  go_enter Try.func60, Try.ntmps60
  go_wp2_with fail
  go_ret
  exact ⟨rfl, rfl⟩
set_option maxRecDepth 100000 in
theorem nil_remove {W : World} {s : ByteArray} {caps : Array Value} :
    Calls Try.prog 60 #[.pointer none, .string s, .func (.func 76) #[] caps] W fun e w' => e = .returned (.int .i64 1) ∧ w' = W := by
  go_enter Try.func60, Try.ntmps60
  go_wp2_with fail
  go_ret
  exact ⟨rfl, rfl⟩
set_option maxRecDepth 100000 in
theorem with_read {W : World} {S : Nat → Prop} {d m : Nat} {own : Nat → Nat} {T : Tb} {room : Int} {b : Nat} {f : Fil} {s : ByteArray} {caps : Array Value} {P : Int → World → Prop} (h : DskIn W S d m own T room) (hs : s.size ≤ maxLen) (hg : aget s.data.toList T = some (b, f))
    (hK : Calls Try.prog 63 (#[.pointer (some ⟨b, 0, none⟩)] ++ caps) W fun e w' => ∃ r, e = .returned (.int .i64 r) ∧ P r w') :
    Calls Try.prog 60 #[.pointer (some ⟨d, 0, none⟩), .string s, .func (.func 63) #[] caps] W fun e w' => ∃ r, e = .returned (.int .i64 r) ∧ P r w' := by
  have hc1 : W.cell? ⟨d, 1, none⟩ = some (.map (some m)) := blk_cell h.2.2.1 1
  have hl := h.2.2.2.1.look s hs (some b) (by rw [h.get, hg]; rfl)
  have HK := Aside0.mk hK
  clear hK hg h
  go_enter Try.func60, Try.ntmps60
  go_wp2_with fail
  refine HK.out.mono ?_
  rintro e w' ⟨r, rfl, hp⟩
  have HP := Aside0.mk hp
  clear hp
  go_wp2
  go_ret
  exact ⟨_, rfl, HP.out⟩
set_option maxRecDepth 100000 in
theorem gone_read {W : World} {S : Nat → Prop} {d m : Nat} {own : Nat → Nat} {T : Tb} {room : Int} {s : ByteArray} {caps : Array Value} (h : DskIn W S d m own T room) (hs : s.size ≤ maxLen) (hg : aget s.data.toList T = none) :
    Calls Try.prog 60 #[.pointer (some ⟨d, 0, none⟩), .string s, .func (.func 63) #[] caps] W fun e w' => e = .returned (.int .i64 8) ∧ w' = W := by
  have hc1 : W.cell? ⟨d, 1, none⟩ = some (.map (some m)) := blk_cell h.2.2.1 1
  have hl := h.2.2.2.1.look s hs none (by rw [h.get, hg]; rfl)
  clear hg h
  go_enter Try.func60, Try.ntmps60
  go_wp2_with fail
  go_ret
  exact ⟨rfl, rfl⟩
set_option maxRecDepth 100000 in
theorem nil_read {W : World} {s : ByteArray} {caps : Array Value} :
    Calls Try.prog 60 #[.pointer none, .string s, .func (.func 63) #[] caps] W fun e w' => e = .returned (.int .i64 1) ∧ w' = W := by
  go_enter Try.func60, Try.ntmps60
  go_wp2_with fail
  go_ret
  exact ⟨rfl, rfl⟩
set_option maxRecDepth 100000 in
theorem with_sure {W : World} {S : Nat → Prop} {d m : Nat} {own : Nat → Nat} {T : Tb} {room : Int} {b : Nat} {f : Fil} {s : ByteArray} {caps : Array Value} {P : Int → World → Prop} (h : DskIn W S d m own T room) (hs : s.size ≤ maxLen) (hg : aget s.data.toList T = some (b, f))
    (hK : Calls Try.prog 88 (#[.pointer (some ⟨b, 0, none⟩)] ++ caps) W fun e w' => ∃ r, e = .returned (.int .i64 r) ∧ P r w') :
    Calls Try.prog 60 #[.pointer (some ⟨d, 0, none⟩), .string s, .func (.func 88) #[] caps] W fun e w' => ∃ r, e = .returned (.int .i64 r) ∧ P r w' := by
  have hc1 : W.cell? ⟨d, 1, none⟩ = some (.map (some m)) := blk_cell h.2.2.1 1
  have hl := h.2.2.2.1.look s hs (some b) (by rw [h.get, hg]; rfl)
  have HK := Aside0.mk hK
  clear hK hg h
  go_enter Try.func60, Try.ntmps60
  go_wp2_with fail
  refine HK.out.mono ?_
  rintro e w' ⟨r, rfl, hp⟩
  have HP := Aside0.mk hp
  clear hp
  go_wp2
  go_ret
  exact ⟨_, rfl, HP.out⟩
set_option maxRecDepth 100000 in
theorem gone_sure {W : World} {S : Nat → Prop} {d m : Nat} {own : Nat → Nat} {T : Tb} {room : Int} {s : ByteArray} {caps : Array Value} (h : DskIn W S d m own T room) (hs : s.size ≤ maxLen) (hg : aget s.data.toList T = none) :
    Calls Try.prog 60 #[.pointer (some ⟨d, 0, none⟩), .string s, .func (.func 88) #[] caps] W fun e w' => e = .returned (.int .i64 8) ∧ w' = W := by
  have hc1 : W.cell? ⟨d, 1, none⟩ = some (.map (some m)) := blk_cell h.2.2.1 1
  have hl := h.2.2.2.1.look s hs none (by rw [h.get, hg]; rfl)
  clear hg h
  go_enter Try.func60, Try.ntmps60
  go_wp2_with fail
  go_ret
  exact ⟨rfl, rfl⟩
set_option maxRecDepth 100000 in
theorem nil_sure {W : World} {s : ByteArray} {caps : Array Value} :
    Calls Try.prog 60 #[.pointer none, .string s, .func (.func 88) #[] caps] W fun e w' => e = .returned (.int .i64 1) ∧ w' = W := by
  go_enter Try.func60, Try.ntmps60
  go_wp2_with fail
  go_ret
  exact ⟨rfl, rfl⟩
end Go.Proofs.Ytmmiipnmimjojaa.PS
