/- disk.Names: all names, sorted. -/
import Derived.Test.YtmmiipnmimjojaaShelfI
import Derived.Test.YtmmiipnmimjojaaD2
import Derived.Sort.KeysCollected
namespace Go.Proofs
open Go.RowKit Go.Maps Go.Sort Go.Shelf
/-- slices.Sort's two contracts at this dump, at the fence that asks nothing. -/
theorem Try.sorts64 (m : Nat) : AnyZ.SortsIn Try.prog Try.sorted64_ren Fence.wide m :=
  ⟨fun blk off cap ss W hH hblk hsz => callsIn_wide.2 (AnyM.slices_Sort_string Try.sort96 blk off cap ss W hH hblk hsz),
   fun p cap W => callsIn_wide.2 (AnyM.slices_Sort_string_none Try.sort96 p cap W)⟩

/-- **maps.Keys[map[string]*tollgate/disk.file,string,*tollgate/disk.file], at whatever map, the nil one too:** a function value over ONE NEW BLOCK, which holds the map. -/
theorem Try.maps_Keys_65 (mb : Option Nat) (W : World) : CallsIn Fence.wide 5 Try.prog 65 #[.map mb] W fun e w' => e = .returned (.func (.func 97) #[] #[.pointer (some ⟨W.heap.size, 0, none⟩)]) ∧ w' = W.alloc (.cells #[.map mb] 103) :=
  AnyZ.keys_in Try.keys65 Fence.wide 5 trivial rfl mb W

set_option maxHeartbeats 1000000 in
/-- **slices.Sorted[string] AT WHAT maps.Keys[map[string]*tollgate/disk.file,string,*tollgate/disk.file] HANDED BACK FOR A MAP THAT IS NOT nil** ('w': the world AHEAD of maps.Keys' call): A NEW SLICE THAT HOLDS THE MAP's KEYS, SORTED; nil just where it has none; nothing that lay before has turned. -/
theorem Try.slices_Sorted_keys_64_65 {H : Type} (b nn : Nat) (D0 : DataW H) (R : Value → Option (DataW H × List MemPlace)) (w : World) (hown : w.ownsMap Try.prog 9 R b nn D0) (hmax : Maps.size D0 ≤ maxLen) (hbytes : Maps.size D0 * 16 ≤ 140737488355328) :
    CallsIn Fence.wide 5 Try.prog 64 #[.func (.func 97) #[] #[.pointer (some ⟨w.heap.size, 0, none⟩)]] (w.alloc (.cells #[.map (some b)] 103)) fun e w' => ∃ (v : Value) (ss : List (List UInt8)), e = .returned v ∧ ss.Perm (strKeys D0) ∧
      w'.ownsRow (w.alloc (.cells #[.map (some b)] 103)).heap.size 9 1 v ss.length ((ss.mergeSort (fun x y => decide (x ≤ y))).map encStr) ∧ (v = .slice none 0 0 ↔ ss = []) ∧ Below (w.alloc (.cells #[.map (some b)] 103)).heap.size (w.alloc (.cells #[.map (some b)] 103)) w' := by
  have hbl := hown.lt
  have hseq : SeqGives Fence.wide 2 Try.prog 97 #[.pointer (some ⟨w.heap.size, 0, none⟩)] encStr (fun ss => ss.Perm (strKeys D0)) (Maps.size D0) (w.alloc (.cells #[.map (some b)] 103)) :=
    AnyZ.keys_gives (ρ := Try.keys65_ren) { Try.keys65 with } Fence.wide _ trivial rfl (by omega) w.heap.size b nn D0 _ (by simp) (by simp) (by
      obtain ⟨es, clock, hb, Ft, hs, hD⟩ := hown
      exact ⟨es, clock, (Below.heap_alloc _ _ b hbl).trans hb, Ft, hs, hD⟩)
  exact AnyZ.sorted_in Try.sorted64 Fence.wide 5 trivial trivial trivial trivial rfl (by omega) (Try.sorts64 _) (enters_of Try.func96 (by kernel_rfl) rfl) 97 #[.pointer (some ⟨w.heap.size, 0, none⟩)] trivial (enters_of Try.func97 (by kernel_rfl) rfl) _ _ hmax hbytes _ hseq

end Go.Proofs
namespace Go.Proofs.Ytmmiipnmimjojaa.PS
open Go.RowKit Go.Proofs.YtmmiipnmimjojaaW.PrintWords Go.Proofs.YtmmiipnmimjojaaW.PrintLast Go.Proofs.YtmmiipnmimjojaaW.PrintMore
open Go.Maps Go.Proofs.Ytmmiipnmimjojaa.PD Go.Sort
set_option linter.unusedVariables false
set_option linter.unusedSimpArgs false
theorem strKeys_dOf (L : List (Nm × Nat)) : strKeys (dOf L) = L.map (·.1) := by
  show ((L.map fun p => ((Lit.string p.1, DataW.lit (.int .i64 p.2)) : Lit × DataW Unit)).map fun p => strOf p.1) = _
  rw [List.map_map]
  rfl
theorem nlt_le : ∀ {a b : Nm}, nlt a b = true → a ≤ b
  | [], b, _ => List.nil_le _
  | _ :: _, [], h => by simp [nlt, Op.bytesLess] at h
  | x :: a, y :: b, h => by
    simp only [nlt, Op.bytesLess, Bool.or_eq_true, Bool.and_eq_true, decide_eq_true_eq, beq_iff_eq] at h
    rcases h with h | ⟨rfl, h⟩
    · exact List.cons_le_cons_iff.2 (.inl h)
    · exact List.cons_le_cons_iff.2 (.inr ⟨rfl, nlt_le h⟩)
theorem sorted_keys {ss ks : List Nm} (h : ks.Pairwise fun a b => nlt a b = true) (hp : ss.Perm ks) : ss.mergeSort (fun x y => decide (x ≤ y)) = ks := by
  have h1 : (ss.mergeSort (fun x y => decide (x ≤ y))).Perm ks := (List.mergeSort_perm _ _).trans hp
  have h2 := List.pairwise_mergeSort (le := fun x y : Nm => decide (x ≤ y)) (fun a b c h1 h2 => by simp at *; exact List.le_trans h1 h2) (fun a b => by simp; exact List.le_total a b) ss
  refine h1.eq_of_pairwise (le := fun x y => decide (x ≤ y) = true) (fun a b _ _ h1 h2 => ?_) h2 (h.imp fun h => by simpa using nlt_le h)
  simp at h1 h2
  exact List.le_antisymm h1 h2
/-- A name, as Go has it. -/
def str (n : Nm) : ByteArray := ⟨n.toArray⟩
theorem str_nm (s : ByteArray) : str s.data.toList = s := rfl
theorem nm_str (n : Nm) : (str n).data.toList = n := rfl
def namesB {α : Type} (l : List (Nm × α)) : List ByteArray := l.map fun p => str p.1
theorem names_R {w : World} {base : Nat} {v : Value} {l : List Nm} (h : w.ownsRow base 9 1 v l.length (l.map encStr)) : Kd.R Kd.string 9 w base (fun _ => True) v (l.map str) := by
  refine Kd.R_of_own (enc := Value.string) (h1 := fun _ => rfl) ?_ (fun _ _ => trivial)
  have e : encs Value.string (l.map str) = l.map encStr := by
    unfold encs
    rw [List.map_map]
    rfl
  rw [e, List.length_map]
  exact h
set_option maxRecDepth 100000 in
/-- disk.Names -/
theorem names_calls {W : World} {S : Nat → Prop} {d : Nat} {D : Dsk} (h : DskAt W S d D) (hl : D.files.length ≤ 1000000000) :
    Calls Try.prog 25 #[.pointer (some ⟨d, 0, none⟩)] W fun e w' => ∃ v, e = .returned v ∧ Kd.R Kd.string 9 w' W.heap.size (fun _ => True) v (namesB D.files) ∧ Below W.heap.size W w' := by
  obtain ⟨m, own, T, ⟨hd, hM, hh, ht, hs, hf, hnd⟩, hD⟩ := h
  rw [← hD] at hl ⊢
  clear hD
  have hk : (tblk T).map (·.1) = (tfil T).map (·.1) := by unfold tblk tfil; rw [amap_keys, amap_keys]
  have hs1 : ((tfil T).map (·.1)).Pairwise fun a b => nlt a b = true := by
    rw [List.pairwise_map]
    exact srt_map _ hs
  have hlen : (tblk T).length = (tfil T).length := by unfold tblk tfil; rw [amap_len, amap_len]
  have hc1 : W.cell? ⟨d, 1, none⟩ = some (.map (some m)) := blk_cell hh 1
  have HT := Aside0.mk ht
  have HS := Aside0.mk hs1
  have HK := Aside0.mk hk
  have HL := Aside0.mk hlen
  clear hh hf hs hnd ht hs1 hk hlen
  go_enter Try.func25, Try.ntmps25
  go_wp2_with fail
  refine ((callsIn_wide).1 (Try.maps_Keys_65 (some m) _)).mono ?_
  rintro e w1 ⟨rfl, rfl⟩
  go_wp2_with fail
  refine ((callsIn_wide).1 (Try.slices_Sorted_keys_64_65 m (tblk T).length (dOf (tblk T)) ptrElem W HT.out (by rw [dOf_size, HL.out]; unfold maxLen; omega) (by rw [dOf_size, HL.out]; omega))).mono ?_
  rintro e w2 ⟨v, ss, rfl, hp, hrow, _, hb⟩
  rw [strKeys_dOf, HK.out] at hp
  have hso := sorted_keys HS.out hp
  rw [hso, hp.length_eq] at hrow
  have HR := Aside0.mk (names_R hrow)
  have HB := Aside0.mk hb
  clear hso hp hrow hb
  go_wp2
  go_ret
  refine ⟨_, rfl, ?_, ?_⟩
  · have h := HR.out
    have e : ((tfil T).map (·.1)).map str = namesB (tfil T) := by unfold namesB; rw [List.map_map]; rfl
    rw [e] at h
    exact Kd.R_lower h (by simp)
  · exact ((Below.refl _ _).alloc (Nat.le_refl _) _).trans (HB.out.mono (by simp))
end Go.Proofs.Ytmmiipnmimjojaa.PS
