/- slices.Sorted(maps.Keys(m)) at a map without entries, for the machine. -/
import Derived.Test.YtghmmmglndpmoaaGreatDfwW
import Derived.Shelf.SlIterI.Nil
import Derived.Shelf.SortM.Plain
import Derived.Shelf.SortM.SortNone
import Derived.Ground.GgzProg
import Derived.Ground.SlgmProg
import Derived.Test.YtghmmmglndpmoaaGreatProg
import Derived.Shelf.Lay
import Derived.KernelRfl
namespace Go.Proofs
open Go.RowKit Go.Maps Go.Sort Go.Shelf
def Tryz.keysA_ren : Go.Shelf.Ren := ⟨fun | 7 => 110 | 10 => 136 | n => n, fun | 23 => 152 | 26 => 3 | 3 => 109 | 28 => 170 | 0 => 0 | 27 => 169 | 33 => 102 | 4 => 4 | n => n, fun | n => n⟩

theorem Tryz.keysA : Go.Proofs.SlLaysZI.n7 Tryz.prog Tryz.keysA_ren := {
  mixed := by kernel_rfl,
  f7 := ⟨ "maps.Keys[map[int]drayage/api.Alloc,int,drayage/api.Alloc]", by decide, Tryz.func110.trans (congrArg some (by kernel_rfl))⟩,
  f10 := ⟨ "maps.Keys[map[int]drayage/api.Alloc,int,drayage/api.Alloc]$1", by decide, Tryz.func136.trans (congrArg some (by kernel_rfl))⟩,
  t0 := Tryz.underlying0,
  a0 := Tryz.isAgg0,
  z0 := Tryz.sizeOf0,
  v0 := Tryz.zeroValue0,
  t4 := Tryz.underlying4,
  a4 := Tryz.isAgg4,
  z4 := Tryz.sizeOf4,
  v4 := Tryz.zeroValue4,
  t23 := Tryz.underlying152,
  a23 := Tryz.isAgg152,
  z23 := Tryz.sizeOf152,
  v23 := Tryz.zeroValue152,
  t26 := Tryz.underlying3,
  a26 := Tryz.isAgg3,
  z26 := Tryz.sizeOf3,
  v26 := Tryz.zeroValue3,
  t27 := Tryz.underlying169,
  a27 := Tryz.isAgg169,
  z27 := Tryz.sizeOf169,
  v27 := Tryz.zeroValue169,
  t28 := Tryz.underlying170,
  a28 := Tryz.isAgg170,
  z28 := Tryz.sizeOf170,
  v28 := Tryz.zeroValue170,
  t33 := Tryz.underlying102,
  a33 := Tryz.isAgg102,
  z33 := Tryz.sizeOf102,
  v33 := Tryz.zeroValue102 }

def Tryz.sortedA_ren : Go.Shelf.Ren := ⟨fun | 6 => 109 | 8 => 134 | 9 => 135 | 11 => 145 | 13 => 147 | 12 => 146 | 23 => 171 | 24 => 172 | 14 => 162 | 15 => 163 | 16 => 164 | 17 => 165 | 18 => 166 | 19 => 167 | 20 => 168 | 21 => 169 | 22 => 170 | 25 => 175 | 26 => 176 | 27 => 177 | 28 => 178 | 29 => 179 | 30 => 180 | 31 => 181 | n => n, fun | 26 => 3 | 28 => 170 | 24 => 33 | 0 => 0 | 3 => 3 | 37 => 207 | 48 => 225 | 50 => 227 | 4 => 4 | 40 => 219 | 39 => 218 | 45 => 142 | 5 => 5 | 9 => 9 | 51 => 228 | 55 => 232 | 57 => 234 | 58 => 235 | 33 => 102 | n => n, fun | n => n⟩

theorem Tryz.sortedA : Go.Proofs.SlLaysZI.n6 Tryz.prog Tryz.sortedA_ren := {
  mixed := by kernel_rfl,
  f6 := ⟨ "slices.Sorted[int]", by decide, Tryz.func109.trans (congrArg some (by kernel_rfl))⟩,
  f8 := ⟨ "slices.Collect[int]", by decide, Tryz.func134.trans (congrArg some (by kernel_rfl))⟩,
  f11 := ⟨ "slices.AppendSeq[[]int,int]", by decide, Tryz.func145.trans (congrArg some (by kernel_rfl))⟩,
  t0 := Tryz.underlying0,
  a0 := Tryz.isAgg0,
  z0 := Tryz.sizeOf0,
  v0 := Tryz.zeroValue0,
  t24 := Tryz.underlying33,
  a24 := Tryz.isAgg33,
  z24 := Tryz.sizeOf33,
  v24 := Tryz.zeroValue33,
  t26 := Tryz.underlying3,
  a26 := Tryz.isAgg3,
  z26 := Tryz.sizeOf3,
  v26 := Tryz.zeroValue3,
  t28 := Tryz.underlying170,
  a28 := Tryz.isAgg170,
  z28 := Tryz.sizeOf170,
  v28 := Tryz.zeroValue170,
  i26 := by kernel_rfl }

def Tryz.sortA_ren : Go.Shelf.Ren := ⟨fun | 5 => 135 | 8 => 147 | 7 => 146 | 19 => 171 | 20 => 172 | 10 => 162 | 11 => 163 | 12 => 164 | 13 => 165 | 14 => 166 | 15 => 167 | 16 => 168 | 17 => 169 | 18 => 170 | 30 => 175 | 31 => 176 | 32 => 177 | 33 => 178 | 34 => 179 | 35 => 180 | 40 => 181 | n => n, fun | 23 => 33 | 25 => 3 | 3 => 3 | 32 => 207 | 22 => 33 | 0 => 0 | 44 => 225 | 46 => 227 | 4 => 4 | 36 => 219 | 35 => 218 | 41 => 142 | 5 => 5 | 9 => 9 | 53 => 228 | 57 => 232 | 63 => 234 | 64 => 235 | n => n, fun | n => n⟩

theorem Tryz.sortA : Go.Proofs.SlLaysM.n5 Tryz.prog Tryz.sortA_ren := {
  mixed := by kernel_rfl,
  f5 := ⟨ "slices.Sort[[]int,int]", by decide, Tryz.func135.trans (congrArg some (by kernel_rfl))⟩,
  f7 := ⟨ "slices.pdqsortOrdered[int]", by decide, Tryz.func146.trans (congrArg some (by kernel_rfl))⟩,
  f8 := Tryz.func147.trans (congrArg some (by kernel_rfl)),
  f10 := ⟨ "slices.insertionSortOrdered[int]", by decide, Tryz.func162.trans (congrArg some (by kernel_rfl))⟩,
  f11 := ⟨ "slices.heapSortOrdered[int]", by decide, Tryz.func163.trans (congrArg some (by kernel_rfl))⟩,
  f12 := ⟨ "slices.breakPatternsOrdered[int]", by decide, Tryz.func164.trans (congrArg some (by kernel_rfl))⟩,
  f13 := ⟨ "slices.choosePivotOrdered[int]", by decide, Tryz.func165.trans (congrArg some (by kernel_rfl))⟩,
  f14 := ⟨ "slices.reverseRangeOrdered[int]", by decide, Tryz.func166.trans (congrArg some (by kernel_rfl))⟩,
  f15 := ⟨ "slices.partialInsertionSortOrdered[int]", by decide, Tryz.func167.trans (congrArg some (by kernel_rfl))⟩,
  f16 := ⟨ "cmp.Less[int]", by decide, Tryz.func168.trans (congrArg some (by kernel_rfl))⟩,
  f17 := ⟨ "slices.partitionEqualOrdered[int]", by decide, Tryz.func169.trans (congrArg some (by kernel_rfl))⟩,
  f18 := ⟨ "slices.partitionOrdered[int]", by decide, Tryz.func170.trans (congrArg some (by kernel_rfl))⟩,
  f19 := Tryz.func171.trans (congrArg some (by kernel_rfl)),
  f20 := Tryz.func172.trans (congrArg some (by kernel_rfl)),
  f30 := ⟨ "slices.siftDownOrdered[int]", by decide, Tryz.func175.trans (congrArg some (by kernel_rfl))⟩,
  f31 := Tryz.func176.trans (congrArg some (by kernel_rfl)),
  f32 := Tryz.func177.trans (congrArg some (by kernel_rfl)),
  f33 := ⟨ "slices.medianAdjacentOrdered[int]", by decide, Tryz.func178.trans (congrArg some (by kernel_rfl))⟩,
  f34 := ⟨ "slices.medianOrdered[int]", by decide, Tryz.func179.trans (congrArg some (by kernel_rfl))⟩,
  f35 := ⟨ "cmp.isNaN[int]", by decide, Tryz.func180.trans (congrArg some (by kernel_rfl))⟩,
  f40 := ⟨ "slices.order2Ordered[int]", by decide, Tryz.func181.trans (congrArg some (by kernel_rfl))⟩,
  t0 := Tryz.underlying0,
  a0 := Tryz.isAgg0,
  z0 := Tryz.sizeOf0,
  v0 := Tryz.zeroValue0,
  t3 := Tryz.underlying3,
  a3 := Tryz.isAgg3,
  z3 := Tryz.sizeOf3,
  v3 := Tryz.zeroValue3,
  t4 := Tryz.underlying4,
  a4 := Tryz.isAgg4,
  z4 := Tryz.sizeOf4,
  v4 := Tryz.zeroValue4,
  t5 := Tryz.underlying5,
  a5 := Tryz.isAgg5,
  z5 := Tryz.sizeOf5,
  v5 := Tryz.zeroValue5,
  t9 := Tryz.underlying9,
  a9 := Tryz.isAgg9,
  z9 := Tryz.sizeOf9,
  v9 := Tryz.zeroValue9,
  t22 := Tryz.underlying33,
  a22 := Tryz.isAgg33,
  z22 := Tryz.sizeOf33,
  v22 := Tryz.zeroValue33,
  t23 := Tryz.underlying33,
  a23 := Tryz.isAgg33,
  z23 := Tryz.sizeOf33,
  v23 := Tryz.zeroValue33,
  t25 := Tryz.underlying3,
  a25 := Tryz.isAgg3,
  z25 := Tryz.sizeOf3,
  v25 := Tryz.zeroValue3,
  t32 := Tryz.underlying207,
  a32 := Tryz.isAgg207,
  z32 := Tryz.sizeOf207,
  v32 := Tryz.zeroValue207,
  t35 := Tryz.underlying218,
  a35 := Tryz.isAgg218,
  z35 := Tryz.sizeOf218,
  v35 := Tryz.zeroValue218,
  t36 := Tryz.underlying219,
  a36 := Tryz.isAgg219,
  z36 := Tryz.sizeOf219,
  v36 := Tryz.zeroValue219,
  t41 := Tryz.underlying142,
  a41 := Tryz.isAgg142,
  z41 := Tryz.sizeOf142,
  v41 := Tryz.zeroValue142,
  t44 := Tryz.underlying225,
  a44 := Tryz.isAgg225,
  z44 := Tryz.sizeOf225,
  v44 := Tryz.zeroValue225,
  t46 := Tryz.underlying227,
  a46 := Tryz.isAgg227,
  z46 := Tryz.sizeOf227,
  v46 := Tryz.zeroValue227,
  t53 := Tryz.underlying228,
  a53 := Tryz.isAgg228,
  z53 := Tryz.sizeOf228,
  v53 := Tryz.zeroValue228,
  t57 := Tryz.underlying232,
  a57 := Tryz.isAgg232,
  z57 := Tryz.sizeOf232,
  v57 := Tryz.zeroValue232,
  t63 := Tryz.underlying234,
  a63 := Tryz.isAgg234,
  z63 := Tryz.sizeOf234,
  v63 := Tryz.zeroValue234,
  t64 := Tryz.underlying235,
  a64 := Tryz.isAgg235,
  z64 := Tryz.sizeOf235,
  v64 := Tryz.zeroValue235 }

theorem Tryz.sortsA (m : Nat) : AnyZI.SortsIn Tryz.prog Tryz.sortedA_ren Fence.wide m :=
  ⟨fun blk off cap ss W hH hblk hsz => callsIn_wide.2 (AnyM.slices_Sort_int Tryz.sortA blk off cap ss W hH hblk hsz),
   fun p cap W => callsIn_wide.2 (AnyM.slices_Sort_int_none Tryz.sortA p cap W)⟩

theorem Tryz.sortedKeys {H : Type} (Bm b nn : Nat) (D0 : DataW H) (R : Value → Option (DataW H × List MemPlace)) (w : World) (hBm : Bm < w.heap.size) (hm : w.cell? ⟨Bm, 0, none⟩ = some (.map (some b)))
    (hown : w.ownsMap Tryz.prog 3 R b nn D0) (hmax : Maps.size D0 ≤ maxLen) (hbytes : Maps.size D0 * 8 ≤ 140737488355328) :
    Calls Tryz.prog 109 #[.func (.func 136) #[] #[.pointer (some ⟨Bm, 0, none⟩)]] w fun e w' => ∃ (v : Value) (ss : List Int), e = .returned v ∧ ss.Perm (intKeys D0) ∧
      w'.ownsRow w.heap.size 3 1 v ss.length ((ss.mergeSort (fun x y => decide (x ≤ y))).map encZ) ∧ (v = .slice none 0 0 ↔ ss = []) ∧ Below w.heap.size w w' := by
  refine (callsIn_wide (n := 5)).1 ?_
  have hseq : SeqGives Fence.wide 2 Tryz.prog 136 #[.pointer (some ⟨Bm, 0, none⟩)] encZ (fun ss => ss.Perm (intKeys D0)) (Maps.size D0) w :=
    AnyZI.keys_gives (ρ := Tryz.keysA_ren) { Tryz.keysA with } Fence.wide _ trivial rfl (by omega) Bm b nn D0 _ hBm hm hown
  exact AnyZI.sorted_in Tryz.sortedA Fence.wide 5 trivial trivial trivial trivial rfl (by omega) (Tryz.sortsA _) (enters_of Tryz.func135 (by kernel_rfl) rfl) 136 #[.pointer (some ⟨Bm, 0, none⟩)] trivial (enters_of Tryz.func136 (by kernel_rfl) rfl) _ _ hmax hbytes _ hseq

end Go.Proofs

namespace Go.Abs
open Go.Proofs Go.RowKit

def prim0 : Orc := fun g ds σ =>
  if g = 109 then
    match ds with
    | [.fn (.func 136) [] [.ptr b 0 1]] =>
      match rowOf σ b 1 with
      | some [.mp m] =>
        match σ[m]? with
        | some (.map [] _) => some (.c (.lit (.slice none 0 0)), σ, [])
        | _ => none
      | _ => none
    | _ => none
  else none

theorem prim0_ok : OrcOk Tryz.prog prim0 := by
  intro g ds σ r σ' wr h
  unfold prim0 at h
  split at h
  · rename_i hg
    subst hg
    split at h
    · rename_i b
      split at h
      · rename_i m hrow
        split at h
        · rename_i clock hm
          simp only [Option.some.injEq, Prod.mk.injEq] at h
          obtain ⟨rfl, rfl, rfl⟩ := h
          refine ⟨by kernel_rfl, fun M Fz w vs R hs hvs => ?_, Nat.le_refl _, fun _ _ _ => rfl⟩
          have hvs0 : vs = #[vs[0]'(by rw [hs]; simp)] := by
            apply Array.ext'
            apply List.ext_getElem?
            intro i
            cases i with
            | zero => simp
            | succ i => rw [Array.getElem?_toList, Array.getElem?_eq_none (by rw [hs]; simp)]; simp
          have hv := hvs 0 _ _ rfl (Array.getElem?_eq_getElem (by rw [hs]; simp))
          generalize vs[0]'(by rw [hs]; simp) = v0 at hv hvs0
          subst hvs0
          cases hv with
          | fn v1 ws h1 h2 _ hw =>
            have e1 : v1 = #[] := by simpa using h1
            subst e1
            have e2 : ws = #[ws[0]'(by rw [h2]; simp)] := by
              apply Array.ext'
              apply List.ext_getElem?
              intro i
              cases i with
              | zero => simp
              | succ i => rw [Array.getElem?_toList, Array.getElem?_eq_none (by rw [h2]; simp)]; simp
            have hp := hw 0 _ _ rfl (Array.getElem?_eq_getElem (by rw [h2]; simp))
            generalize ws[0]'(by rw [h2]; simp) = p at hp e2
            subst e2
            obtain ⟨c, hM, rfl⟩ := hp.ptr_inv hrow
            obtain ⟨hbb, _⟩ := rowOf_inv hrow
            obtain ⟨arr, T, hh, hl, hcs⟩ := R.row hM hbb
            have ea : arr[0]? = some (arr[0]'(by simp at hl; omega)) := Array.getElem?_eq_getElem _
            have hmp := (hcs 0 _ _ rfl ea).1
            obtain ⟨cm, hva, hMm⟩ := hmp.mp_inv hm
            obtain ⟨arr', hh', hsz, _⟩ := R.mapAt hm hMm
            have earr : arr' = #[] := by simpa using hsz
            subst earr
            have hcell : w.cell? ⟨c, 0, none⟩ = some (.map (some cm)) := by rw [cell_of_row w c 0 arr T (0, 0) hh, ea, hva]
            have hown : w.ownsMap (H := Unit) Tryz.prog 3 (fun _ => none) cm 0 (.map []) := ⟨#[], clock, hh', ⟨by simp, by constructor <;> simp, by simp⟩, by simp, rfl⟩
            refine (Tryz.sortedKeys c cm 0 _ _ w (R.lt hM).2 hcell hown (by simp [Maps.size]) (by simp [Maps.size])).mono fun e w' he => ?_
            obtain ⟨v, ss, rfl, hp, _, hnil, hb⟩ := he
            have hss : ss = [] := by
              have := hp.length_eq
              simp [intKeys] at this
              exact this
            have hv' := hnil.2 hss
            subst hv'
            exact ⟨_, M, Fz, rfl, R.below hb, .c (.lit _), Evo.below R hb⟩
        · simp at h
      · simp at h
    · simp at h
  · simp at h

end Go.Abs
