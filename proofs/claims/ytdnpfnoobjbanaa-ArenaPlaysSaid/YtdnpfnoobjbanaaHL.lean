/- slices.Insert and slices.BinarySearch at a row of ints: one contract each. The layings began as the kit's lay-plain text. -/
import Derived.Shelf.Slices.SearchI
import Derived.Shelf.Slices.Empties
import Derived.Ground.Names2Prog
import Derived.Test.YtdnpfnoobjbanaaHK
set_option linter.unusedVariables false
set_option linter.unusedSimpArgs false
namespace Go.Proofs
open Go.Shelf
def Try.laysNm225_ren : Go.Shelf.Ren := ⟨fun | 25 => 35 | 31 => 41 | 32 => 42 | 37 => 47 | n => n, fun | 22 => 51 | 3 => 3 | 4 => 4 | 40 => 84 | 0 => 0 | n => n, fun | n => n⟩
theorem Try.laysNm225 : Go.Proofs.Lays2.n25 Try.prog Try.laysNm225_ren := {
  mixed := by kernel_rfl
  f25 := Try.func35.trans (congrArg some (by kernel_rfl))
  f31 := Try.func41.trans (congrArg some (by kernel_rfl))
  f32 := Try.func42.trans (congrArg some (by kernel_rfl))
  f37 := Try.func47.trans (congrArg some (by kernel_rfl))
  t0 := Try.underlying0
  a0 := Try.isAgg0
  z0 := Try.sizeOf0
  v0 := Try.zeroValue0
  t3 := Try.underlying3
  a3 := Try.isAgg3
  z3 := Try.sizeOf3
  v3 := Try.zeroValue3
  t4 := Try.underlying4
  a4 := Try.isAgg4
  z4 := Try.sizeOf4
  v4 := Try.zeroValue4
  t22 := Try.underlying51
  a22 := Try.isAgg51
  z22 := Try.sizeOf51
  v22 := Try.zeroValue51
  t40 := Try.underlying84
  a40 := Try.isAgg84
  z40 := Try.sizeOf84
  v40 := Try.zeroValue84 }
open Go.RowKit Go.Lib in
theorem Try.slices_BinarySearch_int (b off n c : Nat) (zs : List Int) (x : Int) (w : World) (hz : n ≤ zs.length) (hbig : n < 4611686018427387904) (hc : ∀ j, j < zs.length → w.cell? ⟨b, off + j, none⟩ = some (.int .i64 (zs.getD j 0))) (hs : (zs.take n).Pairwise (· ≤ ·)) :
    Calls Try.prog 35 #[.slice (some ⟨b, off, none⟩) n c, .int .i64 x] w fun e w' => e = .returned (.tuple #[.int .i64 ((zs.take n).countP (· < x) : Nat), .bool ((zs.take n).contains x)]) ∧ ∃ q, w' = w.drewN q := Any.slices_BinarySearch_int Try.laysNm225 b off n c zs x w hz hbig hc hs
open Go.RowKit Go.Lib in
theorem Try.slices_BinarySearch_int_empty (a : Option Addr) (c : Nat) (x : Int) (w : World) :
    Calls Try.prog 35 #[.slice a 0 c, .int .i64 x] w fun e w' => e = .returned (.tuple #[.int .i64 0, .bool false]) ∧ w' = w := Any.slices_BinarySearch_int_empty Try.laysNm225 a c x w
end Go.Proofs
namespace Go.Proofs.Ytdnpfnoobjbanaa.Hand
open Go.RowKit Go.Proofs.Ytdnpfnoobjbanaa.PArenaPlays Go.Proofs.YtdnpfnoobjbanaaW.PrintWords Go.Proofs.YtdnpfnoobjbanaaW.PrintLast Go.Proofs.YtdnpfnoobjbanaaW.PrintMore
section
variable {W : World} {g : Nat} {fs : List Int} {x : Int} {vb : Nat} {v : Value}
/-- slices.Insert at a row of ints. -/
theorem ins_c (h : (Kd.int .i64).Q 3 W g (fun _ => True) v fs) (i : Nat) (hi : i ≤ fs.length) (hl : fs.length ≤ 4096) (hgw : g ≤ W.heap.size) (hvb : W.heap[vb]? = some (.cells #[.int .i64 x] 3 (0, 0))) (hne : some vb ≠ v.ownBlock) :
    Calls Try.prog 36 #[v, .int .i64 (i : Int), .slice (some ⟨vb, 0, none⟩) 1 1] W fun e w' => ∃ v', e = .returned v' ∧ (Kd.int .i64).Q 3 w' g (fun _ => True) v' (insAt fs i x) ∧ W.grownBy w' v.ownBlock := by
  rcases Q_un h with ⟨rfl, A, rfl, hA⟩ | ⟨b, off, cap, cur, rfl, hg, hb, hc, hm, hs, hx⟩
  · obtain rfl : i = 0 := by simpa using hi
    exact ins_end_grow (fs := []) A 0 (by simp) hgw (by simp) (by simp) (fun _ => rfl) (fun a _ j v hj => by simp at hj) hvb _
  · exact ins_row hb hg hi hc hm hs hx hl hvb (fun e => hne (by rw [e]; rfl))
/-- slices.BinarySearch at a row of ints that are sorted. -/
theorem bs_c (h : (Kd.int .i64).Q 3 W g (fun _ => True) v fs) (hso : fs.Pairwise (· ≤ ·)) (hl : fs.length ≤ 4096) (x : Int) :
    Calls Try.prog 35 #[v, .int .i64 x] W fun e w' => e = .returned (.tuple #[.int .i64 (fs.countP (· < x) : Nat), .bool (fs.contains x)]) ∧ ∃ q, w' = W.drewN q := by
  rcases Q_un h with ⟨rfl, A, rfl, hA⟩ | ⟨b, off, cap, cur, rfl, hg, hb, hc, hm, hs, hx⟩
  · exact (Try.slices_BinarySearch_int_empty A 0 x W).mono (by rintro e w' ⟨rfl, rfl⟩; exact ⟨rfl, 0, rfl⟩)
  · have k := Try.slices_BinarySearch_int b off fs.length cap fs x W (Nat.le_refl _) (by omega) (fun j hj => by
      rw [blk_cell hb, hx j hj, List.getElem?_eq_getElem hj, List.getD_eq_getElem?_getD, List.getElem?_eq_getElem hj]
      rfl) (by rw [List.take_length]; exact hso)
    rw [List.take_length] at k
    exact k
end
end Go.Proofs.Ytdnpfnoobjbanaa.Hand
