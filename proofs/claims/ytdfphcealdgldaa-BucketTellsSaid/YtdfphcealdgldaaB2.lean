/- A bucket that lies in a block of the call's own. -/
import Derived.Test.YtdfphcealdgldaaB1
import Derived.OpenShut
set_option linter.unusedVariables false
namespace Go.Proofs.Ytdfphcealdgldaa.Hand
open Go.RowKit Go.Proofs.Ytdfphcealdgldaa.PBucketBounds Go.Proofs.YtdfphcealdgldaaW.PrintWords Go.Proofs.YtdfphcealdgldaaW.PrintLast Go.Proofs.YtdfphcealdgldaaW.PrintMore

/-- The bucket of these parts lies in block g. -/
def Bk (W : World) (g : Nat) (s l e a : Int) : Prop := W.heap[g]? = some (.cells #[.int .i64 s, .int .i64 l, .int .i64 e, .int .i64 a] 23 (0, 0))
section
variable {W W1 : World} {g : Nat} {s l e a : Int}
theorem Bk.c0 (h : Bk W g s l e a) : W.cell? ⟨g, 0, none⟩ = some (.int .i64 s) := blk_cell h 0
theorem Bk.c1 (h : Bk W g s l e a) : W.cell? ⟨g, 1, none⟩ = some (.int .i64 l) := blk_cell h 1
theorem Bk.c2 (h : Bk W g s l e a) : W.cell? ⟨g, 2, none⟩ = some (.int .i64 e) := blk_cell h 2
theorem Bk.c3 (h : Bk W g s l e a) : W.cell? ⟨g, 3, none⟩ = some (.int .i64 a) := blk_cell h 3
theorem Bk.fr (h : Bk W g s l e a) (i : Nat) : W.frozen? ⟨g, i, none⟩ = false := blk_frozen h i
theorem Bk.lt (h : Bk W g s l e a) : g < W.heap.size := blk_lt h
theorem Bk.below (h : Bk W g s l e a) (hb : Below W.heap.size W W1) : Bk W1 g s l e a := blk_below h hb
theorem Bk.alloc (h : Bk W g s l e a) (o : Obj) : Bk (W.alloc o) g s l e a := blk_alloc h o
theorem Bk.new (W : World) (s l e a : Int) : Bk (W.alloc (.cells #[.int .i64 s, .int .i64 l, .int .i64 e, .int .i64 a] 23)) W.heap.size s l e a := blk_new W _
theorem Bk.put4 (h : Bk W g s l e a) (s' l' e' a' : Int) : Bk ((((W.setCell ⟨g, 0, none⟩ (.int .i64 s')).setCell ⟨g, 1, none⟩ (.int .i64 l')).setCell ⟨g, 2, none⟩ (.int .i64 e')).setCell ⟨g, 3, none⟩ (.int .i64 a')) g s' l' e' a' := by
  have h1 := blk_set h 0 (.int .i64 s')
  have h2 := blk_set h1 1 (.int .i64 l')
  have h3 := blk_set h2 2 (.int .i64 e')
  have h4 := blk_set h3 3 (.int .i64 a')
  exact h4
end
theorem below_set {w W : World} (h : Below w.heap.size w W) {p : Addr} (hp : w.heap.size ≤ p.block) (u : Value) : Below w.heap.size w (W.setCell p u) := h.setCell hp u
end Go.Proofs.Ytdfphcealdgldaa.Hand
