/- Chapter 8: ValueBad's plain laws. -/
import Derived.Test.YtimmomhgljofnaaDoorY6
set_option linter.unusedVariables false
set_option linter.unusedSimpArgs false
namespace Go.Proofs.YtimmomhgljofnaaDoor.Hand
open Go.Proofs.YtimmomhgljofnaaDoor.PValueBad
open Go.RowKit Go.Proofs.YtimmomhgljofnaaDoorW.PrintWords Go.Proofs.YtimmomhgljofnaaDoorW.PrintLast Go.Proofs.YtimmomhgljofnaaDoorW.PrintMore
def notE (x : S24) : S24 := opE 2 ⟨#[33]⟩ [x]
def andE (x y : S24) : S24 := opE 3 ⟨#[38, 38]⟩ [x, y]
def orE (x y : S24) : S24 := opE 3 ⟨#[124, 124]⟩ [x, y]
theorem good_not {x : S24} (hx : GoodE 2 x) : GoodE 2 (notE x) := good_one 2 2 _ (by decide +kernel) (by decide +kernel) (by decide +kernel) hx
theorem good_and {x y : S24} (hx : GoodE 2 x) (hy : GoodE 2 y) : GoodE 2 (andE x y) := good_two 2 2 _ (by decide +kernel) (by decide +kernel) (by decide +kernel) hx hy
theorem good_or {x y : S24} (hx : GoodE 2 x) (hy : GoodE 2 y) : GoodE 2 (orE x y) := good_two 2 2 _ (by decide +kernel) (by decide +kernel) (by decide +kernel) hx hy
theorem GoodE.tri {x : S24} (hx : GoodE 2 x) {B : List S55} (hB : InB B) : reckonE B x = .bad ∨ reckonE B x = .tr true ∨ reckonE B x = .tr false := by
  rcases reck_typ nameB hB _ x (Nat.le_refl _) hx.r hx.i (by rw [hx.t]; decide) with ⟨h, _⟩ | ⟨_, h⟩
  · rw [hx.t] at h; cases h
  · rcases h with h | ⟨b, h⟩
    · exact .inl h
    · cases b
      · exact .inr (.inr h)
      · exact .inr (.inl h)
theorem GoodE.eval {x : S24} (hx : GoodE 2 x) (B : List S55) : evalF nameB B x = evalV (reckonE B x) := by
  unfold evalF
  rw [hx.type, if_neg (by decide)]
theorem GoodE.holds {x : S24} (hx : GoodE 2 x) (B : List S55) : holdsF nameB B x = ((evalV (reckonE B x)).2 && ((evalV (reckonE B x)).1 == 1)) := by
  unfold holdsF
  rw [hx.eval B, hx.type]
  simp
theorem rk_not (B : List S55) (x : S24) : reckonE B (notE x) = comb 2 ⟨#[33]⟩ [reckonE B x] := by
  unfold notE opE
  rw [reckonE, if_neg (by decide), if_neg (by decide), reckonL, reckonL]
theorem rk_two (B : List S55) (op : ByteArray) (x y : S24) : reckonE B (opE 3 op [x, y]) = comb 3 op [reckonE B x, reckonE B y] := by
  unfold opE
  rw [reckonE, if_neg (by decide), if_neg (by decide), reckonL, reckonL, reckonL]
theorem ho_not {W : World} {A BA_ : Option Addr} {B : List S55} {bl bc : Nat} {x : S24} (hT : Tabs W) (hB : InB B) (gx : GoodE 2 x) (h : Kd.C k24 W A 1 [x]) (hCB : Kd.C k55 W BA_ bl B) (b : Bool) (hb : holdsF nameB B (notE x) = b) :
    Calls Tryd.prog 29 #[.agg #[.int .i64 2, .string ⟨#[33]⟩, .int .i64 0, .string ⟨#[]⟩, .string ⟨#[]⟩, .slice A 1 1], .slice BA_ bl bc] W fun e w' => e = .returned (.bool b) ∧ Below W.heap.size W w' :=
  holds_c nameB hB (notE x) ((good_not gx).names hT) (good_not gx).i h (Nat.le_refl 1) hCB b hb
theorem ho_and {W : World} {A BA_ : Option Addr} {B : List S55} {bl bc : Nat} {x y : S24} (hT : Tabs W) (hB : InB B) (gx : GoodE 2 x) (gy : GoodE 2 y) (h : Kd.C k24 W A 2 [x, y]) (hCB : Kd.C k55 W BA_ bl B) (b : Bool) (hb : holdsF nameB B (andE x y) = b) :
    Calls Tryd.prog 29 #[.agg #[.int .i64 3, .string ⟨#[38, 38]⟩, .int .i64 0, .string ⟨#[]⟩, .string ⟨#[]⟩, .slice A 2 2], .slice BA_ bl bc] W fun e w' => e = .returned (.bool b) ∧ Below W.heap.size W w' :=
  holds_c nameB hB (andE x y) ((good_and gx gy).names hT) (good_and gx gy).i h (Nat.le_refl 2) hCB b hb
theorem ho_or2 {W : World} {A BA_ : Option Addr} {B : List S55} {bl bc : Nat} {x y : S24} (hT : Tabs W) (hB : InB B) (gx : GoodE 2 x) (gy : GoodE 2 y) (h : Kd.C k24 W A 2 [x, y]) (hCB : Kd.C k55 W BA_ bl B) (b : Bool) (hb : holdsF nameB B (orE x y) = b) :
    Calls Tryd.prog 29 #[.agg #[.int .i64 3, .string ⟨#[124, 124]⟩, .int .i64 0, .string ⟨#[]⟩, .string ⟨#[]⟩, .slice A 2 2], .slice BA_ bl bc] W fun e w' => e = .returned (.bool b) ∧ Below W.heap.size W w' :=
  holds_c nameB hB (orE x y) ((good_or gx gy).names hT) (good_or gx gy).i h (Nat.le_refl 2) hCB b hb
theorem bad_bb {x y : S24} (gx : GoodE 2 x) (gy : GoodE 2 y) {B : List S55} (hx : reckonE B x = .bad) (hy : reckonE B y = .bad) : evalF nameB B x = (0, false) ∧ evalF nameB B y = (0, false) ∧ holdsF nameB B x = false ∧ holdsF nameB B (notE x) = false ∧ holdsF nameB B (andE x y) = false ∧ holdsF nameB B (orE x y) = false := by
  refine ⟨?_, ?_, ?_, ?_, ?_, ?_⟩
  · rw [gx.eval, hx]; rfl
  · rw [gy.eval, hy]; rfl
  · rw [gx.holds, hx]; rfl
  · rw [(good_not gx).holds, rk_not, hx]; decide +kernel
  · rw [(good_and gx gy).holds, show andE x y = opE 3 ⟨#[38, 38]⟩ [x, y] from rfl, rk_two, hx, hy]; decide +kernel
  · rw [(good_or gx gy).holds, show orE x y = opE 3 ⟨#[124, 124]⟩ [x, y] from rfl, rk_two, hx, hy]; decide +kernel
theorem bad_bt {x y : S24} (gx : GoodE 2 x) (gy : GoodE 2 y) {B : List S55} (hx : reckonE B x = .bad) (hy : reckonE B y = .tr true) : evalF nameB B x = (0, false) ∧ evalF nameB B y = (1, true) ∧ holdsF nameB B x = false ∧ holdsF nameB B (notE x) = false ∧ holdsF nameB B (andE x y) = false ∧ holdsF nameB B (orE x y) = false := by
  refine ⟨?_, ?_, ?_, ?_, ?_, ?_⟩
  · rw [gx.eval, hx]; rfl
  · rw [gy.eval, hy]; rfl
  · rw [gx.holds, hx]; rfl
  · rw [(good_not gx).holds, rk_not, hx]; decide +kernel
  · rw [(good_and gx gy).holds, show andE x y = opE 3 ⟨#[38, 38]⟩ [x, y] from rfl, rk_two, hx, hy]; decide +kernel
  · rw [(good_or gx gy).holds, show orE x y = opE 3 ⟨#[124, 124]⟩ [x, y] from rfl, rk_two, hx, hy]; decide +kernel
theorem bad_bf {x y : S24} (gx : GoodE 2 x) (gy : GoodE 2 y) {B : List S55} (hx : reckonE B x = .bad) (hy : reckonE B y = .tr false) : evalF nameB B x = (0, false) ∧ evalF nameB B y = (0, true) ∧ holdsF nameB B x = false ∧ holdsF nameB B (notE x) = false ∧ holdsF nameB B (andE x y) = false ∧ holdsF nameB B (orE x y) = false := by
  refine ⟨?_, ?_, ?_, ?_, ?_, ?_⟩
  · rw [gx.eval, hx]; rfl
  · rw [gy.eval, hy]; rfl
  · rw [gx.holds, hx]; rfl
  · rw [(good_not gx).holds, rk_not, hx]; decide +kernel
  · rw [(good_and gx gy).holds, show andE x y = opE 3 ⟨#[38, 38]⟩ [x, y] from rfl, rk_two, hx, hy]; decide +kernel
  · rw [(good_or gx gy).holds, show orE x y = opE 3 ⟨#[124, 124]⟩ [x, y] from rfl, rk_two, hx, hy]; decide +kernel
theorem bad_tb {x y : S24} (gx : GoodE 2 x) (gy : GoodE 2 y) {B : List S55} (hx : reckonE B x = .tr true) (hy : reckonE B y = .bad) : evalF nameB B x = (1, true) ∧ evalF nameB B y = (0, false) ∧ holdsF nameB B x = true ∧ holdsF nameB B (notE x) = false ∧ holdsF nameB B (andE x y) = false ∧ holdsF nameB B (orE x y) = true := by
  refine ⟨?_, ?_, ?_, ?_, ?_, ?_⟩
  · rw [gx.eval, hx]; rfl
  · rw [gy.eval, hy]; rfl
  · rw [gx.holds, hx]; rfl
  · rw [(good_not gx).holds, rk_not, hx]; decide +kernel
  · rw [(good_and gx gy).holds, show andE x y = opE 3 ⟨#[38, 38]⟩ [x, y] from rfl, rk_two, hx, hy]; decide +kernel
  · rw [(good_or gx gy).holds, show orE x y = opE 3 ⟨#[124, 124]⟩ [x, y] from rfl, rk_two, hx, hy]; decide +kernel
theorem bad_tt {x y : S24} (gx : GoodE 2 x) (gy : GoodE 2 y) {B : List S55} (hx : reckonE B x = .tr true) (hy : reckonE B y = .tr true) : evalF nameB B x = (1, true) ∧ evalF nameB B y = (1, true) ∧ holdsF nameB B x = true ∧ holdsF nameB B (notE x) = false ∧ holdsF nameB B (andE x y) = true ∧ holdsF nameB B (orE x y) = true := by
  refine ⟨?_, ?_, ?_, ?_, ?_, ?_⟩
  · rw [gx.eval, hx]; rfl
  · rw [gy.eval, hy]; rfl
  · rw [gx.holds, hx]; rfl
  · rw [(good_not gx).holds, rk_not, hx]; decide +kernel
  · rw [(good_and gx gy).holds, show andE x y = opE 3 ⟨#[38, 38]⟩ [x, y] from rfl, rk_two, hx, hy]; decide +kernel
  · rw [(good_or gx gy).holds, show orE x y = opE 3 ⟨#[124, 124]⟩ [x, y] from rfl, rk_two, hx, hy]; decide +kernel
theorem bad_tf {x y : S24} (gx : GoodE 2 x) (gy : GoodE 2 y) {B : List S55} (hx : reckonE B x = .tr true) (hy : reckonE B y = .tr false) : evalF nameB B x = (1, true) ∧ evalF nameB B y = (0, true) ∧ holdsF nameB B x = true ∧ holdsF nameB B (notE x) = false ∧ holdsF nameB B (andE x y) = false ∧ holdsF nameB B (orE x y) = true := by
  refine ⟨?_, ?_, ?_, ?_, ?_, ?_⟩
  · rw [gx.eval, hx]; rfl
  · rw [gy.eval, hy]; rfl
  · rw [gx.holds, hx]; rfl
  · rw [(good_not gx).holds, rk_not, hx]; decide +kernel
  · rw [(good_and gx gy).holds, show andE x y = opE 3 ⟨#[38, 38]⟩ [x, y] from rfl, rk_two, hx, hy]; decide +kernel
  · rw [(good_or gx gy).holds, show orE x y = opE 3 ⟨#[124, 124]⟩ [x, y] from rfl, rk_two, hx, hy]; decide +kernel
theorem bad_fb {x y : S24} (gx : GoodE 2 x) (gy : GoodE 2 y) {B : List S55} (hx : reckonE B x = .tr false) (hy : reckonE B y = .bad) : evalF nameB B x = (0, true) ∧ evalF nameB B y = (0, false) ∧ holdsF nameB B x = false ∧ holdsF nameB B (notE x) = true ∧ holdsF nameB B (andE x y) = false ∧ holdsF nameB B (orE x y) = false := by
  refine ⟨?_, ?_, ?_, ?_, ?_, ?_⟩
  · rw [gx.eval, hx]; rfl
  · rw [gy.eval, hy]; rfl
  · rw [gx.holds, hx]; rfl
  · rw [(good_not gx).holds, rk_not, hx]; decide +kernel
  · rw [(good_and gx gy).holds, show andE x y = opE 3 ⟨#[38, 38]⟩ [x, y] from rfl, rk_two, hx, hy]; decide +kernel
  · rw [(good_or gx gy).holds, show orE x y = opE 3 ⟨#[124, 124]⟩ [x, y] from rfl, rk_two, hx, hy]; decide +kernel
theorem bad_ft {x y : S24} (gx : GoodE 2 x) (gy : GoodE 2 y) {B : List S55} (hx : reckonE B x = .tr false) (hy : reckonE B y = .tr true) : evalF nameB B x = (0, true) ∧ evalF nameB B y = (1, true) ∧ holdsF nameB B x = false ∧ holdsF nameB B (notE x) = true ∧ holdsF nameB B (andE x y) = false ∧ holdsF nameB B (orE x y) = true := by
  refine ⟨?_, ?_, ?_, ?_, ?_, ?_⟩
  · rw [gx.eval, hx]; rfl
  · rw [gy.eval, hy]; rfl
  · rw [gx.holds, hx]; rfl
  · rw [(good_not gx).holds, rk_not, hx]; decide +kernel
  · rw [(good_and gx gy).holds, show andE x y = opE 3 ⟨#[38, 38]⟩ [x, y] from rfl, rk_two, hx, hy]; decide +kernel
  · rw [(good_or gx gy).holds, show orE x y = opE 3 ⟨#[124, 124]⟩ [x, y] from rfl, rk_two, hx, hy]; decide +kernel
theorem bad_ff {x y : S24} (gx : GoodE 2 x) (gy : GoodE 2 y) {B : List S55} (hx : reckonE B x = .tr false) (hy : reckonE B y = .tr false) : evalF nameB B x = (0, true) ∧ evalF nameB B y = (0, true) ∧ holdsF nameB B x = false ∧ holdsF nameB B (notE x) = true ∧ holdsF nameB B (andE x y) = false ∧ holdsF nameB B (orE x y) = false := by
  refine ⟨?_, ?_, ?_, ?_, ?_, ?_⟩
  · rw [gx.eval, hx]; rfl
  · rw [gy.eval, hy]; rfl
  · rw [gx.holds, hx]; rfl
  · rw [(good_not gx).holds, rk_not, hx]; decide +kernel
  · rw [(good_and gx gy).holds, show andE x y = opE 3 ⟨#[38, 38]⟩ [x, y] from rfl, rk_two, hx, hy]; decide +kernel
  · rw [(good_or gx gy).holds, show orE x y = opE 3 ⟨#[124, 124]⟩ [x, y] from rfl, rk_two, hx, hy]; decide +kernel
theorem bad_all {x y : S24} (gx : GoodE 2 x) (gy : GoodE 2 y) {B : List S55} (hB : InB B) : (evalF nameB B x = (0, false) ∧ evalF nameB B y = (0, false) ∧ holdsF nameB B x = false ∧ holdsF nameB B (notE x) = false ∧ holdsF nameB B (andE x y) = false ∧ holdsF nameB B (orE x y) = false) ∨ (evalF nameB B x = (0, false) ∧ evalF nameB B y = (1, true) ∧ holdsF nameB B x = false ∧ holdsF nameB B (notE x) = false ∧ holdsF nameB B (andE x y) = false ∧ holdsF nameB B (orE x y) = false) ∨ (evalF nameB B x = (0, false) ∧ evalF nameB B y = (0, true) ∧ holdsF nameB B x = false ∧ holdsF nameB B (notE x) = false ∧ holdsF nameB B (andE x y) = false ∧ holdsF nameB B (orE x y) = false) ∨ (evalF nameB B x = (1, true) ∧ evalF nameB B y = (0, false) ∧ holdsF nameB B x = true ∧ holdsF nameB B (notE x) = false ∧ holdsF nameB B (andE x y) = false ∧ holdsF nameB B (orE x y) = true) ∨ (evalF nameB B x = (1, true) ∧ evalF nameB B y = (1, true) ∧ holdsF nameB B x = true ∧ holdsF nameB B (notE x) = false ∧ holdsF nameB B (andE x y) = true ∧ holdsF nameB B (orE x y) = true) ∨ (evalF nameB B x = (1, true) ∧ evalF nameB B y = (0, true) ∧ holdsF nameB B x = true ∧ holdsF nameB B (notE x) = false ∧ holdsF nameB B (andE x y) = false ∧ holdsF nameB B (orE x y) = true) ∨ (evalF nameB B x = (0, true) ∧ evalF nameB B y = (0, false) ∧ holdsF nameB B x = false ∧ holdsF nameB B (notE x) = true ∧ holdsF nameB B (andE x y) = false ∧ holdsF nameB B (orE x y) = false) ∨ (evalF nameB B x = (0, true) ∧ evalF nameB B y = (1, true) ∧ holdsF nameB B x = false ∧ holdsF nameB B (notE x) = true ∧ holdsF nameB B (andE x y) = false ∧ holdsF nameB B (orE x y) = true) ∨ (evalF nameB B x = (0, true) ∧ evalF nameB B y = (0, true) ∧ holdsF nameB B x = false ∧ holdsF nameB B (notE x) = true ∧ holdsF nameB B (andE x y) = false ∧ holdsF nameB B (orE x y) = false) := by
  rcases gx.tri hB with hx | hx | hx <;> rcases gy.tri hB with hy | hy | hy
  · exact .inl (bad_bb gx gy hx hy)
  · exact .inr (.inl (bad_bt gx gy hx hy))
  · exact .inr (.inr (.inl (bad_bf gx gy hx hy)))
  · exact .inr (.inr (.inr (.inl (bad_tb gx gy hx hy))))
  · exact .inr (.inr (.inr (.inr (.inl (bad_tt gx gy hx hy)))))
  · exact .inr (.inr (.inr (.inr (.inr (.inl (bad_tf gx gy hx hy))))))
  · exact .inr (.inr (.inr (.inr (.inr (.inr (.inl (bad_fb gx gy hx hy)))))))
  · exact .inr (.inr (.inr (.inr (.inr (.inr (.inr (.inl (bad_ft gx gy hx hy))))))))
  · exact .inr (.inr (.inr (.inr (.inr (.inr (.inr (.inr ((bad_ff gx gy hx hy)))))))))
end Go.Proofs.YtimmomhgljofnaaDoor.Hand
