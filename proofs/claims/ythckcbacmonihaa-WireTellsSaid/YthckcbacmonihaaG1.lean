/- Chapter 5: WireTells. -/
import Derived.Test.YthckcbacmonihaaG0
set_option linter.unusedVariables false
set_option linter.unusedSimpArgs false
namespace Go.Proofs.Ythckcbacmonihaa.Hand
open Go.RowKit Go.Proofs.Ythckcbacmonihaa.PWireTells Go.Proofs.YthckcbacmonihaaW.PrintWords Go.Proofs.YthckcbacmonihaaW.PrintLast Go.Proofs.YthckcbacmonihaaW.PrintMore

theorem WireTells_walk (e : Int × Int × List Int) (le : Array Value) (f : Int × Int × List Int) (lf : Array Value) (near : Bool) (how : Int) (s : ByteArray) (at_ by_ : Int) (y : List S75) (A : Option Addr) (c : Nat) (w : World) (hk : ∀ W', Has w W' → (Kd.pair (Kd.int .i64) (Kd.pair (Kd.int .i64) (Kd.slice 2 (Kd.int .i64)))).K W' e le.toList) (hg : (fun x : Int × Int × List Int => (Lit.int .i64 x.1).wf = true ∧ (Lit.int .i64 x.2.1).wf = true ∧ ShortRow (Try.prog.bytesOf 2) (fun n => (Lit.int .i64 n).wf = true) x.2.2) e) (hk' : ∀ W', Has w W' → (Kd.pair (Kd.int .i64) (Kd.pair (Kd.int .i64) (Kd.slice 2 (Kd.int .i64)))).K W' f lf.toList) (hg' : (fun x : Int × Int × List Int => (Lit.int .i64 x.1).wf = true ∧ (Lit.int .i64 x.2.1).wf = true ∧ ShortRow (Try.prog.bytesOf 2) (fun n => (Lit.int .i64 n).wf = true) x.2.2) f)
    (w3 : (Lit.int .u8 how).wf = true) (w4 : s.size ≤ 140737488351232) (w5 : (Lit.int .u16 at_).wf = true) (w6 : (Lit.int .u8 by_).wf = true) (hl : y.length ≤ c) (h7 : ∀ W', Has w W' → Kd.C k75 W' A y.length y) {G7 : S75 → Prop} (hg7 : ShortRow (Try.prog.bytesOf 75) G7 y) :
    Calls Try.prog 3 #[.agg le, .agg lf, .bool near, .int .u8 how, .string s, .int .u16 at_, .int .u8 by_, .slice A y.length c] w fun e w' => e = .returned (.bool true) ∧ Below w.heap.size w w' := by
  obtain ⟨k, t, l⟩ := e
  obtain ⟨k', t', l'⟩ := f
  obtain ⟨A1, c1, rfl, hc, hC⟩ := ev_open hk
  obtain ⟨A2, c2, rfl, hc', hC'⟩ := ev_open hk'
  obtain ⟨a0, a1⟩ := Go.bounds_u8 w3
  obtain ⟨b0, b1⟩ := Go.bounds_u16 w5
  obtain ⟨d0, d1⟩ := Go.bounds_u8 w6
  have e1 : Try.prog.bytesOf 75 = 40 := by kernel_rfl
  have hlm := hg7.1
  rw [e1] at hlm
  exact tells_core k t l A1 c1 k' t' l' A2 c2 near how s at_ by_ y A c w a0 a1 w4 b0 b1 d0 d1 hc hC hc' hC' hl h7 (by omega)
end Go.Proofs.Ythckcbacmonihaa.Hand
