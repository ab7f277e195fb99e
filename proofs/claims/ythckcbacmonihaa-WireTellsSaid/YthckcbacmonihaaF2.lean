/- ref, Size, Fits, kinds, refKinds. -/
import Derived.Test.YthckcbacmonihaaF1
import Derived.Test.YthckcbacmonihaaF5
set_option linter.unusedVariables false
namespace Go.Proofs.Ythckcbacmonihaa.Hand
open Go.RowKit Go.Proofs.Ythckcbacmonihaa.PWireTells Go.Proofs.YthckcbacmonihaaW.PrintWords Go.Proofs.YthckcbacmonihaaW.PrintLast Go.Proofs.YthckcbacmonihaaW.PrintMore
set_option maxHeartbeats 1000000 in
set_option maxRecDepth 100000 in
theorem ref_c (k t : Int) (A : Option Addr) (n c : Nat) (w : World) :
    Calls Try.prog 11 #[.agg #[.int .i64 k, .int .i64 t, .slice A n c]] w fun e w' => e = .returned (.agg #[.int .i64 k, .int .i64 t, .slice A n c]) ∧ Below w.heap.size w w' := by
  have HB := Aside0.mk (Below.refl w.heap.size w)
  go_enter Try.func11, Try.ntmps11
  go_wp2
  exact bodyPost_ret (v := .agg #[.int .i64 k, .int .i64 t, .slice A n c]) (by simp [results, Try.results11, go_sem]) rfl ⟨rfl, (by repeat (first | (with_reducible first | exact HB.out | apply below_alloc | apply pw_below_drewN | apply below_drew1) | exact HB.out))⟩
set_option maxHeartbeats 1000000 in
set_option maxRecDepth 100000 in
theorem wsize_c (k t : Int) (A : Option Addr) (c : Nat) (l : List Int) (n : Int) (w : World) (hr : Kd.C (Kd.int .i64) w A l.length l) (h : ((putE k t l).1.size : Int) = n) :
    Calls Try.prog 16 #[.agg #[.int .i64 k, .int .i64 t, .slice A l.length c]] w fun e w' => e = .returned (.int .i64 n) ∧ Below w.heap.size w w' := by
  have HB := Aside0.mk (Below.refl w.heap.size w)
  obtain ⟨s, b, e⟩ : ∃ s b, putE k t l = (s, b) := ⟨_, _, rfl⟩
  rw [e] at h
  have hz := putE_size k t l
  rw [e] at hz
  have hP : ∀ W, Below w.heap.size w W → Calls Try.prog 9 #[.agg #[.int .i64 k, .int .i64 t, .slice A l.length c]] W fun e w' => e = .returned (.tuple #[.string s, .bool b]) ∧ Below W.heap.size W w' := by
    intro W hW
    have := wput_c k t l A c W (Kd.C_below hr hW)
    rw [e] at this
    exact this
  have HP := Aside0.mk hP
  clear hP hr e
  subst h
  dsimp only at hz
  generalize l.length = ln at *
  go_enter Try.func16, Try.ntmps16
  go_wp2_with (first | (go_at_call 9; (with_reducible refine (HP.out _ (by repeat (first | (with_reducible first | exact HB.out | apply below_alloc | apply pw_below_drewN | apply below_drew1) | exact HB.out))).mono ?_); rintro e w1 ⟨rfl, hb⟩; have n0_ := Aside0.mk (below_step (by repeat (first | (with_reducible first | exact HB.out | apply below_alloc | apply pw_below_drewN | apply below_drew1) | exact HB.out)) hb); clear HB; have HB := n0_; clear n0_))
  go_ret
  exact ⟨rfl, (by repeat (first | (with_reducible first | exact HB.out | apply below_alloc | apply pw_below_drewN | apply below_drew1) | exact HB.out))⟩

def fitsE (ls : List Nat) (k : Int) (n : Nat) : Int := if k < 0 then 5 else if (ls.length : Int) ≤ k then 5 else if n = ls.getD k.toNat 0 then 0 else 7
theorem wfits_f (l0 : List S75) (k t : Int) (l : List Int) : wire_Fits.f 2 l0 k t l = some (fitsE (l0.map fun x => x.f1.length) k l.length) := by
  unfold wire_Fits.f fitsE
  rw [List.length_map]
  by_cases h1 : k < 0
  · rw [if_pos h1, if_pos h1]; rfl
  rw [if_neg h1, if_neg h1]
  by_cases h2 : (l0.length : Int) ≤ k
  · rw [if_pos h2, decide_eq_true (by omega)]; rfl
  rw [if_neg h2, decide_eq_false (by omega)]
  simp only [wire_Fits.j0]
  rw [if_neg (by simp), if_pos (by omega), if_pos (by omega)]
  have e : (l0.map fun x => x.f1.length).getD k.toNat 0 = (rd_T75 l0 k).f1.length := by
    unfold rd_T75
    rw [List.getD_eq_getElem?_getD, List.getD_eq_getElem?_getD, List.getElem?_map, List.getElem?_eq_getElem (show k.toNat < l0.length by omega)]
    rfl
  rw [e]
  by_cases h3 : l.length = (rd_T75 l0 k).f1.length
  · rw [if_pos (by omega), if_pos h3]
  · rw [if_neg (by omega), if_neg h3]
theorem rfits_f (l0 : List S77) (k t : Int) (l : List Int) : jettisonref05_Fits.f 2 l0 k t l = some (fitsE (l0.map fun x => x.f1.length) k l.length) := by
  unfold jettisonref05_Fits.f fitsE
  rw [List.length_map]
  by_cases h1 : k < 0
  · rw [if_pos h1, if_pos h1]; rfl
  rw [if_neg h1, if_neg h1]
  by_cases h2 : (l0.length : Int) ≤ k
  · rw [if_pos h2, decide_eq_true (by omega)]; rfl
  rw [if_neg h2, decide_eq_false (by omega)]
  simp only [jettisonref05_Fits.j0]
  rw [if_neg (by simp), if_pos (by omega), if_pos (by omega)]
  have e : (l0.map fun x => x.f1.length).getD k.toNat 0 = (rd_T77 l0 k).f1.length := by
    unfold rd_T77
    rw [List.getD_eq_getElem?_getD, List.getD_eq_getElem?_getD, List.getElem?_map, List.getElem?_eq_getElem (show k.toNat < l0.length by omega)]
    rfl
  rw [e]
  by_cases h3 : l.length = (rd_T77 l0 k).f1.length
  · rw [if_pos (by omega), if_pos h3]
  · rw [if_neg (by omega), if_neg h3]
theorem wfits_c (A0 : Option Addr) (c0 : Nat) (l0 : List S75) (ls : List Nat) (k t : Int) (A : Option Addr) (c : Nat) (l : List Int) (x : Int) (w : World) (h0 : Kd.C k75 w A0 l0.length l0) (hc0 : l0.length ≤ c0) (h1 : Kd.C (Kd.int .i64) w A l.length l) (h2 : l.length ≤ c) (hl : l0.map (fun x => x.f1.length) = ls) (h : fitsE ls k l.length = x) :
    Calls Try.prog 19 #[.slice A0 l0.length c0, .agg #[.int .i64 k, .int .i64 t, .slice A l.length c]] w fun e w' => e = .returned (.int .i64 x) ∧ Below w.heap.size w w' :=
  wire_Fits.calls 2 A0 c0 l0 k t A c l x w h0 hc0 h1 h2 (by rw [wfits_f, hl, h])
theorem rfits_c (A0 : Option Addr) (c0 : Nat) (l0 : List S77) (ls : List Nat) (k t : Int) (A : Option Addr) (c : Nat) (l : List Int) (x : Int) (w : World) (h0 : Kd.C k77 w A0 l0.length l0) (hc0 : l0.length ≤ c0) (h1 : Kd.C (Kd.int .i64) w A l.length l) (h2 : l.length ≤ c) (hl : l0.map (fun x => x.f1.length) = ls) (h : fitsE ls k l.length = x) :
    Calls Try.prog 20 #[.slice A0 l0.length c0, .agg #[.int .i64 k, .int .i64 t, .slice A l.length c]] w fun e w' => e = .returned (.int .i64 x) ∧ Below w.heap.size w w' :=
  jettisonref05_Fits.calls 2 A0 c0 l0 k t A c l x w h0 hc0 h1 h2 (by rw [rfits_f, hl, h])
/-- The kinds of the statements. -/
def kindsE : List S75 := [⟨⟨#[65]⟩, [⟨#[107]⟩, ⟨#[120]⟩]⟩, ⟨⟨#[66]⟩, [⟨#[107]⟩, ⟨#[121]⟩]⟩, ⟨⟨#[67]⟩, [⟨#[107]⟩, ⟨#[120]⟩, ⟨#[121]⟩]⟩]
theorem kinds_c (w : World) : Calls Try.prog 15 #[] w fun e w' => ∃ A c, e = .returned (.slice A 3 c) ∧ 3 ≤ c ∧ Kd.V k75 75 w' w'.heap.size (fun _ => True) (.slice A 3 c) kindsE ∧ Below w.heap.size w w' := by
  refine (jettisonlaw05_kinds.calls kindsE w rfl).mono ?_
  rintro e w' ⟨v, rfl, h, hb⟩
  obtain ⟨A, c, rfl, hl, _⟩ := Kd.N_reads h
  have hf := Kd.N_F h
  exact ⟨A, c, rfl, hl, ⟨A, c, rfl, hl, Kd.F_mono hf (fun _ _ => trivial)⟩, hb⟩
def toRef (l : List S75) : List S77 := l.map fun x => ⟨x.f0, x.f1⟩
theorem refKinds_l0 (l : List S75) (hl : l.length ≤ 3518437208780) : ∀ (d i n : Nat), i + d = l.length → d < n → jettisonlaw05_refKinds.l0 n l (toRef (l.take i)) (i : Int) = some (toRef l) := by
  intro d
  induction d with
  | zero =>
    intro i n hi hn
    obtain ⟨n, rfl⟩ : ∃ m, n = m + 1 := ⟨n - 1, by omega⟩
    obtain rfl : i = l.length := by omega
    simp only [jettisonlaw05_refKinds.l0]
    rw [if_neg (by omega), List.take_length]
  | succ d ih =>
    intro i n hi hn
    obtain ⟨n, rfl⟩ : ∃ m, n = m + 1 := ⟨n - 1, by omega⟩
    have e3 : wrap64 ((i : Int) + 1) = ((i + 1 : Nat) : Int) := by rw [w_id (by omega) (by omega)]; omega
    have e5 : toRef (l.take (i + 1)) = toRef (l.take i) ++ [⟨(rd_T75 l (i : Int)).f0, (rd_T75 l (i : Int)).f1⟩] := by
      unfold toRef rd_T75
      rw [List.take_add_one, List.map_append, List.getD_eq_getElem?_getD, Int.toNat_natCast, List.getElem?_eq_getElem (by omega)]
      rfl
    simp only [jettisonlaw05_refKinds.l0]
    rw [if_pos (by omega), if_pos (by omega), if_pos (by unfold toRef; rw [List.length_map, List.length_take]; omega), e3, ← e5]
    exact ih (i + 1) n (by omega) (by omega)
theorem refKinds_c (P0 : Nat → Prop) (A : Option Addr) (c : Nat) (l : List S75) (w : World) (b : Nat) (h : Kd.V k75 75 w b P0 (.slice A l.length c) l) (hl : l.length ≤ 3518437208780) :
    Calls Try.prog 21 #[.slice A l.length c] w fun e w' => ∃ A' c', e = .returned (.slice A' l.length c') ∧ l.length ≤ c' ∧ Kd.C k77 w' A' l.length (toRef l) ∧ Below w.heap.size w w' := by
  refine (jettisonlaw05_refKinds.calls (l.length + 1) P0 A c l (toRef l) w h (by unfold jettisonlaw05_refKinds.f; exact refKinds_l0 l hl l.length 0 (l.length + 1) (by omega) (by omega))).mono ?_
  rintro e w' ⟨v, rfl, h, hb⟩
  obtain ⟨A', c', rfl, hl', hc⟩ := Kd.N_reads h
  have e : (toRef l).length = l.length := by unfold toRef; rw [List.length_map]
  rw [e] at hl' hc ⊢
  exact ⟨A', c', rfl, hl', hc, hb⟩
end Go.Proofs.Ythckcbacmonihaa.Hand
