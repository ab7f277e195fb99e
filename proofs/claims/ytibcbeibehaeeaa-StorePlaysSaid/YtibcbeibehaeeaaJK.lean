/- Stores over their arenas: what is kept, told without its blocks; one contract for each method. -/
import Derived.Test.YtibcbeibehaeeaaG7
import Derived.Test.YtibcbeibehaeeaaG6
set_option linter.unusedVariables false
set_option linter.unusedSimpArgs false
namespace Go.Proofs.Ytibcbeibehaeeaa.Hand
open Go.RowKit Go.Proofs.Ytibcbeibehaeeaa.PStorePlays Go.Proofs.YtibcbeibehaeeaaW.PrintWords Go.Proofs.YtibcbeibehaeeaaW.PrintLast Go.Proofs.YtibcbeibehaeeaaW.PrintMore
/-- What is kept, without its block. -/
def zk (x : Kt) : Kt := { x with blk := 0 }
theorem findK_z (L : List Kt) (k : Int) : findK (L.map zk) k = (findK L k).map zk := by
  unfold findK
  rw [List.find?_map]
  rfl
theorem cntK_z (L : List Kt) (k : Int) : cntK (L.map zk) k = cntK L k := by
  unfold cntK
  rw [findK_z]
  cases findK L k <;> rfl
theorem bump_z (L : List Kt) (k d : Int) : bump (L.map zk) k d = (bump L k d).map zk := by
  unfold bump
  rw [List.map_map, List.map_map]
  apply List.map_congr_left
  intro x _
  show (if (zk x).key = k then { zk x with many := (zk x).many + d } else zk x) = zk (if x.key = k then { x with many := x.many + d } else x)
  by_cases h : x.key = k
  · rw [if_pos h, if_pos (show (zk x).key = k from h)]; rfl
  · rw [if_neg h, if_neg (show ¬ (zk x).key = k from h)]
theorem dropK_z (L : List Kt) (k : Int) : dropK (L.map zk) k = (dropK L k).map zk := by
  unfold dropK
  rw [List.filter_map]
  rfl
/-- A store over an arena. -/
def SY (W : World) (gs ga mb N : Nat) (cap lim : Int) (bs : List S114) (l : List Kt) : Prop := (∃ L, SX W gs ga mb N L ∧ L.map zk = l) ∧ AX W ga cap lim bs
/-- The counts and the slots that a store may have. -/
structure Fine (l : List Kt) : Prop where
  many : ∀ x ∈ l, 1 ≤ x.many ∧ x.many ≤ 1000000
  slot : ∀ x ∈ l, x.sl ≤ 4294967295
def dropL (l : List Kt) (k : Int) : List Kt := match findK l k with
  | none => l
  | some x => if x.many = 1 then dropK l k else bump l k (-1)
def dropS (bs : List S114) (l : List Kt) (k : Int) : List S114 := match findK l k with
  | none => bs
  | some x => if x.many = 1 then freeB bs x.sl x.gn else bs
def getS (bs : List S114) (l : List Kt) (k : Int) : Int × Int × List Int × Bool := match findK l k with
  | none => (0, 0, [], false)
  | some x => ((wgetE (getE bs x.sl x.gn)).1, (wgetE (getE bs x.sl x.gn)).2.1, (wgetE (getE bs x.sl x.gn)).2.2.1, (wgetE (getE bs x.sl x.gn)).2.2.2 == 0)
/-- The error of a Put, what is kept behind it, the blocks. -/
def putS (lim : Int) (bs : List S114) (l : List Kt) (k ek et : Int) (el : List Int) : Int × List Kt × List S114 :=
  if (putE ek et el).2 = false then (7, l, bs)
  else if (findK l k).isSome then (1, l, bs)
  else ((allocE lim bs (putE ek et el).1.size).2.2, (if (allocE lim bs (putE ek et el).1.size).2.2 = 0 then l ++ [⟨k, 0, (allocE lim bs (putE ek et el).1.size).1.toNat, (allocE lim bs (putE ek et el).1.size).2.1, 1⟩] else l), allocB lim bs (putE ek et el).1)
theorem allocE_nn {lim : Int} {bs : List S114} {n : Nat} {sl gn er : Int} (h : allocE lim bs n = (sl, gn, er)) : 0 ≤ sl := by
  unfold allocE at h
  split at h
  · injection h with h _; omega
  · split at h
    · injection h with h _; omega
    · split at h
      · rename_i i r hf
        obtain ⟨m, rfl, _⟩ := free_head hf
        injection h with h _; omega
      · split at h <;> (injection h with h _; omega)
theorem SX.up {W : World} {gs ga mb N N' : Nat} {L : List Kt} (h : SX W gs ga mb N L) (hN : N ≤ N') : SX W gs ga mb N' L := ⟨h.blk, h.map.mono hN, h.kept, h.keys, h.blks, h.low⟩
set_option maxHeartbeats 1000000 in
set_option maxRecDepth 100000 in
theorem s_hold_ {W : World} {gs ga mb N : Nat} {L : List Kt} {cap lim : Int} {bs : List S114} (h : SX W gs ga mb N L) (ha : AX W ga cap lim bs) (k : Int) (hk : I64k k) (hmany : ∀ x ∈ L, 0 ≤ x.many ∧ x.many ≤ 1000000) : Calls Try.prog 14 #[.pointer (some ⟨gs, 0, none⟩), .int .i64 k] W fun e w' => e = .returned (.bool (findK L k).isSome) ∧ SX w' gs ga mb N (bump L k 1) ∧ AX w' ga cap lim bs ∧ FS ga W w' := by
  have q0 := blk_cell h.blk 0
  have q1 := blk_cell h.blk 1
  have hlt := blk_lt h.blk
  simp only [List.getElem?_toArray, List.getElem?_cons_zero, List.getElem?_cons_succ] at q0 q1
  have hl := h.look_ k hk
  have H := Aside0.mk h
  have HA := Aside0.mk ha
  cases hf : findK L k with
  | none =>
    rw [hf] at hl
    have hl2 : (Instr.lookup 67 (.map (some mb)) (.int .i64 k) true).run Try.prog W = .ok (.tuple #[.pointer none, .bool false]) W := hl
    have hb : bump L k 1 = L := by
      unfold bump
      conv => rhs; rw [← List.map_id L]
      apply List.map_congr_left
      intro x hx
      have := List.find?_eq_none.1 hf x hx
      rw [if_neg (by simpa using this)]
      rfl
    have HB := Aside0.mk hb
    clear hl hf h hb ha
    go_enter Try.func14, Try.ntmps14
    go_wp2
    go_ret
    exact ⟨rfl, by rw [HB.out]; exact H.out, HA.out, FS.refl _ _⟩
  | some x =>
    rw [hf] at hl
    have hl2 : (Instr.lookup 67 (.map (some mb)) (.int .i64 k) true).run Try.prog W = .ok (.tuple #[.pointer (some ⟨x.blk, 0, none⟩), .bool true]) W := hl
    obtain ⟨hxm, hxk⟩ := findK_some hf
    have hx := h.kept x hxm
    have hb := hmany x hxm
    have p2 := blk_cell hx 2
    have pf := blk_frozen hx 2
    have pl := blk_lt hx
    simp only [List.getElem?_toArray, List.getElem?_cons_zero, List.getElem?_cons_succ] at p2
    have HM := Aside0.mk hxm
    have HK := Aside0.mk hxk
    have HXB := Aside0.mk hx
    clear hl hf h hx hxm hxk ha
    go_enter Try.func14, Try.ntmps14
    go_wp2
    go_ret
    have hB := H.out.bump_ HM.out 1 (x.many + 1) rfl
    rw [HK.out] at hB
    exact ⟨rfl, hB.1, HA.out.other HXB.out (by unfold AT; decide) 2 _, hB.2⟩
section
variable {W W1 : World} {gs ga mb N : Nat} {cap lim : Int} {bs : List S114} {l : List Kt}
theorem SY.below (h : SY W gs ga mb N cap lim bs l) (hb : Below W.heap.size W W1) : SY W1 gs ga mb N cap lim bs l := by
  obtain ⟨⟨L, h, e⟩, ha⟩ := h
  exact ⟨⟨L, h.below hb, e⟩, ha.below hb⟩
theorem SY.fR {g : Nat} (h : SY W gs ga mb N cap lim bs l) (hF : FR g W W1) : SY W1 gs ga mb N cap lim bs l := by
  obtain ⟨⟨L, h, e⟩, ha⟩ := h
  exact ⟨⟨L, h.fR hF, e⟩, ha.fR hF⟩
theorem SY.lt (h : SY W gs ga mb N cap lim bs l) : ga ≤ gs ∧ gs < W.heap.size := by
  obtain ⟨⟨L, h, e⟩, ha⟩ := h
  exact ⟨h.low.1, blk_lt h.blk⟩
theorem mem_z {L : List Kt} {x : Kt} (hx : x ∈ L) (e : L.map zk = l) : zk x ∈ l := by
  rw [← e]
  exact List.mem_map_of_mem hx
theorem y_new (h : AX W ga cap lim bs) : Calls Try.prog 10 #[.pointer (some ⟨ga, 0, none⟩)] W fun e w' => ∃ gs mb, e = .returned (.pointer (some ⟨gs, 0, none⟩)) ∧ SY w' gs ga mb 0 cap lim bs [] ∧ Below W.heap.size W w' := by
  refine (s_new ga h.lt).mono ?_
  rintro e w' ⟨gs, mb, rfl, hS, hB⟩
  exact ⟨gs, mb, rfl, ⟨⟨[], hS, rfl⟩, h.below hB⟩, hB⟩
theorem y_count (h : SY W gs ga mb N cap lim bs l) (k : Int) (hk : I64k k) (n : Int) (hn : cntK l k = n) : Calls Try.prog 21 #[.pointer (some ⟨gs, 0, none⟩), .int .i64 k] W fun e w' => e = .returned (.int .i64 n) ∧ Below W.heap.size W w' := by
  obtain ⟨⟨L, h, e⟩, ha⟩ := h
  refine (s_count h k hk).mono ?_
  rintro e w' ⟨rfl, rfl⟩
  subst e hn
  rw [cntK_z]
  exact ⟨rfl, Below.refl _ _⟩
theorem y_len (h : SY W gs ga mb N cap lim bs l) (n : Nat) (hn : l.length = n) : Calls Try.prog 23 #[.pointer (some ⟨gs, 0, none⟩)] W fun e w' => e = .returned (.int .i64 (n : Int)) ∧ Below W.heap.size W w' := by
  obtain ⟨⟨L, h, e⟩, ha⟩ := h
  refine (s_len h).mono ?_
  rintro e w' ⟨rfl, rfl⟩
  subst e hn
  rw [List.length_map]
  exact ⟨rfl, Below.refl _ _⟩
theorem y_charged (h : SY W gs ga mb N cap lim bs l) (n : Int) (hn : sumOf bs = n) : Calls Try.prog 25 #[.pointer (some ⟨ga, 0, none⟩)] W fun e w' => e = .returned (.int .i64 n) ∧ Below W.heap.size W w' := by
  subst hn
  exact x_charged h.2
theorem y_limit (h : SY W gs ga mb N cap lim bs l) : Calls Try.prog 31 #[.pointer (some ⟨ga, 0, none⟩)] W fun e w' => e = .returned (.int .i64 lim) ∧ Below W.heap.size W w' := x_limit h.2
theorem y_live (h : SY W gs ga mb N cap lim bs l) (hg : Good bs) (n : Nat) (hn : liveOf bs = n) : Calls Try.prog 30 #[.pointer (some ⟨ga, 0, none⟩)] W fun e w' => e = .returned (.int .i64 (n : Int)) ∧ Below W.heap.size W w' := by
  subst hn
  exact x_live h.2 hg
theorem y_hold (h : SY W gs ga mb N cap lim bs l) (hl : Fine l) (k : Int) (hk : I64k k) (b : Bool) (hb : (findK l k).isSome = b) (l' : List Kt) (hl' : bump l k 1 = l') : Calls Try.prog 14 #[.pointer (some ⟨gs, 0, none⟩), .int .i64 k] W fun e w' => e = .returned (.bool b) ∧ SY w' gs ga mb N cap lim bs l' ∧ FS ga W w' := by
  obtain ⟨⟨L, h, e⟩, ha⟩ := h
  refine (s_hold_ h ha k hk (fun x hx => ?_)).mono ?_
  · have := hl.many _ (mem_z hx e)
    simp only [zk] at this
    omega
  · rintro e' w' ⟨rfl, hS, hA, hF⟩
    subst e hb hl'
    rw [findK_z, Option.isSome_map]
    exact ⟨rfl, ⟨⟨_, hS, (bump_z _ _ _).symm⟩, hA⟩, hF⟩
theorem y_drop (h : SY W gs ga mb N cap lim bs l) (hl : Fine l) (hg : Good bs) (k : Int) (hk : I64k k) (b : Bool) (hb : (findK l k).isSome = b) (l' : List Kt) (hl' : dropL l k = l') (bs' : List S114) (hbs : dropS bs l k = bs') : Calls Try.prog 16 #[.pointer (some ⟨gs, 0, none⟩), .int .i64 k] W fun e w' => e = .returned (.bool b) ∧ SY w' gs ga mb N cap lim bs' l' ∧ FS ga W w' := by
  obtain ⟨⟨L, h, e⟩, ha⟩ := h
  subst hb hl' hbs
  unfold dropL dropS
  rw [← e, findK_z]
  cases hf : findK L k with
  | none =>
    refine (s_drop_no h ha hg k hk hf).mono ?_
    rintro e' w' ⟨rfl, rfl⟩
    exact ⟨rfl, ⟨⟨L, h, rfl⟩, ha⟩, FS.refl _ _⟩
  | some x =>
    have hm := hl.many _ (mem_z (findK_some hf).1 e)
    have hsl := hl.slot _ (mem_z (findK_some hf).1 e)
    simp only [zk] at hm hsl
    by_cases h1 : x.many = 1
    · refine (s_drop_last h ha hg k hk x hf h1 hsl).mono ?_
      rintro e' w' ⟨rfl, hS, hA, hF⟩
      simp only [Option.map_some, zk, h1, if_true, Option.isSome_some]
      exact ⟨trivial, ⟨⟨_, hS, (dropK_z _ _).symm⟩, hA⟩, hF⟩
    · refine (s_drop_more h ha hg k hk x hf (by omega) hm.2).mono ?_
      rintro e' w' ⟨rfl, hS, hA, hF⟩
      simp only [Option.map_some, zk, h1, if_false, Option.isSome_some]
      exact ⟨trivial, ⟨⟨_, hS, (bump_z _ _ _).symm⟩, hA⟩, hF⟩
theorem y_get (h : SY W gs ga mb N cap lim bs l) (hl : Fine l) (hg : Good bs) (hsz : ∀ b ∈ bs, b.f2.size ≤ 1000000000000000) (k : Int) (hk : I64k k) (ek et : Int) (el : List Int) (b : Bool) (he : getS bs l k = (ek, et, el, b)) : Calls Try.prog 18 #[.pointer (some ⟨gs, 0, none⟩), .int .i64 k] W fun e w' => ∃ v : Value, e = .returned (.tuple #[.agg #[.int .i64 ek, .int .i64 et, v], .bool b]) ∧ Kd.R (Kd.int .i64) 2 w' W.heap.size (fun _ => True) v el ∧ Below W.heap.size W w' := by
  obtain ⟨⟨L, h, e⟩, ha⟩ := h
  unfold getS at he
  rw [← e, findK_z] at he
  cases hf : findK L k with
  | none =>
    rw [hf] at he
    injection he with e1 he; injection he with e2 he; injection he with e3 e4
    subst e1 e2 e3 e4
    refine (s_get_no h ha k hk hf).mono ?_
    rintro e' w' ⟨rfl, hB⟩
    exact ⟨_, rfl, Kd.R_nil _ _ _ _ _, hB⟩
  | some x =>
    rw [hf] at he
    have hsl := hl.slot _ (mem_z (findK_some hf).1 e)
    simp only [zk] at hsl
    have hs2 : (getE bs x.sl x.gn).size ≤ 1000000000000000 := by
      unfold getE
      split
      · rename_i hv
        rw [lives_iff] at hv
        exact hsz _ (bk_mem hv.1)
      · decide
    injection he with e1 he; injection he with e2 he; injection he with e3 e4
    refine (s_get_yes h ha hg k hk x hf hsl _ rfl hs2 ek et _ el (by rw [← e1, ← e2, ← e3]; rfl)).mono ?_
    rintro e' w' ⟨v, rfl, hR, hB⟩
    subst e4
    exact ⟨v, rfl, hR, hB⟩
theorem y_put (h : SY W gs ga mb N cap lim bs l) (hg : Good bs) (hN : N < 1000000) (k : Int) (hk : I64k k) (ek et : Int) (el : List Int) (A : Option Addr) (n c : Nat) (hr : Kd.C (Kd.int .i64) W A n el) (er : Int) (l' : List Kt) (bs' : List S114) (hp : putS lim bs l k ek et el = (er, l', bs')) : Calls Try.prog 12 #[.pointer (some ⟨gs, 0, none⟩), .int .i64 k, .agg #[.int .i64 ek, .int .i64 et, .slice A n c]] W fun e w' => e = .returned (.int .i64 er) ∧ SY w' gs ga mb (N + 1) cap lim bs' l' ∧ FS ga W w' := by
  obtain ⟨⟨L, h, e⟩, ha⟩ := h
  obtain rfl := hr.1
  obtain ⟨s, b, hs⟩ : ∃ s b, putE ek et el = (s, b) := ⟨_, _, rfl⟩
  unfold putS at hp
  rw [hs, ← e, findK_z, Option.isSome_map] at hp
  cases b with
  | false =>
    rw [if_pos rfl] at hp
    injection hp with e1 hp; injection hp with e2 e3
    subst e1 e2 e3
    refine (s_put_form h ha hg k hk ek et el A c hr s hs).mono ?_
    rintro e' w' ⟨rfl, hB⟩
    exact ⟨rfl, ⟨⟨L, (h.below hB).up (Nat.le_succ _), rfl⟩, ha.below hB⟩, FS.of_below hB⟩
  | true =>
    rw [if_neg (by simp)] at hp
    cases hf : findK L k with
    | some x =>
      rw [hf, if_pos (show (some x).isSome = true from rfl)] at hp
      injection hp with e1 hp; injection hp with e2 e3
      subst e1 e2 e3
      refine (s_put_arg h ha hg k hk ek et el A c hr s hs x hf).mono ?_
      rintro e' w' ⟨rfl, hB⟩
      exact ⟨rfl, ⟨⟨L, (h.below hB).up (Nat.le_succ _), rfl⟩, ha.below hB⟩, FS.of_below hB⟩
    | none =>
      rw [hf, if_neg (show ¬ (none : Option Kt).isSome = true by simp)] at hp
      injection hp with e1 hp; injection hp with e2 e3
      subst e1 e2 e3
      simp only
      obtain ⟨sl, gn, er, hE⟩ : ∃ sl gn er, allocE lim bs s.size = (sl, gn, er) := ⟨_, _, _, rfl⟩
      rw [hE]
      simp only
      by_cases h0 : er = 0
      · subst h0
        have hsl : sl = ((sl.toNat : Nat) : Int) := by
          have := allocE_nn hE
          omega
        rw [if_pos rfl]
        refine (s_put_ok h ha hg k hk ek et el A c hr s hs hf sl.toNat gn (by rw [hE, ← hsl]) hN).mono ?_
        rintro e' w' ⟨rfl, ⟨b, hS⟩, hA, hF⟩
        exact ⟨rfl, ⟨⟨_, hS, by rw [List.map_append]; rfl⟩, hA⟩, hF⟩
      · rw [if_neg h0]
        refine (s_put_err h ha hg k hk ek et el A c hr s hs hf sl gn er hE (by simpa using h0)).mono ?_
        rintro e' w' ⟨rfl, hS, hA, hF⟩
        exact ⟨rfl, ⟨⟨L, hS.up (Nat.le_succ _), rfl⟩, hA⟩, hF⟩
end
end Go.Proofs.Ytibcbeibehaeeaa.Hand
