/- StoreRoom: its walk. -/
import Derived.Test.YtibcbeibehaeeaaJL
import Derived.Test.YtibcbeibehaeeaaJP
import Derived.Test.YtibcbeibehaeeaaO0
import Derived.Deep.CutBlock
import Derived.Deep.DeepCutAuto
set_option linter.unusedVariables false
set_option linter.unusedSimpArgs false
namespace Go.Proofs.Ytibcbeibehaeeaa.Hand
open Go.RowKit Go.Proofs.Ytibcbeibehaeeaa.PStorePlays Go.Proofs.YtibcbeibehaeeaaW.PrintWords Go.Proofs.YtibcbeibehaeeaaW.PrintLast Go.Proofs.YtibcbeibehaeeaaW.PrintMore
theorem round_b' (n : Int) (r : Int) (hr : rnd n = r) (w : World) : Calls Try.prog 27 #[.int .i64 n] w fun e w' => e = .returned (.tuple #[.int .i64 r, .bool (fit n)]) ∧ Below w.heap.size w w' := by
  subst hr
  refine (round_c n w).mono ?_
  rintro e w' ⟨rfl, ⟨nd, rfl⟩⟩
  exact ⟨rfl, pw_below_drewN (Below.refl _ _) nd⟩
/-- A row of zeros, as make lays it. -/
theorem C_zero {W : World} {g q n : Nat} (h0 : W.heap[g]? = some (.cells (madeCells #[.int .i64 0] n) q (0, 0))) (hn : n ≤ 1000) : Kd.C (Kd.int .i64) W (some ⟨g, 0, none⟩) n (List.replicate n 0) := by
  refine ⟨by simp, by omega, fun _ => ⟨_, rfl, fun j p hp => ?_⟩⟩
  obtain ⟨hj, hp⟩ := List.getElem?_eq_some_iff.1 hp
  simp at hp hj
  subst hp
  have h1 := blk_cell h0 j
  have h2 : (madeCells #[Value.int .i64 0] n)[j]? = some (.int .i64 0) := by
    have hl : (madeCells #[Value.int .i64 0] n).toList = nums .i64 (List.replicate n 0) := by
      apply List.ext_getElem
      · simp [nums, madeCells]
      · intro i h1 h2
        simp [nums, madeCells, Nat.mod_one]
    rw [← Array.getElem?_toList, hl]
    simp [nums, hj]
  rw [h2] at h1
  refine ⟨[.int .i64 0], rfl, rfl, fun i u hu => ?_⟩
  match i, hu with
  | 0, hu =>
    simp at hu; subst hu
    have : (⟨g, 0, none⟩ : Addr).add (j * (Kd.int .i64).sz + 0) = ⟨g, j, none⟩ := by
      show (⟨g, 0, none⟩ : Addr).add (j * 1 + 0) = _
      rw [Nat.mul_one, Nat.add_zero]
      unfold Addr.add
      split
      · rename_i h; rw [h]
      · simp
    rw [this]
    exact h1
theorem infoI64 : (Try.prog.info? 2).map (fun i => (i.zero, i.size, i.bytes)) = some (some (.int .i64 0), 1, 8) := by kernel_rfl
theorem fineT {bs : List S114} {l : List Kt} (h : Tied bs l) (hm : ∀ x ∈ l, x.many = 1) : Fine l := h.fine (fun x hx => by rw [hm x hx]; decide)
/-- What the three Puts and the Drop come to. -/
theorem room_plain (R k1 k2 : Int) (s1 s2 : ByteArray) (z1 z2 : List Int) (p1 : putE 0 0 z1 = (s1, true)) (p2 : putE 1 0 z2 = (s2, true)) (hs1 : s1.size ≤ 1024) (hs2 : s2.size ≤ 1024) (hk1 : rnd (s1.size : Int) = k1) (hk2 : rnd (s2.size : Int) = k2) (h1 : 0 < k1) (h1' : k1 ≤ 1024) (h2 : 0 < k2) (h2' : k2 ≤ 1024) :
    ∃ (er1 : Int) (l1 : List Kt) (b1 : List S114) (er2 : Int) (l2 : List Kt) (b2 : List S114) (d : Bool) (l3 : List Kt) (b3 : List S114) (er3 : Int) (l4 : List Kt) (b4 : List S114),
      Aside0 (putS R [] [] 1 0 0 z1 = (er1, l1, b1)) ∧ Aside0 (putS R b1 l1 2 1 0 z2 = (er2, l2, b2)) ∧ Aside0 ((findK l2 1).isSome = d ∧ dropL l2 1 = l3 ∧ dropS b2 l2 1 = b3) ∧ Aside0 (putS R b3 l3 3 1 0 z2 = (er3, l4, b4)) ∧ Aside0 (Good b1 ∧ Good b2 ∧ Good b3 ∧ Good b4 ∧ Fine l2) ∧
      ((k1 ≤ R ∧ er1 = 0 ∧ d = true ∧ ((k1 + k2 ≤ R ∧ er2 = 0 ∧ ((k2 + k2 ≤ R ∧ er3 = 0 ∧ sumOf b4 = k2 + k2) ∨ (R < k2 + k2 ∧ er3 = 9 ∧ sumOf b4 = k2))) ∨ (R < k1 + k2 ∧ er2 = 9 ∧ ((k2 ≤ R ∧ er3 = 0 ∧ sumOf b4 = k2) ∨ (R < k2 ∧ er3 = 9 ∧ sumOf b4 = 0))))) ∨
       (R < k1 ∧ er1 = 9 ∧ d = false ∧ ((k2 ≤ R ∧ er2 = 0 ∧ ((k2 + k2 ≤ R ∧ er3 = 0 ∧ sumOf b4 = k2 + k2) ∨ (R < k2 + k2 ∧ er3 = 9 ∧ sumOf b4 = k2))) ∨ (R < k2 ∧ er2 = 9 ∧ er3 = 9 ∧ sumOf b4 = 0)))) := by
  have put : ∀ (bs : List S114) (l : List Kt) (k : Int) (ek : Int) (z : List Int) (s : ByteArray) (r : Int), putE ek 0 z = (s, true) → s.size ≤ 1024 → rnd (s.size : Int) = r → 0 < r → r ≤ 1024 → Tied bs l → bs.length < 4000 → findK l k = none → (∀ x ∈ l, x.many = 1) →
      (sumOf bs + r ≤ R ∧ ∃ i gn bs', putS R bs l k ek 0 z = (0, l ++ [⟨k, 0, i, gn, 1⟩], bs') ∧ Tied bs' (l ++ [⟨k, 0, i, gn, 1⟩]) ∧ sumOf bs' = sumOf bs + r ∧ bs'.length ≤ bs.length + 1 ∧ (∀ x ∈ l, bk bs' x.sl = bk bs x.sl) ∧ (bk bs' i).f1 = r) ∨ (R < sumOf bs + r ∧ putS R bs l k ek 0 z = (9, l, bs)) := by
    intro bs l k ek z s r hp hs hr h0 h1 ht hb hf hm
    subst hr
    rcases Int.lt_or_le R (sumOf bs + rnd (s.size : Int)) with hl | hl
    · exact .inr ⟨hl, putS_full hp hf hs hl⟩
    · obtain ⟨i, gn, e, hi, hz⟩ := putS_room hp hf hs ht.good (by omega) hl
      obtain ⟨t1, t2, t3, t4⟩ := ht.put (s := s) hf i gn _ h0 h1 (by omega) hi hz
      refine .inl ⟨hl, i, gn, _, e, t1, t2, ?_, t3, by rw [t4]⟩
      split
      · rw [List.length_set]; omega
      · simp
  have nokey : ∀ (l : List Kt) (k : Int), (∀ x ∈ l, x.key ≠ k) → findK l k = none := by
    intro l k h
    exact List.find?_eq_none.2 (fun x hx => by simpa using h x hx)
  rcases put [] [] 1 0 z1 s1 k1 p1 hs1 hk1 h1 h1' Tied.nil (by simp) rfl (by simp) with ⟨c1, i1, g1, b1, e1, t1, su1, le1, _, f1⟩ | ⟨c1, e1⟩
  · simp only [sumOf, Int.zero_add, List.nil_append] at c1 e1 t1 su1
    have m1 : ∀ x ∈ [(⟨1, 0, i1, g1, 1⟩ : Kt)], x.many = 1 := by intro x hx; obtain rfl := List.mem_singleton.1 hx; rfl
    rcases put b1 _ 2 1 z2 s2 k2 p2 hs2 hk2 h2 h2' t1 (by simp at le1; omega) (nokey _ _ (by intro x hx; obtain rfl := List.mem_singleton.1 hx; exact (show (1 : Int) ≠ 2 by decide))) m1 with ⟨c2, i2, g2, b2, e2, t2, su2, le2, sm2, f2⟩ | ⟨c2, e2⟩
    · have m2 : ∀ x ∈ [(⟨1, 0, i1, g1, 1⟩ : Kt)] ++ [⟨2, 0, i2, g2, 1⟩], x.many = 1 := by intro x hx; simp at hx; rcases hx with rfl | rfl <;> rfl
      have hf : findK ([(⟨1, 0, i1, g1, 1⟩ : Kt)] ++ [⟨2, 0, i2, g2, 1⟩]) 1 = some ⟨1, 0, i1, g1, 1⟩ := rfl
      obtain ⟨t3, su3, _, le3⟩ := t2.drop hf
      have hd : dropK ([(⟨1, 0, i1, g1, 1⟩ : Kt)] ++ [⟨2, 0, i2, g2, 1⟩]) 1 = [⟨2, 0, i2, g2, 1⟩] := rfl
      rw [hd] at t3
      have hb1 : (bk b2 i1).f1 = k1 := by rw [sm2 _ (List.mem_singleton.2 rfl)]; exact f1
      have m3 : ∀ x ∈ [(⟨2, 0, i2, g2, 1⟩ : Kt)], x.many = 1 := by intro x hx; obtain rfl := List.mem_singleton.1 hx; rfl
      have su3' : sumOf (freeB b2 i1 g1) = k2 := by rw [su3, su2, su1]; show k1 + k2 - (bk b2 i1).f1 = k2; omega
      have hD : dropL ([(⟨1, 0, i1, g1, 1⟩ : Kt)] ++ [⟨2, 0, i2, g2, 1⟩]) 1 = [⟨2, 0, i2, g2, 1⟩] ∧ dropS b2 ([(⟨1, 0, i1, g1, 1⟩ : Kt)] ++ [⟨2, 0, i2, g2, 1⟩]) 1 = freeB b2 i1 g1 := by
        unfold dropL dropS
        rw [hf]
        exact ⟨if_pos rfl, if_pos rfl⟩
      rcases put _ _ 3 1 z2 s2 k2 p2 hs2 hk2 h2 h2' t3 (by have e3 : (freeB b2 i1 g1).length = b2.length := le3; simp at le1 le2; show (freeB b2 i1 g1).length < 4000; omega) (nokey _ _ (by intro x hx; obtain rfl := List.mem_singleton.1 hx; exact (show (2 : Int) ≠ 3 by decide))) m3 with ⟨c3, i3, g3, b4, e4, t4, su4, _⟩ | ⟨c3, e4⟩
      · exact ⟨_, _, _, _, _, _, true, _, _, _, _, _, ⟨e1⟩, ⟨e2⟩, ⟨rfl, hD⟩, ⟨e4⟩, ⟨t1.good, t2.good, t3.good, t4.good, fineT t2 m2⟩, .inl ⟨c1, rfl, rfl, .inl ⟨by omega, rfl, .inl ⟨by rw [su3'] at c3; omega, rfl, by rw [su4, su3']⟩⟩⟩⟩
      · exact ⟨_, _, _, _, _, _, true, _, _, _, _, _, ⟨e1⟩, ⟨e2⟩, ⟨rfl, hD⟩, ⟨e4⟩, ⟨t1.good, t2.good, t3.good, t3.good, fineT t2 m2⟩, .inl ⟨c1, rfl, rfl, .inl ⟨by omega, rfl, .inr ⟨by rw [su3'] at c3; omega, rfl, su3'⟩⟩⟩⟩
    · have hf : findK [(⟨1, 0, i1, g1, 1⟩ : Kt)] 1 = some ⟨1, 0, i1, g1, 1⟩ := rfl
      obtain ⟨t3, su3, _, le3⟩ := t1.drop hf
      have hd : dropK [(⟨1, 0, i1, g1, 1⟩ : Kt)] 1 = [] := rfl
      rw [hd] at t3
      have su3' : sumOf (freeB b1 i1 g1) = 0 := by rw [su3, su1]; show k1 - (bk b1 i1).f1 = 0; omega
      have hD : dropL [(⟨1, 0, i1, g1, 1⟩ : Kt)] 1 = [] ∧ dropS b1 [(⟨1, 0, i1, g1, 1⟩ : Kt)] 1 = freeB b1 i1 g1 := by
        unfold dropL dropS
        rw [hf]
        exact ⟨if_pos rfl, if_pos rfl⟩
      rcases put _ _ 3 1 z2 s2 k2 p2 hs2 hk2 h2 h2' t3 (by have e3 : (freeB b1 i1 g1).length = b1.length := le3; simp at le1; show (freeB b1 i1 g1).length < 4000; omega) rfl (by simp) with ⟨c3, i3, g3, b4, e4, t4, su4, _⟩ | ⟨c3, e4⟩
      · exact ⟨_, _, _, _, _, _, true, _, _, _, _, _, ⟨e1⟩, ⟨e2⟩, ⟨rfl, hD⟩, ⟨e4⟩, ⟨t1.good, t1.good, t3.good, t4.good, fineT t1 m1⟩, .inl ⟨c1, rfl, rfl, .inr ⟨by omega, rfl, .inl ⟨by rw [su3'] at c3; omega, rfl, by rw [su4, su3']; omega⟩⟩⟩⟩
      · exact ⟨_, _, _, _, _, _, true, _, _, _, _, _, ⟨e1⟩, ⟨e2⟩, ⟨rfl, hD⟩, ⟨e4⟩, ⟨t1.good, t1.good, t3.good, t3.good, fineT t1 m1⟩, .inl ⟨c1, rfl, rfl, .inr ⟨by omega, rfl, .inr ⟨by rw [su3'] at c3; omega, rfl, su3'⟩⟩⟩⟩
  · simp only [sumOf, Int.zero_add] at c1
    rcases put [] [] 2 1 z2 s2 k2 p2 hs2 hk2 h2 h2' Tied.nil (by simp) rfl (by simp) with ⟨c2, i2, g2, b2, e2, t2, su2, le2, sm2, f2⟩ | ⟨c2, e2⟩
    · simp only [sumOf, Int.zero_add, List.nil_append] at c2 e2 t2 su2
      have m2 : ∀ x ∈ [(⟨2, 0, i2, g2, 1⟩ : Kt)], x.many = 1 := by intro x hx; obtain rfl := List.mem_singleton.1 hx; rfl
      have hD : dropL [(⟨2, 0, i2, g2, 1⟩ : Kt)] 1 = [⟨2, 0, i2, g2, 1⟩] ∧ dropS b2 [(⟨2, 0, i2, g2, 1⟩ : Kt)] 1 = b2 := ⟨rfl, rfl⟩
      rcases put b2 _ 3 1 z2 s2 k2 p2 hs2 hk2 h2 h2' t2 (by simp at le2; omega) (nokey _ _ (by intro x hx; obtain rfl := List.mem_singleton.1 hx; exact (show (2 : Int) ≠ 3 by decide))) m2 with ⟨c3, i3, g3, b4, e4, t4, su4, _⟩ | ⟨c3, e4⟩
      · exact ⟨_, _, _, _, _, _, false, _, _, _, _, _, ⟨e1⟩, ⟨e2⟩, ⟨rfl, hD⟩, ⟨e4⟩, ⟨Good.nil, t2.good, t2.good, t4.good, fineT t2 m2⟩, .inr ⟨c1, rfl, rfl, .inl ⟨c2, rfl, .inl ⟨by rw [su2] at c3; omega, rfl, by rw [su4, su2]⟩⟩⟩⟩
      · exact ⟨_, _, _, _, _, _, false, _, _, _, _, _, ⟨e1⟩, ⟨e2⟩, ⟨rfl, hD⟩, ⟨e4⟩, ⟨Good.nil, t2.good, t2.good, t2.good, fineT t2 m2⟩, .inr ⟨c1, rfl, rfl, .inl ⟨c2, rfl, .inr ⟨by rw [su2] at c3; omega, rfl, su2⟩⟩⟩⟩
    · simp only [sumOf, Int.zero_add] at c2
      rcases put [] [] 3 1 z2 s2 k2 p2 hs2 hk2 h2 h2' Tied.nil (by simp) rfl (by simp) with ⟨c3, _⟩ | ⟨c3, e4⟩
      · simp only [sumOf, Int.zero_add] at c3
        omega
      · exact ⟨_, _, _, _, _, _, false, _, _, _, _, _, ⟨e1⟩, ⟨e2⟩, ⟨rfl, rfl, rfl⟩, ⟨e4⟩, ⟨Good.nil, Good.nil, Good.nil, Good.nil, fine_nil⟩, .inr ⟨c1, rfl, rfl, .inr ⟨c2, rfl, rfl, rfl⟩⟩⟩
end Go.Proofs.Ytibcbeibehaeeaa.Hand
