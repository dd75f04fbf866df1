/- Proved: for every input the law FnExactStateGraph returns true and leaves its arguments as they were. Part 3: the functions that the law reaches, as plain functions, and plain laws about them; no conditions. -/
import Derived.Test.YtohafbpiaflikaaGreatExactStateGraphP2
import Derived.Sort.AssemblyPlain
set_option linter.all false
noncomputable section
set_option linter.all false
set_option maxRecDepth 10000
namespace Go.Fl
open Go
def bub : List Int → Int → List Int → List Int
 | [], x, B => x :: B
 | y :: A, x, B => if y > x then bub A x (y :: B) else (y :: A).reverse ++ x :: B
theorem bub_perm : ∀ (A : List Int) (x : Int) (B : List Int), (bub A x B).Perm (x :: (A ++ B))
 | [], x, B => List.Perm.refl _
 | y :: A, x, B => by
  unfold bub
  split
  ·exact (bub_perm A x (y :: B)).trans (List.Perm.cons x List.perm_middle)
  ·exact List.perm_middle.trans (List.Perm.cons x ((List.reverse_perm _).append_right B))
theorem bub_sorted : ∀ (A : List Int) (x : Int) (B : List Int), (A.reverse ++ B).Pairwise (· ≤ ·) → (∀ b ∈ B, x ≤ b) → (bub A x B).Pairwise (· ≤ ·)
 | [], x, B, h, hb => by
  simp only [List.reverse_nil, List.nil_append] at h
  exact List.pairwise_cons.2 ⟨hb, h⟩
 | y :: A, x, B, h, hb => by
  have e : (y :: A).reverse ++ B = A.reverse ++ y :: B := by simp
  unfold bub
  split
  ·rename_i hy
   refine bub_sorted A x (y :: B) (by rw [← e]; exact h) ?_
   intro b hm
   rcases List.mem_cons.1 hm with rfl | hm
   ·omega
   ·exact hb b hm
  ·rename_i hy
   rw [List.pairwise_append] at h ⊢
   refine ⟨h.1, List.pairwise_cons.2 ⟨hb, h.2.1⟩, ?_⟩
   intro a ha b hm
   have hay : a ≤ y := by
    rw [List.reverse_cons] at ha
    have hr := h.1
    rw [List.reverse_cons, List.pairwise_append] at hr
    rcases List.mem_append.1 ha with ha | ha
    ·exact hr.2.2 a ha y (by simp)
    ·simp only [List.mem_singleton] at ha; omega
   rcases List.mem_cons.1 hm with rfl | hm
   ·omega
   ·exact h.2.2 a ha b hm
theorem isort_perm : ∀ (xs out : List Int), (xs.foldl (fun out x => bub out.reverse x []) out).Perm (out ++ xs)
 | [], out => by simp
 | x :: xs, out => by
  rw [List.foldl_cons]
  refine (isort_perm xs _).trans ?_
  refine ((bub_perm out.reverse x []).append_right xs).trans ?_
  rw [List.append_nil]
  exact (((List.reverse_perm out).cons x).append_right xs).trans (List.perm_middle (l₁ := out) (l₂ := xs) (a := x)).symm
theorem isort_sorted : ∀ (xs out : List Int), out.Pairwise (· ≤ ·) → (xs.foldl (fun out x => bub out.reverse x []) out).Pairwise (· ≤ ·)
 | [], out, h => h
 | x :: xs, out, h => by
  rw [List.foldl_cons]
  exact isort_sorted xs _ (bub_sorted _ _ _ (by simpa using h) (by simp))
def sortI (xs : List Int) : List Int := xs.mergeSort (fun x y => decide (x ≤ y))
theorem zqj {xs : List Int} : (sortI xs).Perm xs := List.mergeSort_perm _ _
theorem zsl {xs : List Int} : (sortI xs).length = xs.length := zqj.length_eq
theorem sortI_sorted {xs : List Int} : (sortI xs).Pairwise (· ≤ ·) := by
 have := List.pairwise_mergeSort (le := fun (x y : Int) => decide (x ≤ y)) (by intro a b c; simp only [decide_eq_true_eq]; omega) (by intro a b; simp only [Bool.or_eq_true, decide_eq_true_eq]; omega) xs
 exact this.imp (by intro a b; simp)
theorem sortI_uniq {xs ys : List Int} (h : ys.Perm xs) (hs : ys.Pairwise (· ≤ ·)) : ys = sortI xs :=
 List.Perm.eq_of_pairwise (le := fun (x y : Int) => x ≤ y) (fun a b _ _ h1 h2 => by omega) hs sortI_sorted (h.trans zqj.symm)
section
variable {N : Nat} (hN : lim < N)
include hN
omit hN in
theorem sSort_in {xs : List Int} {i : Int} : ∀ (n : Nat) (A : List Int) (x : Int) (B : List Int), A.length < n → A.length ≤ 1048576 → zve N n (xs, i, (A.length : Int), A.reverse ++ x :: B, ()) = some (xs, i, bub A x B, ())
 | 0, _, _, _, h, _ => absurd h (Nat.not_lt_zero _)
 | n + 1, [], x, B, _, _ => by
  simp [zve, bub]
 | n + 1, y :: A, x, B, hn, hl => by
  simp only [List.length_cons] at hn hl
  have e1 : w64 (((y :: A).length : Int) - 1) = (A.length : Int) := by simp only [List.length_cons]; rw [zyy (by omega) (by omega)]; omega
  have p0 : ((y :: A).length : Int) > 0 := by simp only [List.length_cons]; omega
  have el : (y :: A).reverse ++ x :: B = A.reverse ++ y :: x :: B := by simp
  have len : (A.reverse ++ y :: x :: B).length = A.length + B.length + 2 := by simp; omega
  have g1 : (A.reverse ++ y :: x :: B).getD A.length 0 = y := by
   rw [zzn (by omega), List.getElem_append_right (by simp)]; simp
  have g2 : (A.reverse ++ y :: x :: B).getD (y :: A).length 0 = x := by
   rw [zzn (by simp only [List.length_cons]; omega), List.getElem_append_right (by simp)]; simp
  have p1 : A.length < (A.reverse ++ y :: x :: B).length := by omega
  have p2 : (y :: A).length < (A.reverse ++ y :: x :: B).length := by simp only [List.length_cons]; omega
  have s1 : (A.reverse ++ y :: x :: B).set A.length x = A.reverse ++ x :: x :: B := by
   rw [List.set_append_right _ _ (by simp)]
   simp
  have p3 : (y :: A).length < (A.reverse ++ x :: x :: B).length := by simp
  have s2 : (A.reverse ++ x :: x :: B).set (y :: A).length y = A.reverse ++ x :: y :: B := by
   rw [List.set_append_right _ _ (by simp)]
   have : (y :: A).length - A.reverse.length = 1 := by simp
   rw [this]; rfl
  rw [el]
  simp only [zve, p0, decide_true, cond_true, e1, Int.natCast_nonneg, Int.toNat_natCast, p1, p2, g1, g2]
  unfold bub
  by_cases hy : y > x
  ·simp only [hy, decide_true, cond_true, Option.bind_some, Sum.elim_inr, e1, Int.natCast_nonneg, Int.toNat_natCast, p1, p2, g1, g2, s1, p3, s2, if_true]
   exact sSort_in n A x (y :: B) (by omega) (by omega)
  ·simp only [hy, decide_false, cond_false, Option.bind_some, Sum.elim_inl, if_false, el]
theorem sSorted_ok {xs : List Int} (hl : xs.length ≤ 1000) : Fsl7Sorted N (xs, ()) = some (sortI xs, ()) := by
 have hlim : lim = 2147483648 := rfl
 have e := (zpq (xs := xs) (n := N) (fun (out : List Int) x => bub out.reverse x []) (fun i out => out.length = i) (L := fun n i out => zvd N n (xs, (i : Int), out, ())) (fin := fun out => (out, ())) (by omega)
  (fun n i out hi hw hI => by
   have hi' : (i : Int) < (xs.length : Int) := by omega
   have l1 : out.length + [xs[i]].length ≤ lim := by simp only [List.length_singleton]; omega
   have e2 := sSort_in (N := N) (xs := xs) (i := (i : Int)) N out.reverse xs[i] [] (by simp; omega) (by simp; omega)
   simp only [List.reverse_reverse, List.length_reverse] at e2
   refine ⟨?_, by have := (bub_perm out.reverse xs[i] []).length_eq; simp at this; simp only [this]; omega⟩
   simp only [zvd, hi', hi, decide_true, cond_true, Int.natCast_nonneg, Int.toNat_natCast, zzn hi, l1, e2, Option.bind_some, hw])
  (fun n out _ => by simp [zvd]) (by omega) (s := []) (by simp)).1
 simp only [Int.natCast_zero] at e
 have hp := isort_perm xs []
 have hs := isort_sorted xs [] List.Pairwise.nil
 rw [sortI_uniq (by simpa using hp) hs] at e
 simp only [Fsl7Sorted, e, Option.bind_some]
theorem sR_2 {s : Stx} {l : List Tgx} (C : Hp s l) {i : Nat} (hi : i < (stThr s).length) (hr : (stThr s)[i].1.length ≤ 1048576) {met : List Int} (hM : MetOk l met) :
  zyf N N (l, s, (i : Int), 0, met, ()) = (meetA l (stThr s)[i].1 met).bind fun m => some (l, s, (i : Int), m, ()) := by
 have hlim : lim = 2147483648 := rfl
 have hll : l.length ≤ 1048576 := by have := C.len; omega
 have hi1 : i < s.2.2.2.2.2.2.2.2.1.length := hi
 have eg : s.2.2.2.2.2.2.2.2.1.getD i ([], 0, false, 0, ()) = (stThr s)[i] := zzn hi
 have h := meet_loop C (rs := (stThr s)[i].1) (by omega) (L := fun n j met => zyf N n (l, s, (i : Int), (j : Int), met, ())) (yes := fun m => some (l, s, (i : Int), m, ())) (no := none)
  (fun n j met hj hm hw h0 => by
   have hj' : (j : Int) < ((stThr s)[i].1.length : Int) := by omega
   simp only [zyf, hi1, eg, hj', hj, decide_true, cond_true, Int.natCast_nonneg, Int.toNat_natCast, zzn hj, h0, sNow_zero hN, Option.bind_some, zua, if_true, hw])
  (fun n j met hj hm h0 hf => by
   have hj' : (j : Int) < ((stThr s)[i].1.length : Int) := by omega
   simp only [zyf, hi1, eg, hj', hj, decide_true, cond_true, Int.natCast_nonneg, Int.toNat_natCast, zzn hj, zqm, zu0, h0, if_false, sFind_none hN hll hf, Option.bind_some, show decide ((0 : Int) ≤ -1) = false from rfl, cond_false, Option.bind_none])
  (fun n j met hj u hm hw h0 hf hu hu0 hml => by
   have hml2 : met.length ≤ 1048576 := by have := C.met hm; omega
   have hj' : (j : Int) < ((stThr s)[i].1.length : Int) := by omega
   have l1 : met.length + [u.2.1].length ≤ lim := by simpa using hml
   simp only [zyf, hi1, eg, hj', hj, decide_true, cond_true, Int.natCast_nonneg, Int.toNat_natCast, zzn hj, sNow_some hN hll h0 hf, Option.bind_some, zua, hu0, if_false]
   by_cases hc : u.2.1 ∈ met
   ·obtain ⟨k, hk, _, e2⟩ := sPlace_in hN hml2 hc
    have : ¬ (k : Int) < 0 := by omega
    simp only [e2, Option.bind_some, this, decide_false, cond_false, hc, if_true, hw]
   ·simp only [sPlace_not hN hml2 hc, Option.bind_some, show decide ((-1 : Int) < 0) = true from rfl, cond_true, l1, decide_true, hc, if_false, hw])
  (fun n met hm => by simp [zyf, hi1, eg, -List.getD_eq_getElem?_getD]) (n := N) (by omega) hM
 simp only [Int.natCast_zero] at h
 rw [h]
 cases meetA l (stThr s)[i].1 met <;> rfl
theorem sR_0 {s : Stx} {l : List Tgx} (C : Hp s l) (hT : (stThr s).length ≤ 1048576) (hR : ∀ t ∈ stThr s, t.1.length ≤ 1048576) :
  ∀ (n i : Nat) (met : List Int), i ≤ (stThr s).length → (stThr s).length - i < n → MetOk l met → zvz N n (l, s, (i : Int), met, ()) = (meetA l (zvx ((stThr s).drop i)) met).bind fun m => some (l, s, m, ())
 | 0, _, _, _, h, _ => absurd h (Nat.not_lt_zero _)
 | n + 1, i, met, hi, hn, hM => by
  by_cases h : i < (stThr s).length
  ·have h' : (i : Int) < (s.2.2.2.2.2.2.2.2.1.length : Int) := by simp only [stThr] at h; omega
   have hw : w64 ((i : Int) + 1) = ((i + 1 : Nat) : Int) := zyn (by omega)
   have e2 := sR_2 hN C h (hR _ (List.getElem_mem h)) hM
   have er : zvx ((stThr s).drop i) = (stThr s)[i].1 ++ zvx ((stThr s).drop (i + 1)) := by rw [zt6 h]; rfl
   rw [er, zqg]
   simp only [zvz, h', decide_true, cond_true, e2]
   cases hq : meetA l (stThr s)[i].1 met with
   | none => rfl
   | some m =>
    simp only [Option.bind_some, hw]
    exact sR_0 C hT hR n (i + 1) m (by omega) (by omega) (hM.meet C.pw C.mv hq)
  ·have : i = (stThr s).length := by omega
   subst this
   simp [zvz, stThr, zvx, meetA]
theorem sR_4 {s : Stx} {l : List Tgx} (C : Hp s l) (hP : (zzo s).length ≤ 1048576) (hp : (zzo s).all (pinOk l s.2.1) = true) :
  ∀ (n i : Nat) (met : List Int), i ≤ (zzo s).length → (zzo s).length - i < n → MetOk l met → zw9 N n (l, s, (i : Int), met, ()) = (meetA l ((zzo s).drop i) met).bind fun m => some (l, m, ())
 | 0, _, _, _, h, _ => absurd h (Nat.not_lt_zero _)
 | n + 1, i, met, hi, hn, hM => by
  by_cases h : i < (zzo s).length
  ·have h' : (i : Int) < (s.2.2.2.2.2.2.2.2.2.2.1.length : Int) := by simp only [zzo] at h; omega
   have hu : i < s.2.2.2.2.2.2.2.2.2.2.1.length := h
   have hw : w64 ((i : Int) + 1) = ((i + 1 : Nat) : Int) := zyn (by omega)
   have eg : s.2.2.2.2.2.2.2.2.2.2.1.getD i 0 = (zzo s)[i] := zzn h
   have hpi := List.all_eq_true.1 hp _ (List.getElem_mem h)
   have hml : met.length ≤ 1048576 := by have := C.met hM; omega
   have ih := sR_4 C hP hp n (i + 1) (putA met (zzo s)[i]) (by omega) (by omega) (putA_ok C hM hpi)
   obtain ⟨t, h1, h2, _⟩ := pinOk_some hpi
   have hpos := C.now (zxt h1).1
   have h0 : ¬ (zzo s)[i] = 0 := by omega
   rw [zt6 h]
   simp only [zw9, h', hu, decide_true, cond_true, Int.natCast_nonneg, Int.toNat_natCast, eg, sPut_ok hN hml, Option.bind_some, hw, ih, meetA, h0, if_false, h1, h2]
   simp only [putA, h0, false_or]
  ·have : i = (zzo s).length := by omega
   subst this
   simp [zw9, zzo, meetA]
theorem sR_8 {s : Stx} {l : List Tgx} (C : Hp s l) {i : Int} {t : Tgx} (ht : t ∈ l) {met : List Int} (hM : MetOk l met) :
  zyg N N (l, i, 0, met, t.1, t.2.1, t.2.2.1.1, t.2.2.1.2.1, t.2.2.2.1, t.2.2.2.2.1, ()) = (meetA l t.2.2.2.1 met).bind fun m => some (l, i, m, ()) := by
 have hlim : lim = 2147483648 := rfl
 have hll : l.length ≤ 1048576 := by have := C.len; omega
 have hrl := C.refs ht
 have h := meet_loop C (rs := t.2.2.2.1) (by omega) (L := fun n j met => zyg N n (l, i, (j : Int), met, t.1, t.2.1, t.2.2.1.1, t.2.2.1.2.1, t.2.2.2.1, t.2.2.2.2.1, ())) (yes := fun m => some (l, i, m, ())) (no := none)
  (fun n j met hj hm hw h0 => by
   have hj' : (j : Int) < (t.2.2.2.1.length : Int) := by omega
   simp only [zyg, hj', hj, decide_true, cond_true, Int.natCast_nonneg, Int.toNat_natCast, zzn hj, h0, sNow_zero hN, Option.bind_some, zua, if_true, hw])
  (fun n j met hj hm h0 hf => by
   have hj' : (j : Int) < (t.2.2.2.1.length : Int) := by omega
   simp only [zyg, hj', hj, decide_true, cond_true, Int.natCast_nonneg, Int.toNat_natCast, zzn hj, zqm, zu0, h0, if_false, sFind_none hN hll hf, Option.bind_some, show decide ((0 : Int) ≤ -1) = false from rfl, cond_false, Option.bind_none])
  (fun n j met hj u hm hw h0 hf hu hu0 hml => by
   have hml2 : met.length ≤ 1048576 := by have := C.met hm; omega
   have hj' : (j : Int) < (t.2.2.2.1.length : Int) := by omega
   have l1 : met.length + [u.2.1].length ≤ lim := by simpa using hml
   simp only [zyg, hj', hj, decide_true, cond_true, Int.natCast_nonneg, Int.toNat_natCast, zzn hj, sNow_some hN hll h0 hf, Option.bind_some, zua, hu0, if_false]
   by_cases hc : u.2.1 ∈ met
   ·obtain ⟨k, hk, _, e2⟩ := sPlace_in hN hml2 hc
    have : ¬ (k : Int) < 0 := by omega
    simp only [e2, Option.bind_some, this, decide_false, cond_false, hc, if_true, hw]
   ·simp only [sPlace_not hN hml2 hc, Option.bind_some, show decide ((-1 : Int) < 0) = true from rfl, cond_true, l1, decide_true, hc, if_false, hw])
  (fun n met hm => by simp [zyg]) (n := N) (by omega) hM
 simp only [Int.natCast_zero] at h
 rw [h]
 cases meetA l t.2.2.2.1 met <;> rfl
theorem sR_6 {s : Stx} {l : List Tgx} (C : Hp s l) {met : List Int} (hM : MetOk l met) :
  zwn N N (l, 0, met, ()) = (zu5 l l.length 0 met).bind fun m => some (m, ()) := by
 have hlim : lim = 2147483648 := rfl
 have hll : l.length ≤ 1048576 := by have := C.len; omega
 have h := reach_loop C (L := fun n k met => zwn N n (l, (k : Int), met, ())) (yes := fun m => some (m, ())) (no := none)
  (fun n k met hk t hm hw hf ht e => by
   have hk' : (k : Int) < (met.length : Int) := by omega
   obtain ⟨q, hq, eq, e2⟩ := zrz hN hll hf
   simp only [zwn, hk', hk, decide_true, cond_true, Int.natCast_nonneg, Int.toNat_natCast, zzn hk, e2, Option.bind_some, hq, zzn hq, eq, sR_8 hN C (i := (k : Int)) ht hm]
   cases meetA l t.2.2.2.1 met with
   | none => rfl
   | some m => simp only [Option.bind_some, hw])
  (fun n met hm => by simp [zwn]) (n := N) (by omega) hM
 simp only [Int.natCast_zero] at h
 rw [h]
 cases zu5 l l.length 0 met <;> rfl
theorem heapOf_some {s : Stx} {l : List Tgx} {met : List Int} (h : zu9 s = some (l, met)) : Hp s l ∧ headOk s = true ∧ (stThr s).all thrOk = true ∧ (zzo s).all (pinOk l s.2.1) = true ∧ (meetA l (zvx (stThr s) ++ zzo s) []).bind (zu5 l l.length 0) = some met ∧ MetOk l met := by
 unfold zu9 at h
 cases hst : zu3 s with
 | none => rw [hst] at h; cases h
 | some l' =>
  rw [hst] at h
  simp only [Option.map_eq_some_iff, Prod.mk.injEq] at h
  obtain ⟨m, h1, rfl, rfl⟩ := h
  unfold metOf at h1
  split at h1
  ·rename_i hc
   simp only [Bool.and_eq_true] at hc
   have C : Hp s l' := ⟨hst, hc.1⟩
   refine ⟨C, hc.2.1, hc.2.2.1, hc.2.2.2, h1, ?_⟩
   cases hq : meetA l' (zvx (stThr s) ++ zzo s) [] with
   | none => rw [hq] at h1; cases h1
   | some m0 =>
    rw [hq] at h1
    exact (MetOk.nil.meet C.pw C.mv hq).reach C.pw C.mv h1
  ·cases h1
theorem sReached_ok {s : Stx} {l : List Tgx} {met : List Int} (hT : (stThr s).length ≤ 1048576) (hR : ∀ t ∈ stThr s, t.1.length ≤ 1048576) (hP : (zzo s).length ≤ 1048576) (h : zu9 s = some (l, met)) :
  Fsl7Reached N (s, l, ()) = some (met, ()) := by
 have hlim : lim = 2147483648 := rfl
 obtain ⟨C, _, _, hp, h1, _⟩ := heapOf_some hN h
 have e0 := sR_0 hN C hT hR N 0 [] (by omega) (by omega) MetOk.nil
 simp only [List.drop_zero, Int.natCast_zero] at e0
 rw [zqg] at h1
 cases hq : meetA l (zvx (stThr s)) [] with
 | none => rw [hq] at h1; cases h1
 | some m1 =>
  rw [hq] at h1 e0
  have hM1 : MetOk l m1 := MetOk.nil.meet C.pw C.mv hq
  have e4 := sR_4 hN C hP hp N 0 m1 (by omega) (by omega) hM1
  simp only [List.drop_zero, Int.natCast_zero] at e4
  simp only [Option.bind_some] at h1 e0
  cases hq2 : meetA l (zzo s) m1 with
  | none => rw [hq2] at h1; cases h1
  | some m2 =>
   rw [hq2] at h1 e4
   have hM2 : MetOk l m2 := hM1.meet C.pw C.mv hq2
   have e6 := sR_6 hN C hM2
   simp only [Option.bind_some] at h1 e4
   rw [h1] at e6
   simp only [Fsl7Reached, e0, e4, e6, Option.bind_some]
theorem sFullLive_ok {s : Stx} (b1 : s.1.length ≤ 1048576) (b2 : s.2.1.length ≤ 1048576) (b3 : s.2.2.1.length ≤ 1048576) (b4 : ∀ x ∈ s.1, -9223372036854775808 ≤ x ∧ x < 9223372036854775808) (b5 : ∀ x ∈ s.2.1, -9223372036854775808 ≤ x.2.1 ∧ x.2.1 < 9223372036854775808)
  (hT : (stThr s).length ≤ 1048576) (hR : ∀ t ∈ stThr s, t.1.length ≤ 1048576) (hP : (zzo s).length ≤ 1048576) :
  FsFullLive N (s, ()) = some (match zu9 s with | some p => (true, sortI p.2, ()) | none => (false, [], ())) := by
 simp only [FsFullLive, sStateOk_ok hN b1 b2 b3 b4 b5 hT hR hP, Option.bind_some]
 cases hh : zu9 s with
 | none => rfl
 | some p =>
  obtain ⟨l, met⟩ := p
  obtain ⟨C, _, _, _, _, hM⟩ := heapOf_some hN hh
  have hml := C.met hM
  have hta := (stThings_some C.th).2
  simp only [Option.isSome_some, Bool.not_true, cond_false, sl6Things_ok hN b1 b4 b2, hta, Option.bind_some, sReached_ok hN hT hR hP hh, sSorted_ok hN (show met.length ≤ 1000 by omega)]
end
section
variable {N : Nat}
theorem iWordsOk_ok {w : List Int} (hl : w.length ≤ 1048576) : FiWordsOk N (w, ()) = some (zsn w, ()) := by
 unfold FiWordsOk zsn
 dsimp only
 have e2 : Int.tmod (w.length : Int) 16 = ((w.length % 16 : Nat) : Int) := by rw [Int.tmod_eq_emod_of_nonneg (by omega)]; omega
 simp only [e2, show decide ((16 : Int) = 0) = false from rfl, cond_false, zu0]
 by_cases h : w.length % 16 = 0
 ·have h1 : ((w.length % 16 : Nat) : Int) = 0 := by omega
  have h2 : decide ((w.length : Int) ≥ 32) = decide (32 ≤ w.length) := by by_cases h3 : 32 ≤ w.length <;> simp [h3] <;> omega
  have h4 : decide ((w.length : Int) ≤ 192) = decide (w.length ≤ 192) := by by_cases h3 : w.length ≤ 192 <;> simp [h3] <;> omega
  rw [if_pos h1, h2, h4]
  cases decide (32 ≤ w.length) <;> simp [h]
 ·have h1 : ¬ ((w.length % 16 : Nat) : Int) = 0 := by omega
  rw [if_neg h1]
  simp [h]
theorem ifits_ok {w : List Int} {a n : Int} (hl : w.length ≤ 1048576) (h1 : 1 ≤ n) (h2 : n ≤ 1048576) : Fifits N (w, a, n, ()) = some (fitsB w a n, ()) := by
 unfold Fifits fitsB
 simp only [iWordsOk_ok hl, Option.bind_some]
 cases hw : zsn w with
 | false => simp
 | true =>
  by_cases h3 : 16 ≤ a
  ·by_cases h4 : a < (w.length : Int)
   ·have e2 : Int.tmod a 16 = a % 16 := Int.tmod_eq_emod_of_nonneg (by omega)
    have e3 : w64 (a % 16 + n) = a % 16 + n := zyy (by omega) (by omega)
    simp [h1, h3, h4, e2, e3]
   ·simp [h3, h4]
  ·simp [h3]
theorem iShapeOk_ok {s : Shx} : FiShapeOk N (s, ()) = some (shOk s, ()) := by
 unfold FiShapeOk shOk
 dsimp only
 by_cases h1 : 0 ≤ s.1 <;> by_cases h2 : s.1 ≤ 4 <;> by_cases h3 : 0 ≤ s.2.1 <;> simp [h1, h2, h3]
theorem iShapeSize_ok {s : Shx} : FiShapeSize N (s, ()) = some (shSz s, ()) := by
 unfold FiShapeSize shSz
 simp only [iShapeOk_ok, Option.bind_some]
 cases h : shOk s with
 | false => simp
 | true =>
  have := zsz.1 h
  have e1 : w64 (2 + s.1) = 2 + s.1 := zyy (by omega) (by omega)
  have e2 : w64 (2 + s.1 + s.2.1) = 2 + s.1 + s.2.1 := zyy (by omega) (by omega)
  simp only [Bool.not_true, cond_false, e1, e2, if_true]
end
section
variable {N : Nat} (hN : lim < N)
theorem iRegionBase_ok {r : Int} : ztt N (r, ()) = some (regBase r, ()) := by
 unfold ztt regBase
 dsimp only
 by_cases h1 : r < 0
 ·simp [h1]
 ·by_cases h2 : r ≥ 12
  ·simp only [h1, h2, decide_true, decide_false, cond_true, cond_false, or_true, if_true]
  ·have e : w64 (r * 16) = 16 * r := by rw [zyy (by omega) (by omega)]; omega
   simp only [h1, h2, decide_false, cond_false, or_self, if_false, e]
include hN
end
section
variable {N : Nat} (hN : lim < N)
include hN
theorem kClone_ok {xs : List Int} (hl : xs.length ≤ lim) : zxx N (xs, ()) = some (xs, ()) := by
 cases xs with
 | nil =>
  simp only [zxx, List.isEmpty_nil, cond_true]
  refine anyOf_eq (by omega) fun i _ => ?_
  cases hi : (i == 0) <;> simp
 | cons x xs =>
  have hl' : xs.length + 1 ≤ lim := by simpa using hl
  simp [zxx, hl']
end
section
variable {N : Nat} (hN : lim < N)
include hN
theorem iRegion_ok_ok {x : Rgx} {i : Nat} (hi : i < 12) : FiRegion_ok N (x, (i : Int), ()) = some (rowOk i x, ()) := by
 have eb : regBase (i : Int) = 16 * (i : Int) := by unfold regBase; rw [if_neg (by omega)]
 obtain ⟨k, o, tp, ta, lv, ⟨⟩⟩ := x
 have w1 : w64 (16 * (i : Int) + 16) = 16 * (i : Int) + 16 := zyy (by omega) (by omega)
 have hiff := rowOk_iff (i := i) (x := (k, o, tp, ta, lv, ()))
 dsimp only at hiff
 unfold FiRegion_ok
 simp only [iRegionBase_ok, eb, Option.bind_some, w1]
 generalize rowOk i (k, o, tp, ta, lv, ()) = rv at hiff ⊢
 have no : ¬ (rv = true) → rv = false := by simp
 by_cases h1 : k < 1
 ·rw [no (by rw [hiff]; omega)]; simp [h1]
 by_cases h2 : k > 4
 ·rw [no (by rw [hiff]; omega)]; simp [h1, h2]
 by_cases h3 : tp < 16 * (i : Int)
 ·rw [no (by rw [hiff]; omega)]; simp [h1, h2, h3]
 by_cases h4 : tp > 16 * (i : Int) + 16
 ·rw [no (by rw [hiff]; omega)]; simp [h1, h2, h3, h4]
 by_cases h5 : ta < 16 * (i : Int)
 ·rw [no (by rw [hiff]; omega)]; simp [h1, h2, h3, h4, h5]
 by_cases h6 : ta > tp
 ·rw [no (by rw [hiff]; omega)]; simp [h1, h2, h3, h4, h5, h6]
 by_cases h7 : lv < 0
 ·rw [no (by rw [hiff]; omega)]; simp [h1, h2, h3, h4, h5, h6, h7]
 have w2 : w64 (tp - 16 * (i : Int)) = tp - 16 * (i : Int) := zyy (by omega) (by omega)
 by_cases h8 : lv > tp - 16 * (i : Int)
 ·rw [no (by rw [hiff]; omega)]; simp [h1, h2, h3, h4, h5, h6, h7, w2, h8]
 simp only [h1, h2, h3, h4, h5, h6, h7, h8, w2, decide_false, cond_false, Option.bind_some, Sum.elim_inl, zu0, zua]
 by_cases k1 : k = 1
 ·have k2 : ¬ k = 2 := by omega
  by_cases h9 : tp = 16 * (i : Int)
  ·simp only [k1, h9, if_true, Option.bind_some, Sum.elim_inl, show ¬ (1 : Int) = 2 by omega, if_false]
   by_cases h10 : o = -1
   ·rw [(hiff.2 (by omega))]; simp [h10]
   ·rw [no (by rw [hiff]; omega)]; simp [h10]
  ·simp only [k1, h9, if_true, if_false, Option.bind_some, Sum.elim_inr]
   rw [no (by rw [hiff]; omega)]
 ·simp only [k1, if_false, Option.bind_some, Sum.elim_inl]
  by_cases k2 : k = 2
  ·simp only [k2, if_true]
   by_cases h10 : o ≥ 0
   ·by_cases h11 : o ≤ 3
    ·rw [hiff.2 (by omega)]; simp [h10, h11]
    ·rw [no (by rw [hiff]; omega)]; simp [h10, h11]
   ·rw [no (by rw [hiff]; omega)]; simp [h10]
  ·simp only [k2, if_false]
   by_cases h10 : o = -1
   ·rw [hiff.2 (by omega)]; simp [h10]
   ·rw [no (by rw [hiff]; omega)]; simp [h10]
theorem iTable_loop {t : List Rgx} (hl : t.length ≤ 12) : ∀ (k n i : Nat) (m : List (Int × Bool)), 1 ≤ i → i + k = t.length → k < n → (∀ o, 0 ≤ o → (mget m o).getD false = hadO t i o) →
  zy1 N n (t, (t.length : Int), (i : Int), m, ()) = some (if tblGo t k i = true then .inl () else .inr (false, ()))
 | 0, n, i, m, _, he, hn, _ => by
  obtain ⟨n, rfl⟩ : ∃ n', n = n' + 1 := ⟨n - 1, by omega⟩
  have : ¬ (i : Int) < (t.length : Int) := by omega
  simp [zy1, this, tblGo]
 | k + 1, n, i, m, h1, he, hn, hm => by
  obtain ⟨n, rfl⟩ : ∃ n', n = n' + 1 := ⟨n - 1, by omega⟩
  have hlt : i < t.length := by omega
  have hlt' : (i : Int) < (t.length : Int) := by omega
  have i0 : ¬ (i : Int) = 0 := by omega
  have e1 : w64 ((i : Int) + 1) = ((i + 1 : Nat) : Int) := zyn (by omega)
  have eg : t.getD i (0, 0, 0, 0, 0, ()) = t.getD i rg0 := rfl
  unfold zy1 tblGo
  dsimp only
  have eta : ∀ x : Rgx, (x.1, x.2.1, x.2.2.1, x.2.2.2.1, x.2.2.2.2.1, ()) = x := fun x => rfl
  simp only [hlt', hlt, decide_true, cond_true, Int.natCast_nonneg, Int.toNat_natCast, eg, zu0, i0, if_false, eta, iRegion_ok_ok hN (show i < 12 by omega), Option.bind_some]
  cases hr : rowOk i (t.getD i rg0) with
  | false => simp
  | true =>
   have hm' : ∀ o, 0 ≤ o → (mget (mset m (t.getD i rg0).2.1 true) o).getD false = hadO t (i + 1) o := by
    intro o ho
    rw [mget_mset, hadO_succ h1 hlt, ← hm o ho]
    by_cases e : o = (t.getD i rg0).2.1
    ·rw [if_pos e]; simp [e]
    ·have : ¬ (t.getD i rg0).2.1 = o := fun h => e h.symm
     rw [if_neg e]; simp [-List.getD_eq_getElem?_getD, this]
   have ih := iTable_loop hl k n (i + 1) _ (by omega) (by omega) (by omega) hm'
   simp only [Bool.not_true, cond_false, e1, Bool.true_and]
   generalize t.getD i rg0 = x at *
   by_cases ho : x.2.1 ≥ 0
   ·rw [hm _ ho]
    cases hh : hadO t i x.2.1 with
    | true =>
     have : decide (0 ≤ x.2.1) = true := by simpa using ho
     simp [ho, this]
    | false =>
     simp only [ho, decide_true, cond_true, cond_false, ih, Bool.and_false, Bool.not_false, Bool.true_and]
   ·have : decide (0 ≤ x.2.1) = false := by simp; omega
    simp only [ho, decide_false, cond_false, ih, this, Bool.false_and, Bool.not_false, Bool.true_and]
theorem iTableOk_ok {t : List Rgx} (hl : t.length ≤ 1048576) : FiTableOk N (t, ()) = some (tableOk t, ()) := by
 have hlim : lim = 2147483648 := rfl
 unfold FiTableOk tableOk
 by_cases h1 : (t.length : Int) < 2
 ·have : ¬ 2 ≤ t.length := by omega
  simp [h1, this]
 by_cases h2 : (t.length : Int) > 12
 ·have : ¬ t.length ≤ 12 := by omega
  simp [h1, h2, this]
 have h3 : 2 ≤ t.length := by omega
 have h4 : t.length ≤ 12 := by omega
 have h5 : 0 < t.length := by omega
 have hL := iTable_loop hN h4 (t.length - 1) (N - 1) 1 (mset [] (t.getD 0 rg0).2.1 true)
 simp only [h1, h2, h3, h4, h5, decide_true, decide_false, cond_true, cond_false, Bool.true_and, Fiedge, Option.bind_some, show (0 : Int).toNat = 0 from rfl, Int.le_refl]
 have eg : t.getD 0 (0, 0, 0, 0, 0, ()) = t.getD 0 rg0 := rfl
 rw [eg]
 have hedge : (((t.getD 0 rg0).1 == 0) && (((t.getD 0 rg0).2.1 == -1) && (((t.getD 0 rg0).2.2.1 == 0) && (((t.getD 0 rg0).2.2.2.1 == 0) && (((t.getD 0 rg0).2.2.2.2.1 == 0) && true))))) = decide (t.getD 0 rg0 = edgeRow) := by
  generalize t.getD 0 rg0 = x
  obtain ⟨a, b, c, d, e, ⟨⟩⟩ := x
  simp only [edgeRow, Prod.mk.injEq, and_true, Bool.and_true, Bool.decide_and, ibeq]
 rw [hedge]
 by_cases he : t.getD 0 rg0 = edgeRow
 ·have hN1 : N = (N - 1) + 1 := by omega
  have hL0 : zy1 N N (t, (t.length : Int), 0, [], ()) = some (if tblGo t (t.length - 1) 1 = true then .inl () else .inr (false, ())) := by
   have key : ∀ n, zy1 N (n + 1) (t, (t.length : Int), 0, [], ()) = zy1 N n (t, (t.length : Int), 1, [], ()) := by
    intro n
    have h6 : (0 : Int) < (t.length : Int) := by omega
    simp [zy1, h6, h5, zyy]
   rw [show zy1 N N = zy1 N ((N - 1) + 1) by rw [← hN1], key]
   have := iTable_loop hN h4 (t.length - 1) (N - 1) 1 [] (by omega) (by omega) (by omega) (fun o _ => by simp [mget, hadO])
   simpa using this
  simp only [he, decide_true, Bool.not_true, cond_false, Option.bind_some, Sum.elim_inl, hL0, Bool.true_and]
  cases tblGo t (t.length - 1) 1 <;> rfl
 ·simp only [he, decide_false, Bool.not_false, cond_true, Option.bind_some, Sum.elim_inr, Bool.false_and]
theorem iState_whole_ok {s : Stx} (hl : s.1.length ≤ 1048576) (ht : s.2.1.length ≤ 1048576) (hm : s.2.2.1.length ≤ 1048576) : zoy N (s, ()) = some (wholeB s.1 s.2.1 s.2.2.1, ()) := by
 unfold zoy wholeB
 simp only [iWordsOk_ok hl, Option.bind_some]
 cases hw : zsn s.1 with
 | false => simp
 | true =>
  simp only [cond_true, iTableOk_ok hN ht, Option.bind_some, Bool.true_and]
  cases ht2 : tableOk s.2.1 with
  | false => simp
  | true =>
   have hwo := wordsOk_iff.1 hw
   have e1 : w64 (Int.tdiv (s.1.length : Int) 16) = ((s.1.length / 16 : Nat) : Int) := by
    rw [Int.tdiv_eq_ediv_of_nonneg (by omega), zyy (by omega) (by omega)]; omega
   simp only [cond_true, show decide ((16 : Int) = 0) = false from rfl, cond_false, e1, zu0, Bool.true_and]
   by_cases h1 : s.2.1.length * 16 = s.1.length
   ·have h2 : (s.2.1.length : Int) = ((s.1.length / 16 : Nat) : Int) := by omega
    have h3 : ((s.2.2.1.length : Int) == (s.1.length : Int)) = decide (s.2.2.1.length = s.1.length) := by
     by_cases h4 : s.2.2.1.length = s.1.length
     ·simp [h4]
     ·have : ¬ (s.2.2.1.length : Int) = (s.1.length : Int) := by omega
      simp [h4, this]
    rw [if_pos h2, h3]
    simp [h1]
   ·have h2 : ¬ (s.2.1.length : Int) = ((s.1.length / 16 : Nat) : Int) := by omega
    rw [if_neg h2]
    simp [h1]
end
section
variable {N : Nat} (hN : lim < N)
theorem iShapeOf_ok {w : Int} (hw : w < 9223372036854775808) (hw' : -9223372036854775808 ≤ w) : FiShapeOf N (w, ()) = some (match shOf w with | some s => (s.1, s.2.1, true, ()) | none => (0, 0, false, ())) := by
 unfold FiShapeOf shOf
 dsimp only
 by_cases h0 : w < 0
 ·have : ¬ 0 ≤ w := by omega
  simp [h0, this]
 ·have h0' : 0 ≤ w := by omega
  have e1 : w64 (Int.tdiv w 16) = w / 16 := by
   rw [Int.tdiv_eq_ediv_of_nonneg h0', zyy (by omega) (by omega)]
  have e2 : Int.tmod w 16 = w % 16 := Int.tmod_eq_emod_of_nonneg h0'
  simp only [h0, h0', decide_false, cond_false, show decide ((16 : Int) = 0) = false from rfl, e1, e2, iShapeOk_ok, Option.bind_some, true_and]
  by_cases h1 : w / 16 ≤ 4 ∧ w % 16 ≤ 4
  ·have : shOk ((w / 16, w % 16, ()) : Shx) = true := zsz.2 (by dsimp only; omega)
   rw [this, if_pos h1]
   rfl
  ·have : shOk ((w / 16, w % 16, ()) : Shx) = false := by
    cases h : shOk ((w / 16, w % 16, ()) : Shx) with
    | false => rfl
    | true => have := zsz.1 h; dsimp only at this; omega
   rw [this, if_neg h1]
   rfl
theorem iThing_size_ok {t : Tgx} : zq7 N (t, ()) = some (shSz t.2.2.1, ()) := by
 simp only [zq7, iShapeSize_ok, Option.bind_some]
include hN
theorem iThingAt_ok {w : List Int} {a : Int} (hl : w.length ≤ 1048576) (hw : ∀ x ∈ w, -9223372036854775808 ≤ x ∧ x < 9223372036854775808) :
  FiThingAt_r_ N (w, a, ()) = some (match zqt w a with | some t => (t.1, t.2.1, t.2.2.1.1, t.2.2.1.2.1, t.2.2.2.1, t.2.2.2.2.1, true, ()) | none => (0, 0, 0, 0, [], [], false, ())) := by
 have hlim : lim = 2147483648 := rfl
 unfold FiThingAt_r_ zqt
 simp only [ifits_ok hl (show (1 : Int) ≤ 2 by omega) (show (2 : Int) ≤ 1048576 by omega), Option.bind_some]
 cases hf : fitsB w a 2 with
 | false => simp
 | true =>
  obtain ⟨f1, f2, f3, f4, f5⟩ := fitsB_iff.1 hf
  obtain ⟨g1, g2, g3⟩ := fits_room hf
  have e1 : w64 (a + 1) = a + 1 := zyy (by omega) (by omega)
  have p1 : (0 : Int) ≤ a + 1 := by omega
  have p2 : (a + 1).toNat < w.length := by omega
  have hx := hw _ (List.getElem_mem p2)
  rw [← zzn (d := 0) p2] at hx
  simp only [Bool.not_true, cond_false, e1, p1, p2, decide_true, cond_true, iShapeOf_ok hx.2 hx.1, Option.bind_some, if_true]
  cases hs : shOf (w.getD (a + 1).toNat 0) with
  | none => simp
  | some s =>
   obtain ⟨h1, _⟩ := shOf_some hs
   have h2 := zsz.1 h1
   obtain ⟨sr, sm, ⟨⟩⟩ := s
   have h3 : shSz (sr, sm, ()) = 2 + sr + sm := by unfold shSz; rw [if_pos h1]
   dsimp only at h2 ⊢
   simp only [Bool.not_true, cond_false, iShapeSize_ok, Option.bind_some, ifits_ok hl (show 1 ≤ shSz (sr, sm, ()) by omega) (show shSz (sr, sm, ()) ≤ 1048576 by omega)]
   cases hf2 : fitsB w a (shSz (sr, sm, ())) with
   | false => simp
   | true =>
    obtain ⟨q1, q2, q3⟩ := fits_room hf2
    obtain ⟨r, rfl⟩ := Int.eq_ofNat_of_zero_le h2.1
    obtain ⟨m, rfl⟩ := Int.eq_ofNat_of_zero_le h2.2.2.1
    obtain ⟨b, rfl⟩ := Int.eq_ofNat_of_zero_le (show 0 ≤ a by omega)
    have p3 : b < w.length := by omega
    have c1 : w64 ((b : Int) + 2) = ((b + 2 : Nat) : Int) := by rw [zyy (by omega) (by omega)]; omega
    have c2 : w64 (((b + 2 : Nat) : Int) + (r : Int)) = ((b + 2 + r : Nat) : Int) := by rw [zyy (by omega) (by omega)]; omega
    have c3 : w64 (((b + 2 + r : Nat) : Int) + (m : Int)) = ((b + 2 + r + m : Nat) : Int) := by rw [zyy (by omega) (by omega)]; omega
    have d1 : ((b + 2 + r : Nat) : Int) ≤ (w.length : Int) := by omega
    have d2 : ((b + 2 + r + m : Nat) : Int) ≤ (w.length : Int) := by omega
    have d3 : ((b + 2 : Nat) : Int) ≤ ((b + 2 + r : Nat) : Int) := by omega
    have d4 : ((b + 2 + r : Nat) : Int) ≤ ((b + 2 + r + m : Nat) : Int) := by omega
    have d5 : b + 2 + r - (b + 2) = r := by omega
    have d6 : b + 2 + r + m - (b + 2 + r) = m := by omega
    have k1 := kClone_ok hN (xs := (w.drop (b + 2)).take r) (by simp only [List.length_take, List.length_drop]; omega)
    have k2 := kClone_ok hN (xs := (w.drop (b + 2 + r)).take m) (by simp only [List.length_take, List.length_drop]; omega)
    simp only [Bool.not_true, cond_false, Option.bind_some, Sum.elim_inl, c1, c2, c3, Int.natCast_nonneg, Int.toNat_natCast, p3, decide_true, cond_true, d1, d2, d3, d4, d5, d6, k1, k2, if_true]
theorem iThings_loop {w : List Int} {top : Int} (hl : w.length ≤ 1048576) (hw : ∀ x ∈ w, -9223372036854775808 ≤ x ∧ x < 9223372036854775808) (ht : top ≤ 208) : ∀ (k n : Nat) (a : Int) (acc : List Tgx), 0 ≤ a → (top - a).toNat < 2 * k → k ≤ n → acc.length + k ≤ 1048576 →
  zul N n (w, top, a, acc, ()) = some (match zwh w top k a with | some l => .inl (acc ++ l, ()) | none => .inr (false, [], ()))
 | 0, _, _, _, _, h, _, _ => absurd h (Nat.not_lt_zero _)
 | k + 1, 0, _, _, _, _, h, _ => absurd h (by omega)
 | k + 1, n + 1, a, acc, h0, hk, hn, hacc => by
  have hlim : lim = 2147483648 := rfl
  unfold zul zwh
  dsimp only
  by_cases h : a < top
  ·simp only [h, decide_true, cond_true, iThingAt_ok hN hl hw, Option.bind_some, if_true]
   cases hta : zqt w a with
   | none => simp
   | some t =>
    obtain ⟨e1, e2, e3, e4, e5, e6, e7, e8⟩ := zuo hta
    obtain ⟨t1, t2, ⟨t3, t4, ⟨⟩⟩, t5, t6, ⟨⟩⟩ := t
    have e9 : 2 ≤ shSz (t3, t4, ()) ∧ shSz (t3, t4, ()) ≤ 10 := ⟨e7, e8⟩
    clear e3 e5 e6 e7 e8
    dsimp only at e1 e2 ⊢
    have w1 : w64 (a + shSz (t3, t4, ())) = a + shSz (t3, t4, ()) := zyy (by omega) (by omega)
    simp only [Bool.not_true, cond_false, iThing_size_ok, Option.bind_some, w1]
    by_cases hgt : a + shSz (t3, t4, ()) > top
    ·simp only [hgt, decide_true, cond_true, Option.bind_some, Sum.elim_inr, if_true]
    ·have l : acc.length + [((t1, t2, (t3, t4, ()), t5, t6, ()) : Tgx)].length ≤ lim := by simp only [List.length_cons, List.length_nil]; omega
     have ih := iThings_loop hl hw ht k n (a + shSz (t3, t4, ())) (acc ++ [(t1, t2, (t3, t4, ()), t5, t6, ())]) (by omega) (by omega) (by omega) (by simp only [List.length_append, List.length_cons, List.length_nil]; omega)
     simp only [hgt, decide_false, cond_false, Option.bind_some, Sum.elim_inl, l, decide_true, cond_true, w1, ih, if_false]
     cases zwh w top k (a + shSz (t3, t4, ())) <;> simp
  ·simp only [h, decide_false, cond_false, if_false, List.append_nil]
theorem iThingsIn_ok {w : List Int} {r top : Int} (hl : w.length ≤ 1048576) (hw : ∀ x ∈ w, -9223372036854775808 ≤ x ∧ x < 9223372036854775808) :
  FiThingsIn N (w, r, top, ()) = some (match thingsIn w r top with | some l => (true, l, ()) | none => (false, [], ())) := by
 have hlim : lim = 2147483648 := rfl
 unfold FiThingsIn thingsIn
 simp only [iWordsOk_ok hl, Option.bind_some]
 cases hwo : zsn w with
 | false => simp
 | true =>
  have hwo' := wordsOk_iff.1 hwo
  have e1 : w64 (Int.tdiv (w.length : Int) 16) = ((w.length / 16 : Nat) : Int) := by
   rw [Int.tdiv_eq_ediv_of_nonneg (by omega), zyy (by omega) (by omega)]; omega
  by_cases h1 : r < 1
  ·have : ¬ 1 ≤ r := by omega
   simp [h1, this]
  ·have h1' : 1 ≤ r := by omega
   by_cases h2 : r ≥ ((w.length / 16 : Nat) : Int)
   ·have : ¬ r < ((w.length / 16 : Nat) : Int) := by omega
    simp only [h1, h1', h2, this, e1, Bool.not_true, cond_false, decide_true, decide_false, cond_true, show decide ((16 : Int) = 0) = false from rfl, Option.bind_some, Sum.elim_inr, and_false, false_and, true_and, if_false]
   ·have h2' : r < ((w.length / 16 : Nat) : Int) := by omega
    have e2 : regBase r = 16 * r := by unfold regBase; rw [if_neg (by omega)]
    have e3 : w64 (16 * r + 16) = 16 * r + 16 := zyy (by omega) (by omega)
    simp only [h1, h1', h2, h2', e1, e2, e3, Bool.not_true, cond_false, decide_true, decide_false, cond_true, show decide ((16 : Int) = 0) = false from rfl, iRegionBase_ok, Option.bind_some, true_and]
    by_cases h3 : top < 16 * r
    ·have : ¬ 16 * r ≤ top := by omega
     simp only [h3, this, decide_true, cond_true, Option.bind_some, Sum.elim_inr, false_and, if_false]
    ·have h3' : 16 * r ≤ top := by omega
     by_cases h4 : top > 16 * r + 16
     ·have : ¬ top ≤ 16 * r + 16 := by omega
      simp only [h3, h4, this, decide_true, decide_false, cond_true, cond_false, Option.bind_some, Sum.elim_inr, and_false, if_false]
     ·have h4' : top ≤ 16 * r + 16 := by omega
      have hL := iThings_loop hN (top := top) hl hw (by omega) 17 N (16 * r) [] (by omega) (by omega) (by omega) (by simp)
      simp only [h3, h3', h4, h4', decide_false, cond_false, Option.bind_some, Sum.elim_inl, e2, hL, and_self, if_true, List.nil_append]
      cases zwh w top 17 (16 * r) <;> rfl
theorem iThings_put {s : Stx} {i : Int} {l : List Tgx} (hl : l.length ≤ 1048576) (hp : l.Pairwise (fun x y => x.1 < y.1)) {pre : List Tgx} (hpre : ∀ x ∈ pre, ∀ y ∈ l, x.1 < y.1) :
  zxz N N (s, i, (l.length : Int), 0, tmap pre, l, ()) = some (s, i, tmap (pre ++ l), ()) := by
 have hlim : lim = 2147483648 := rfl
 have key : ∀ (n j : Nat), j ≤ l.length → l.length - j < n → zxz N n (s, i, (l.length : Int), (j : Int), tmap (pre ++ l.take j), l, ()) = some (s, i, tmap (pre ++ l), ()) := by
  intro n
  induction n with
  | zero => intro j _ h; exact absurd h (Nat.not_lt_zero _)
  | succ n ih =>
   intro j hj hn
   unfold zxz
   dsimp only
   by_cases h : j < l.length
   ·have h' : (j : Int) < (l.length : Int) := by omega
    have e1 : w64 ((j : Int) + 1) = ((j + 1 : Nat) : Int) := zyn (by omega)
    have e2 : mset (tmap (pre ++ l.take j)) l[j].1 l[j] = tmap (pre ++ l.take (j + 1)) := by
     rw [tmap_push, List.append_assoc, ← List.take_succ_eq_append_getElem h]
     intro x hx
     rcases List.mem_append.1 hx with hx | hx
     ·exact hpre x hx _ (List.getElem_mem h)
     ·obtain ⟨q, hq, rfl⟩ := List.getElem_of_mem hx
      simp only [List.length_take] at hq
      rw [List.getElem_take]
      exact List.pairwise_iff_getElem.1 hp q j (by omega) h (by omega)
    have eta : ∀ t : Tgx, (t.1, t.2.1, (t.2.2.1.1, t.2.2.1.2.1, ()), t.2.2.2.1, t.2.2.2.2.1, ()) = t := fun t => rfl
    simp only [h', h, decide_true, cond_true, Int.natCast_nonneg, Int.toNat_natCast, zzn h, e1, eta, e2]
    exact ih (j + 1) (by omega) (by omega)
   ·have : j = l.length := by omega
    subst this
    simp
 have := key N 0 (by omega) (by omega)
 simpa using this
theorem iState_things_ok {s : Stx} (hl : s.1.length ≤ 1048576) (hw : ∀ x ∈ s.1, -9223372036854775808 ≤ x ∧ x < 9223372036854775808) (ht : s.2.1.length ≤ 1048576) (hm : s.2.2.1.length ≤ 1048576) :
  zr8 N (s, ()) = some (match (if wholeB s.1 s.2.1 s.2.2.1 = true then zu4 s.1 s.2.1 else none) with | some l => (tmap l, true, ()) | none => ([], false, ())) := by
 have hlim : lim = 2147483648 := rfl
 unfold zr8
 simp only [iState_whole_ok hN hl ht hm, Option.bind_some]
 cases hwh : wholeB s.1 s.2.1 s.2.2.1 with
 | false => simp
 | true =>
  have key : ∀ (k n i : Nat) (acc : List Tgx), 1 ≤ i → s.2.1.length ≤ i + k → (i ≤ s.2.1.length ∨ k = 0) → (k = 0 ∨ i + k = s.2.1.length) → k < n → (∀ x ∈ acc, x.1 < 16 * (i : Int)) →
    zxy N n (s, (i : Int), tmap acc, ()) = some (match zts s.1 s.2.1 k i with | some l => .inl (tmap (acc ++ l), ()) | none => .inr (false, ())) := by
   intro k
   induction k with
   | zero =>
    intro n i acc hi hlen _ _ hn _
    obtain ⟨n, rfl⟩ : ∃ n', n = n' + 1 := ⟨n - 1, by omega⟩
    have : ¬ (i : Int) < (s.2.1.length : Int) := by omega
    simp [zxy, this, zts]
   | succ k ih =>
    intro n i acc hi hlen h1 h2 hn hacc
    obtain ⟨n, rfl⟩ : ∃ n', n = n' + 1 := ⟨n - 1, by omega⟩
    have hlt : i < s.2.1.length := by omega
    have hlt' : (i : Int) < (s.2.1.length : Int) := by omega
    have e1 : w64 ((i : Int) + 1) = ((i + 1 : Nat) : Int) := zyn (by omega)
    unfold zxy zts
    dsimp only
    simp only [hlt', hlt, decide_true, cond_true, Int.natCast_nonneg, Int.toNat_natCast, iThingsIn_ok hN hl hw, Option.bind_some]
    have eg : s.2.1.getD i (0, 0, 0, 0, 0, ()) = s.2.1.getD i rg0 := rfl
    rw [eg]
    cases hti : thingsIn s.1 (i : Int) (s.2.1.getD i rg0).2.2.1 with
    | none => simp
    | some l =>
     obtain ⟨c1, c2, c3, _⟩ := thingsIn_at hti
     have e2 := iThings_put hN (s := s) (i := (i : Int)) (l := l) (by omega) c1 (pre := acc) (fun x hx y hy => by have := hacc x hx; have := (c2 y hy).1; omega)
     have ih := ih n (i + 1) (acc ++ l) (by omega) (by omega) (by omega) (by omega) (by omega) (fun x hx => by
      rcases List.mem_append.1 hx with hx | hx
      ·have := hacc x hx; omega
      ·have := c2 x hx; omega)
     simp only [Bool.not_true, cond_false, e2, Option.bind_some, e1, ih]
     cases zts s.1 s.2.1 k (i + 1) <;> simp
  have := key (s.2.1.length - 1) N 1 [] (by omega) (by omega) (by have := tableOk_iff (zoo.1 hwh).2.1; omega) (by have := tableOk_iff (zoo.1 hwh).2.1; omega) (by omega) (by simp)
  have e0 : tmap [] = [] := rfl
  simp only [Int.natCast_one, e0, List.nil_append] at this
  unfold zu4
  simp only [Bool.not_true, cond_false, this, Option.bind_some, if_true]
  cases zts s.1 s.2.1 (s.2.1.length - 1) 1 <;> rfl
end
section
variable {N : Nat} (hN : lim < N)
theorem iRegionOf_ok {a : Int} (h : a < 9223372036854775808) : FiRegionOf N (a, ()) = some (regOf a, ()) := by
 unfold FiRegionOf regOf
 dsimp only
 by_cases h0 : a < 0
 ·simp [h0]
 ·have e1 : w64 (Int.tdiv a 16) = a / 16 := by
   rw [Int.tdiv_eq_ediv_of_nonneg (by omega), zyy (by omega) (by omega)]
  simp only [h0, decide_false, cond_false, show decide ((16 : Int) = 0) = false from rfl, e1, if_false]
theorem iState_from_ok {s : Stx} {a : Int} (h0 : 0 ≤ a) (h1 : a < 192) (h2 : (a / 16).toNat < s.2.1.length) : zs8 N (s, a, ()) = some (fromB s.2.1 a, ()) := by
 have e : regOf a = a / 16 := by unfold regOf; rw [if_neg (by omega)]
 have h3 : a / 16 ≥ 0 := by omega
 have h4 : a / 16 < (s.2.1.length : Int) := by omega
 have eg : s.2.1.getD (a / 16).toNat (0, 0, 0, 0, 0, ()) = s.2.1.getD (a / 16).toNat rg0 := rfl
 simp only [zs8, iRegionOf_ok (show a < 9223372036854775808 by omega), e, Option.bind_some, h3, h4, h2, decide_true, cond_true, eg, fromB, ibeq]
include hN
theorem iState_settled_ok {s : Stx} {l : List Tgx} (hw : wholeB s.1 s.2.1 s.2.2.1 = true) (hta : zu4 s.1 s.2.1 = some l) : zs7 N (s, tmap l, ()) = some (l.all (movOk l s.2.1), ()) := by
 have hlim : lim = 2147483648 := rfl
 have ht2 := tableOk_iff (zoo.1 hw).2.1
 obtain ⟨a1, a2, a3⟩ := thingsAll_at hta
 have hr := thing_rng hw hta
 have hL := anyall_loop (P := fun p : Int × Tgx => p.2 ∈ l) (fun p => movOk l s.2.1 p.2) (L := fun n rest => zym N n (tmap l, s, rest, ())) (yes := .inl ()) (no := .inr (false, ()))
  (fun n => by simp [zym])
  (fun n rest hne hP => by
   have he : rest.isEmpty = false := by cases rest with | nil => exact absurd rfl hne | cons => rfl
   rw [zym]
   simp only [he, cond_false]
   refine ⟨_, rfl, fun i h => ?_⟩
   have hm : rest[i].2 ∈ l := hP _ (List.getElem_mem h)
   have hg : mget (tmap l) rest[i].2.2.1 = findT l rest[i].2.2.1 := tmap_get
   have r1 := hr _ hm
   have f1 := iState_from_ok (N := N) (s := s) (a := rest[i].2.1) (by omega) r1.2.1 r1.2.2
   simp only [zzn h, zu0, zua, hg]
   unfold movOk
   by_cases e : rest[i].2.2.1 = rest[i].2.1
   ·simp only [if_pos e]
    exact ⟨fun _ => trivial, fun h => (by cases h)⟩
   ·simp only [if_neg e]
    cases hf : findT l rest[i].2.2.1 with
    | none => simp
    | some k =>
     obtain ⟨hk, _⟩ := zxt hf
     have r2 := hr _ hk
     have f2 := iState_from_ok (N := N) (s := s) (a := k.1) (by omega) r2.2.1 r2.2.2
     simp only [Option.isSome_some, Option.getD_some, Bool.not_true, cond_false, f1, f2, Option.bind_some]
     by_cases q1 : k.2.2.1 = rest[i].2.2.2.1
     ·have s1 : k.2.2.1.1 = rest[i].2.2.2.1.1 := by rw [q1]
      have s2 : k.2.2.1.2.1 = rest[i].2.2.2.1.2.1 := by rw [q1]
      simp only [q1, s1, s2, beq_self_eq_true, Bool.and_true, Bool.not_true, cond_false, decide_true, Bool.true_and]
      by_cases q2 : k.2.1 = k.1
      ·simp only [q2, if_true, decide_true, Bool.true_and]
       cases fromB s.2.1 k.1 <;> cases fromB s.2.1 rest[i].2.1 <;> simp
      ·simp only [q2, if_false, decide_false, Bool.false_and]
       exact ⟨fun h => (by cases h), fun _ => trivial⟩
     ·have : ((k.2.2.1.1 == rest[i].2.2.2.1.1) && ((k.2.2.1.2.1 == rest[i].2.2.2.1.2.1) && true)) = false := by
       cases hb : ((k.2.2.1.1 == rest[i].2.2.2.1.1) && ((k.2.2.1.2.1 == rest[i].2.2.2.1.2.1) && true)) with
       | false => rfl
       | true =>
        simp only [Bool.and_true, Bool.and_eq_true, beq_iff_eq] at hb
        exact absurd (Prod.ext hb.1 (Prod.ext hb.2 rfl)) q1
      simp only [this, Bool.not_false, cond_true, q1, decide_false, Bool.false_and]
      exact ⟨fun h => (by cases h), fun _ => trivial⟩)
  N (tmap l) (by simp [tmap]; omega) (fun p hp => by
    simp only [tmap, List.mem_map] at hp
    obtain ⟨t, ht, rfl⟩ := hp
    exact ht)
 have e : (tmap l).all (fun p => movOk l s.2.1 p.2) = l.all (movOk l s.2.1) := by
  simp only [tmap, List.all_map]
  rfl
 rw [e] at hL
 simp only [zs7, hL, Option.bind_some]
 cases l.all (movOk l s.2.1) <;> rfl
end
theorem meet_loopQ {s : Stx} {l : List Tgx} (C : Hp s l) {ρ : Type} {rs : List Int} (has : rs.length ≤ lim) {L : Nat → Nat → List Int → Option ρ} {Q : Option ρ → Option (List Int) → Prop}
  (h0 : ∀ n i met (h : i < rs.length), MetOk l met → w64 ((i : Int) + 1) = ((i + 1 : Nat) : Int) → rs[i] = 0 → L (n + 1) i met = L n (i + 1) met)
  (h1 : ∀ n i met (h : i < rs.length), MetOk l met → rs[i] ≠ 0 → findT l rs[i] = none → Q (L (n + 1) i met) none)
  (h2 : ∀ n i met (h : i < rs.length) t, MetOk l met → w64 ((i : Int) + 1) = ((i + 1 : Nat) : Int) → rs[i] ≠ 0 → findT l rs[i] = some t → t ∈ l → t.2.1 ≠ 0 → met.length + 1 ≤ lim → L (n + 1) i met = L n (i + 1) (if t.2.1 ∈ met then met else met ++ [t.2.1]))
  (h3 : ∀ n met, MetOk l met → Q (L (n + 1) rs.length met) (some met)) {n : Nat} (hn : rs.length < n) {met : List Int} (hM : MetOk l met) :
  Q (L n 0 met) (meetA l rs met) := by
 have key : ∀ n i met, i ≤ rs.length → rs.length - i < n → MetOk l met → Q (L n i met) (meetA l (rs.drop i) met) := by
  intro n
  induction n with
  | zero => intro i met _ h; exact absurd h (Nat.not_lt_zero _)
  | succ n ih =>
   intro i met hi hn hM
   by_cases h : i < rs.length
   ·have hw : w64 ((i : Int) + 1) = ((i + 1 : Nat) : Int) := zyn (by have : lim = 2147483648 := rfl; omega)
    rw [zt6 h]
    simp only [meetA]
    by_cases ha : rs[i] = 0
    ·rw [if_pos ha, h0 n i met h hM hw ha]
     exact ih (i + 1) met (by omega) (by omega) hM
    ·rw [if_neg ha]
     cases hf : findT l rs[i] with
     | none => exact h1 n i met h hM ha hf
     | some t =>
      have ht := (zxt hf).1
      have hl := C.met hM
      rw [h2 n i met h t hM hw ha hf ht (by have := C.now ht; omega) (by rw [zrf]; omega)]
      exact ih (i + 1) _ (by omega) (by omega) (C.push hM ht)
   ·have : i = rs.length := by omega
    subst this
    have := h3 n met hM
    simpa [meetA] using this
 simpa using key n 0 met (by omega) (by omega) hM
theorem reach_loopQ {s : Stx} {l : List Tgx} (C : Hp s l) {ρ : Type} {L : Nat → Nat → List Int → Option ρ} {Q : Option ρ → Option (List Int) → Prop}
  (h1 : ∀ (n k : Nat) (met : List Int) (h : k < met.length) (t : Tgx), MetOk l met → w64 ((k : Int) + 1) = ((k + 1 : Nat) : Int) → findT l met[k] = some t → t ∈ l → t.2.1 = met[k] →
   (∀ m, meetA l t.2.2.2.1 met = some m → L (n + 1) k met = L n (k + 1) m) ∧ (meetA l t.2.2.2.1 met = none → Q (L (n + 1) k met) none))
  (h3 : ∀ n met, MetOk l met → Q (L (n + 1) met.length met) (some met)) {n : Nat} (hn : l.length < n) {met : List Int} (hM : MetOk l met) :
  Q (L n 0 met) (zu5 l l.length 0 met) := by
 have key : ∀ d n k met, l.length ≤ k + d → d < n → k ≤ met.length → MetOk l met → Q (L n k met) (zu5 l d k met) := by
  intro d
  induction d with
  | zero =>
   intro n k met hd hn hk hM
   obtain ⟨n, rfl⟩ : ∃ m, n = m + 1 := ⟨n - 1, by omega⟩
   have := hM.len
   have : k = met.length := by omega
   subst this
   exact h3 n met hM
  | succ d ih =>
   intro n k met hd hn hk hM
   obtain ⟨n, rfl⟩ : ∃ m, n = m + 1 := ⟨n - 1, by omega⟩
   have hl := C.met hM
   simp only [zu5]
   by_cases h : k < met.length
   ·obtain ⟨t, hf, e⟩ := hM.self _ (List.getElem_mem h)
    obtain ⟨g1, g2⟩ := h1 n k met h t hM (zyn (by omega)) hf (zxt hf).1 e
    rw [if_pos h, zzn h]
    have er : refsT l met[k] = t.2.2.2.1 := by simp only [refsT, hf]
    rw [er]
    cases hq : meetA l t.2.2.2.1 met with
    | none => exact g2 hq
    | some m =>
     have := meetA_len hq
     rw [g1 m hq]
     exact ih n (k + 1) m (by omega) (by omega) (by omega) (hM.meet C.pw C.mv hq)
   ·have : k = met.length := by omega
    subst this
    rw [if_neg (Nat.lt_irrefl _)]
    exact h3 n met hM
 exact key l.length n 0 met (by omega) hn (by omega) hM
def snM (met : List Int) : List (Int × Bool) := met.map fun n => (n, true)
theorem snM_get : ∀ {met : List Int} {n : Int}, (mget (snM met) n).getD false = decide (n ∈ met)
 | [], n => by simp [snM, mget]
 | x :: met, n => by
  have ih := snM_get (met := met) (n := n)
  simp only [snM, List.map_cons, mget] at ih ⊢
  by_cases h : n = x
  ·simp [h]
  ·simp only [h, decide_false, cond_false, ih, List.mem_cons, false_or]
theorem snM_set : ∀ {met : List Int} {n : Int}, n ∉ met → mset (snM met) n true = snM (met ++ [n])
 | [], n, _ => rfl
 | x :: met, n, h => by
  have h1 : ¬ n = x := fun e => h (by simp [e])
  have ih := snM_set (met := met) (n := n) (fun e => h (by simp [e]))
  simp only [snM, List.map_cons, List.map_append, List.map_nil, List.cons_append, mset] at ih ⊢
  simp only [h1, decide_false, cond_false, ih]
section
variable {N : Nat} (hN : lim < N)
include hN
theorem iMeet {s : Stx} {l : List Tgx} (C : Hp s l) {rs : List Int} (hr : rs.length ≤ 1048576) {met : List Int} (hM : MetOk l met) (c1 : List Int) (c2 : List Rgx) (c3 : List Bool) (c4 : Int) (c5 c6 c7 : Bool) (c8 : Int) (c9 : List Thr) (c10 c11 : List Int) (c12 c13 : Int) :
  (∀ m, meetA l rs met = some m → zvb N (rs, c1, c2, c3, c4, c5, c6, c7, c8, c9, c10, c11, c12, c13, tmap l, met, snM met, ()) = some (true, c1, c2, c3, c4, c5, c6, c7, c8, c9, c10, c11, c12, c13, tmap l, m, snM m, ())) ∧
  (meetA l rs met = none → ∃ r, zvb N (rs, c1, c2, c3, c4, c5, c6, c7, c8, c9, c10, c11, c12, c13, tmap l, met, snM met, ()) = some r ∧ r.1 = false) := by
 have hlim : lim = 2147483648 := rfl
 have h := meet_loopQ C (rs := rs) (by omega) (L := fun n i met => zyz N n (rs, (rs.length : Int), (i : Int), c1, c2, c3, c4, c5, c6, c7, c8, c9, c10, c11, c12, c13, tmap l, met, snM met, ()))
  (Q := fun o r => match r with
   | some m => o = some (.inl (c1, c2, c3, c4, c5, c6, c7, c8, c9, c10, c11, c12, c13, tmap l, m, snM m, ()))
   | none => ∃ q, o = some (.inr q) ∧ q.1 = false)
  (fun n i met h hm hw h0 => by
   have h' : (i : Int) < (rs.length : Int) := by omega
   simp only [zyz, h', h, decide_true, cond_true, Int.natCast_nonneg, Int.toNat_natCast, zzn h, h0, zu0, if_true, hw])
  (fun n i met h hm h0 hf => by
   have h' : (i : Int) < (rs.length : Int) := by omega
   have hg : mget (tmap l) rs[i] = none := by rw [tmap_get]; exact hf
   refine ⟨(false, c1, c2, c3, c4, c5, c6, c7, c8, c9, c10, c11, c12, c13, tmap l, met, snM met, ()), ?_, rfl⟩
   simp only [zyz, h', h, decide_true, cond_true, Int.natCast_nonneg, Int.toNat_natCast, zzn h, h0, zu0, if_false, hg, Option.isSome_none, Bool.not_false])
  (fun n i met h t hm hw h0 hf ht ht0 hml => by
   have h' : (i : Int) < (rs.length : Int) := by omega
   have hg : mget (tmap l) rs[i] = some t := by rw [tmap_get]; exact hf
   have l1 : met.length + [t.2.1].length ≤ lim := by simpa using hml
   simp only [zyz, h', h, decide_true, cond_true, Int.natCast_nonneg, Int.toNat_natCast, zzn h, h0, zu0, if_false, hg, Option.isSome_some, Bool.not_true, cond_false, Fiheap_now, Option.bind_some, Option.getD_some, snM_get]
   by_cases hc : t.2.1 ∈ met
   ·simp only [hc, decide_true, Bool.not_true, cond_false, if_true, hw]
   ·simp only [hc, decide_false, Bool.not_false, cond_true, l1, decide_true, snM_set hc, hw, if_false])
  (fun n met hm => by simp [zyz]) (n := N) (by omega) hM
 simp only [Int.natCast_zero] at h
 constructor
 ·intro m hm
  rw [hm] at h
  simp only [zvb, h, Option.bind_some, Sum.elim_inl]
 ·intro hm
  rw [hm] at h
  obtain ⟨q, e1, e2⟩ := h
  refine ⟨q, ?_, e2⟩
  simp only [zvb, e1, Option.bind_some, Sum.elim_inr]
theorem iRoots {s : Stx} (hT : (stThr s).length ≤ 1048576) (hk : (stThr s).all thrOk = true) (h3 : (stThr s).length ≤ 3) (hp : (zzo s).length ≤ 8) : zox N (s, ()) = some (zvx (stThr s) ++ zzo s, ()) := by
 have hlim : lim = 2147483648 := rfl
 have hf : ∀ (ts : List Thr) (acc : List Int), ts.foldl (fun a t => a ++ t.1) acc = acc ++ zvx ts := by
  intro ts
  induction ts with
  | nil => intro acc; simp [zvx]
  | cons t ts ih => intro acc; rw [List.foldl_cons, ih]; simp [zvx]
 have e := zpq (xs := stThr s) (n := N) (fun (a : List Int) t => a ++ t.1) (fun i a => a.length ≤ 8 * i) (L := fun n i a => zxg N n (s, stThr s, ((stThr s).length : Int), (i : Int), a, ())) (fin := fun a => (s, a, ())) (by omega)
  (fun n i a hi hw hI => by
   have := List.all_eq_true.1 hk _ (List.getElem_mem hi)
   simp only [thrOk, Bool.and_eq_true, decide_eq_true_eq] at this
   have l1 : a.length + (stThr s)[i].1.length ≤ lim := by omega
   have hi' : (i : Int) < ((stThr s).length : Int) := by omega
   refine ⟨?_, by simp only [List.length_append]; omega⟩
   simp only [zxg, hi', hi, decide_true, cond_true, Int.natCast_nonneg, Int.toNat_natCast, zzn hi, l1, hw])
  (fun n a _ => by simp [zxg]) (by omega) (s := []) (by simp)
 obtain ⟨e, hI⟩ := e
 rw [hf, List.nil_append] at e hI
 simp only [Int.natCast_zero, stThr] at e
 simp only [stThr] at hI
 have l1 : (zvx (stThr s)).length + (zzo s).length ≤ lim := by simp only [stThr] at h3 ⊢; omega
 simp only [zzo, stThr] at l1
 simp only [zox, e, Option.bind_some, l1, decide_true, cond_true]
theorem iReach {s : Stx} {l : List Tgx} (C : Hp s l) (hT : (stThr s).length ≤ 1048576) (hk : (stThr s).all thrOk = true) (h3 : (stThr s).length ≤ 3) (hp : (zzo s).length ≤ 8) :
  (∀ m, (meetA l (zvx (stThr s) ++ zzo s) []).bind (zu5 l l.length 0) = some m →
   ztu N (s.1, s.2.1, s.2.2.1, s.2.2.2.1, s.2.2.2.2.1, s.2.2.2.2.2.1, s.2.2.2.2.2.2.1, s.2.2.2.2.2.2.2.1, s.2.2.2.2.2.2.2.2.1, s.2.2.2.2.2.2.2.2.2.1, s.2.2.2.2.2.2.2.2.2.2.1, s.2.2.2.2.2.2.2.2.2.2.2.1, s.2.2.2.2.2.2.2.2.2.2.2.2.1, tmap l, [], ()) =
    some (true, s.1, s.2.1, s.2.2.1, s.2.2.2.1, s.2.2.2.2.1, s.2.2.2.2.2.1, s.2.2.2.2.2.2.1, s.2.2.2.2.2.2.2.1, s.2.2.2.2.2.2.2.2.1, s.2.2.2.2.2.2.2.2.2.1, s.2.2.2.2.2.2.2.2.2.2.1, s.2.2.2.2.2.2.2.2.2.2.2.1, s.2.2.2.2.2.2.2.2.2.2.2.2.1, tmap l, m, ())) ∧
  ((meetA l (zvx (stThr s) ++ zzo s) []).bind (zu5 l l.length 0) = none →
    ∃ r, ztu N (s.1, s.2.1, s.2.2.1, s.2.2.2.1, s.2.2.2.2.1, s.2.2.2.2.2.1, s.2.2.2.2.2.2.1, s.2.2.2.2.2.2.2.1, s.2.2.2.2.2.2.2.2.1, s.2.2.2.2.2.2.2.2.2.1, s.2.2.2.2.2.2.2.2.2.2.1, s.2.2.2.2.2.2.2.2.2.2.2.1, s.2.2.2.2.2.2.2.2.2.2.2.2.1, tmap l, [], ()) = some r ∧ r.1 = false) := by
 have hlim : lim = 2147483648 := rfl
 have er := iRoots hN hT hk h3 hp
 have hrl : (zvx (stThr s) ++ zzo s).length ≤ 1048576 := by
  have : ∀ (ts : List Thr), ts.all thrOk = true → (zvx ts).length ≤ 8 * ts.length := by
   intro ts
   induction ts with
   | nil => intro _; simp [zvx]
   | cons t ts ih =>
    intro h
    simp only [List.all_cons, Bool.and_eq_true] at h
    have h1 := ih h.2
    have h2 := h.1
    simp only [thrOk, Bool.and_eq_true, decide_eq_true_eq] at h2
    have e : (zvx (t :: ts)).length = t.1.length + (zvx ts).length := by simp [zvx]
    rw [e, List.length_cons]; omega
  have := this _ hk
  rw [List.length_append]; omega
 obtain ⟨c1, c2, c3, c4, c5, c6, c7, c8, c9, c10, c11, c12, c13, ⟨⟩⟩ := s
 simp only [stThr, zzo] at er hrl ⊢
 have e1 := iMeet hN C hrl MetOk.nil c1 c2 c3 c4 c5 c6 c7 c8 c9 c10 c11 c12 c13
 have e0 : snM [] = ([] : List (Int × Bool)) := rfl
 rw [e0] at e1
 cases hq : meetA l (zvx c9 ++ c11) [] with
 | none =>
  rw [hq] at e1
  obtain ⟨r, g1, g2⟩ := e1.2 rfl
  refine ⟨fun m h => (by cases h), fun _ => ?_⟩
  refine ⟨(false, r.2.1, r.2.2.1, r.2.2.2.1, r.2.2.2.2.1, r.2.2.2.2.2.1, r.2.2.2.2.2.2.1, r.2.2.2.2.2.2.2.1, r.2.2.2.2.2.2.2.2.1, r.2.2.2.2.2.2.2.2.2.1, r.2.2.2.2.2.2.2.2.2.2.1, r.2.2.2.2.2.2.2.2.2.2.2.1, r.2.2.2.2.2.2.2.2.2.2.2.2.1, r.2.2.2.2.2.2.2.2.2.2.2.2.2.1, r.2.2.2.2.2.2.2.2.2.2.2.2.2.2.1, r.2.2.2.2.2.2.2.2.2.2.2.2.2.2.2.1, ()), ?_, rfl⟩
  simp only [ztu, er, Option.bind_some, g1, g2, Bool.not_false, cond_true]
 | some met =>
  rw [hq] at e1
  have g1 := e1.1 met rfl
  have hM : MetOk l met := MetOk.nil.meet C.pw C.mv hq
  have hl := C.len
  have h := reach_loopQ C (L := fun n k met => zxh N n ((k : Int), c1, c2, c3, c4, c5, c6, c7, c8, c9, c10, c11, c12, c13, tmap l, met, snM met, ()))
   (Q := fun o r => match r with
    | some m => o = some (.inl (c1, c2, c3, c4, c5, c6, c7, c8, c9, c10, c11, c12, c13, tmap l, m, ()))
    | none => ∃ q, o = some (.inr q) ∧ q.1 = false)
   (fun n k met h t hm hw hf ht e => by
    have h' : (k : Int) < (met.length : Int) := by omega
    have hg : mget (tmap l) met[k] = some t := by rw [tmap_get]; exact hf
    have hrf := C.refs ht
    have e2 := iMeet hN C (rs := t.2.2.2.1) (by omega) hm c1 c2 c3 c4 c5 c6 c7 c8 c9 c10 c11 c12 c13
    constructor
    ·intro m hq
     have g := e2.1 m hq
     simp only [zxh, h', h, decide_true, cond_true, Int.natCast_nonneg, Int.toNat_natCast, zzn h, hg, Option.getD_some, g, Option.bind_some, Bool.not_true, cond_false, hw]
    ·intro hq
     obtain ⟨r, g, g2⟩ := e2.2 hq
     refine ⟨(false, r.2.1, r.2.2.1, r.2.2.2.1, r.2.2.2.2.1, r.2.2.2.2.2.1, r.2.2.2.2.2.2.1, r.2.2.2.2.2.2.2.1, r.2.2.2.2.2.2.2.2.1, r.2.2.2.2.2.2.2.2.2.1, r.2.2.2.2.2.2.2.2.2.2.1, r.2.2.2.2.2.2.2.2.2.2.2.1, r.2.2.2.2.2.2.2.2.2.2.2.2.1, r.2.2.2.2.2.2.2.2.2.2.2.2.2.1, r.2.2.2.2.2.2.2.2.2.2.2.2.2.2.1, r.2.2.2.2.2.2.2.2.2.2.2.2.2.2.2.1, ()), ?_, rfl⟩
     simp only [zxh, h', h, decide_true, cond_true, Int.natCast_nonneg, Int.toNat_natCast, zzn h, hg, Option.getD_some, g, g2, Option.bind_some, Bool.not_false])
   (fun n met hm => by simp [zxh]) (n := N) (by omega) hM
  simp only [Int.natCast_zero] at h
  simp only [Option.bind_some]
  constructor
  ·intro m hm
   rw [hm] at h
   simp only [ztu, er, Option.bind_some, g1, Bool.not_true, cond_false, h, Sum.elim_inl]
  ·intro hm
   rw [hm] at h
   obtain ⟨q, k1, k2⟩ := h
   refine ⟨q, ?_, k2⟩
   simp only [ztu, er, Option.bind_some, g1, Bool.not_true, cond_false, k1, Sum.elim_inr]
theorem iPins {s : Stx} {l : List Tgx} (C : Hp s l) (hP : (zzo s).length ≤ 1048576) : zva N N (s, tmap l, zzo s, ((zzo s).length : Int), 0, ()) = some (bif (zzo s).all (pinOk l s.2.1) then .inl (s, tmap l, ()) else .inr ()) := by
 have hlim : lim = 2147483648 := rfl
 have step : ∀ n i (h : i < (zzo s).length), w64 ((i : Int) + 1) = ((i + 1 : Nat) : Int) → zva N (n + 1) (s, tmap l, zzo s, ((zzo s).length : Int), (i : Int), ()) = if pinOk l s.2.1 (zzo s)[i] = true then zva N n (s, tmap l, zzo s, ((zzo s).length : Int), ((i + 1 : Nat) : Int), ()) else some (.inr ()) := by
  intro n i h hw
  have h' : (i : Int) < ((zzo s).length : Int) := by omega
  have hg : mget (tmap l) (zzo s)[i] = findT l (zzo s)[i] := tmap_get
  simp only [zva, h', h, decide_true, cond_true, Int.natCast_nonneg, Int.toNat_natCast, zzn h, hg]
  cases hf : findT l (zzo s)[i] with
  | none =>
   have ho : pinOk l s.2.1 (zzo s)[i] = false := by simp [pinOk, hf]
   simp only [ho, Option.isSome_none, Bool.not_false, cond_true, Bool.false_eq_true, if_false]
  | some t =>
   obtain ⟨m1, m2⟩ := zxt hf
   have r2 := C.rng _ m1
   have hpo : pinOk l s.2.1 (zzo s)[i] = (decide (t.2.1 = (zzo s)[i]) && !(fromB s.2.1 (zzo s)[i])) := by simp [pinOk, hf]
   have f2 := iState_from_ok (N := N) (s := s) (a := (zzo s)[i]) (by omega) (by omega) (by rw [← m2]; exact r2.2.2.1)
   rw [hpo]
   simp only [Option.isSome_some, Option.getD_some, Bool.not_true, cond_false, zua, f2, Option.bind_some]
   by_cases q2 : t.2.1 = (zzo s)[i]
   ·cases hb : fromB s.2.1 (zzo s)[i] <;> simp [q2, hw]
   ·simp [q2]
 have hL := all_loop (xs := zzo s) (n := N) (pinOk l s.2.1) (L := fun n i => zva N n (s, tmap l, zzo s, ((zzo s).length : Int), (i : Int), ())) (yes := .inl (s, tmap l, ())) (no := .inr ()) (by omega)
  (fun n i h hw hq => by rw [step n i h hw, if_pos hq])
  (fun n i h hq => by rw [step n i h (zyn (by omega)), if_neg (by rw [hq]; decide)])
  (fun n => by simp [zva]) (by omega)
 simpa using hL
theorem iThr {s : Stx} {m : List (Int × Tgx)} (hT : (stThr s).length ≤ 1048576) : zv0 N N (s, m, stThr s, ((stThr s).length : Int), 0, ()) = some (bif (stThr s).all thrOk then .inl (s, m, ()) else .inr ()) := by
 have hlim : lim = 2147483648 := rfl
 have step : ∀ n i (h : i < (stThr s).length), w64 ((i : Int) + 1) = ((i + 1 : Nat) : Int) → zv0 N (n + 1) (s, m, stThr s, ((stThr s).length : Int), (i : Int), ()) = if thrOk (stThr s)[i] = true then zv0 N n (s, m, stThr s, ((stThr s).length : Int), ((i + 1 : Nat) : Int), ()) else some (.inr ()) := by
  intro n i h hw
  have h' : (i : Int) < ((stThr s).length : Int) := by omega
  simp only [zv0, h', h, decide_true, cond_true, Int.natCast_nonneg, Int.toNat_natCast, zzn h, thrOk, hw]
  by_cases c1 : (stThr s)[i].1.length ≤ 8
  ·have n1 : ¬ ((stThr s)[i].1.length : Int) > 8 := by omega
   by_cases c2 : 0 ≤ (stThr s)[i].2.2.2.1
   ·have n2 : ¬ (stThr s)[i].2.2.2.1 < 0 := by omega
    by_cases c3 : (stThr s)[i].2.2.2.1 ≤ 2
    ·have n3 : ¬ (stThr s)[i].2.2.2.1 > 2 := by omega
     simp only [n1, n2, n3, c1, c2, c3, decide_true, decide_false, cond_false, Bool.and_self, if_true]
    ·have n3 : (stThr s)[i].2.2.2.1 > 2 := by omega
     simp only [n1, n2, n3, c1, c2, c3, decide_true, decide_false, cond_false, cond_true, Bool.and_false, Bool.false_eq_true, if_false]
   ·have n2 : (stThr s)[i].2.2.2.1 < 0 := by omega
    simp only [n1, n2, c1, c2, decide_true, decide_false, cond_false, cond_true, Bool.false_and, Bool.and_false, Bool.false_eq_true, if_false]
  ·have n1 : ((stThr s)[i].1.length : Int) > 8 := by omega
   simp only [n1, c1, decide_true, decide_false, cond_true, Bool.false_and, Bool.false_eq_true, if_false]
 have hL := all_loop (xs := stThr s) (n := N) thrOk (L := fun n i => zv0 N n (s, m, stThr s, ((stThr s).length : Int), (i : Int), ())) (yes := .inl (s, m, ())) (no := .inr ()) (by omega)
  (fun n i h hw hq => by rw [step n i h hw, if_pos hq])
  (fun n i h hq => by rw [step n i h (zyn (by omega)), if_neg (by rw [hq]; decide)])
  (fun n => by simp [zv0]) (by omega)
 simpa using hL
def heapV (s : Stx) (p : List Tgx × List Int) := (s.1, s.2.1, s.2.2.1, s.2.2.2.1, s.2.2.2.2.1, s.2.2.2.2.2.1, s.2.2.2.2.2.2.1, s.2.2.2.2.2.2.2.1, s.2.2.2.2.2.2.2.2.1, s.2.2.2.2.2.2.2.2.2.1, s.2.2.2.2.2.2.2.2.2.2.1, s.2.2.2.2.2.2.2.2.2.2.2.1, s.2.2.2.2.2.2.2.2.2.2.2.2.1, tmap p.1, p.2, ())
theorem iheapOf_ok {s : Stx} (b1 : s.1.length ≤ 1048576) (b2 : s.2.1.length ≤ 1048576) (b3 : s.2.2.1.length ≤ 1048576) (b4 : ∀ x ∈ s.1, -9223372036854775808 ≤ x ∧ x < 9223372036854775808)
  (hT : (stThr s).length ≤ 1048576) (hP : (zzo s).length ≤ 1048576) :
  FiheapOf N (s, ()) = some (match zu9 s with | none => .inl () | some p => .inr (heapV s p)) := by
 have hlim : lim = 2147483648 := rfl
 unfold FiheapOf
 simp only [iState_things_ok hN b1 b4 b2 b3, Option.bind_some]
 have est : (if wholeB s.1 s.2.1 s.2.2.1 = true then zu4 s.1 s.2.1 else none) = zu3 s := rfl
 rw [est]
 cases hta : zu3 s with
 | none => simp [zu9, hta]
 | some l =>
  obtain ⟨hw, hta2⟩ := stThings_some hta
  simp only [iState_settled_ok hN hw hta2, Option.bind_some, Bool.not_true, cond_false]
  cases hm : l.all (movOk l s.2.1) with
  | false => simp [zu9, hta, metOf, hm]
  | true =>
   have C : Hp s l := ⟨hta, hm⟩
   simp only [Bool.not_true, cond_false]
   by_cases hh : headOk s = true
   ·have hh' := hh
    simp only [headOk, Bool.and_eq_true, decide_eq_true_eq] at hh'
    obtain ⟨q1, q2, q3, q4, q5⟩ := hh'
    simp only [stPh] at q1 q2
    have n1 : ¬ s.2.2.2.1 < 0 := by omega
    have n2 : ¬ s.2.2.2.1 > 3 := by omega
    have n3 : ¬ ((stThr s).length : Int) < 1 := by omega
    have n4 : ¬ ((stThr s).length : Int) > 3 := by omega
    have n5 : ¬ ((zzo s).length : Int) > 8 := by omega
    have i1 := iThr hN (m := tmap l) hT
    have i2 := iPins hN C hP
    simp only [stThr, zzo] at n3 n4 n5 i1 i2
    simp only [n1, n2, n3, n4, n5, decide_false, cond_false, Option.bind_some, Sum.elim_inl, i1]
    cases hk : (stThr s).all thrOk with
    | false =>
     simp only [stThr] at hk
     simp only [hk, cond_false, Sum.elim_inr, zu9, hta, metOf, stThr, Bool.false_and, Bool.and_false, Bool.false_eq_true, if_false, Option.map_none]
    | true =>
     have hk' := hk
     simp only [stThr] at hk'
     simp only [hk', cond_true, Sum.elim_inl, Option.bind_some, i2]
     cases hp : (zzo s).all (pinOk l s.2.1) with
     | false =>
      simp only [zzo] at hp
      simp only [hp, cond_false, Sum.elim_inr, zu9, hta, metOf, zzo, Bool.and_false, Bool.false_eq_true, if_false, Option.map_none]
     | true =>
      have hp' := hp
      simp only [zzo] at hp'
      simp only [hp', cond_true, Sum.elim_inl, Option.bind_some]
      obtain ⟨g1, g2⟩ := iReach hN C hT hk q4 q5
      have eh : zu9 s = ((meetA l (zvx (stThr s) ++ zzo s) []).bind (zu5 l l.length 0)).map fun m => (l, m) := by
       simp [zu9, hta, metOf, hm, hh, hk, hp]
      rw [eh]
      cases hr : (meetA l (zvx (stThr s) ++ zzo s) []).bind (zu5 l l.length 0) with
      | none =>
       obtain ⟨r, k1, k2⟩ := g2 hr
       simp only [k1, Option.bind_some, k2, Bool.not_false, cond_true, Option.map_none]
      | some m =>
       simp only [g1 m hr, Option.bind_some, Bool.not_true, cond_false, Option.map_some, heapV]
   ·have hno2 : zu9 s = none := by simp only [zu9, hta, metOf, hh, Bool.false_and, Bool.and_false, Bool.false_eq_true, if_false, Option.map_none]
    simp only [hno2]
    by_cases n1 : s.2.2.2.1 < 0
    ·simp only [n1, decide_true, cond_true, Option.bind_some, Sum.elim_inr]
    ·by_cases n2 : s.2.2.2.1 > 3
     ·simp only [n1, n2, decide_true, decide_false, cond_false, cond_true, Option.bind_some, Sum.elim_inr]
     ·by_cases n3 : (s.2.2.2.2.2.2.2.2.1.length : Int) < 1
      ·simp only [n1, n2, n3, decide_true, decide_false, cond_false, cond_true, Option.bind_some, Sum.elim_inr]
      ·by_cases n4 : (s.2.2.2.2.2.2.2.2.1.length : Int) > 3
       ·simp only [n1, n2, n3, n4, decide_true, decide_false, cond_false, cond_true, Option.bind_some, Sum.elim_inr]
       ·have n5 : (s.2.2.2.2.2.2.2.2.2.2.1.length : Int) > 8 := by
         have : ¬ (zzo s).length ≤ 8 := by
          intro h5
          apply hh
          simp only [headOk, stPh, stThr, Bool.and_eq_true, decide_eq_true_eq]
          exact ⟨by omega, by omega, by omega, by omega, h5⟩
         simp only [zzo] at this
         omega
        simp only [n1, n2, n3, n4, n5, decide_true, decide_false, cond_false, cond_true, Option.bind_some, Sum.elim_inr]
end
theorem wn {x : Int} {k : Nat} (h : x = (k : Int)) (hk : k ≤ 4611686018427387904) : w64 x = (k : Int) := by
 rw [zyy (by omega) (by omega), h]
abbrev ltI : Int → Int → Bool := Go.Sort.ltInt
theorem zrn {xs : List Int} {i : Nat} : xs.toArray[i]! = xs.getD i 0 := by
 rw [List.getElem!_toArray, List.getElem!_eq_getElem?_getD, List.getD_eq_getElem?_getD]; rfl
def swL (xs : List Int) (i j : Nat) : List Int := (xs.set i (xs.getD j 0)).set j (xs.getD i 0)
theorem zsm {xs : List Int} {i j : Nat} : (swL xs i j).toArray = Go.Sort.swp xs.toArray i j := by
 simp only [swL, Go.Sort.swp, zrn, List.setIfInBounds_toArray]
@[simp] theorem swL_len {xs : List Int} {i j : Nat} : (swL xs i j).length = xs.length := by simp [swL]
section
variable {N : Nat} (hN : lim < N)
theorem zqq {x y : Int} : zz9 N (x, y, ()) = some (ltI x y, ()) := by
 have h1 : (x != x) = false := by simp
 simp only [zz9, zr9, Option.bind_some, h1, cond_false]
 rfl
theorem insInner_size {a : Nat} : ∀ (j : Nat) (d : Array Int), (Go.Sort.insInner ltI a j d).size = d.size
 | 0, d => rfl
 | j + 1, d => by
  unfold Go.Sort.insInner
  split
  ·rw [insInner_size j, Go.Sort.size_swp]
  ·rfl
theorem ins_2 {a : Nat} {b i : Int} : ∀ (j n : Nat) (xs : List Int), j < n → j < xs.length → xs.length ≤ 1000 →
  zzk N n ((a : Int), b, i, (j : Int), xs, ()) = some ((a : Int), b, i, (Go.Sort.insInner ltI a j xs.toArray).toList, ())
 | 0, n, xs, hn, hj, hl => by
  obtain ⟨n, rfl⟩ : ∃ m, n = m + 1 := ⟨n - 1, by omega⟩
  have : ¬ ((0 : Nat) : Int) > (a : Int) := by omega
  simp only [zzk, this, decide_false, cond_false, Option.bind_some, Sum.elim_inl, Go.Sort.insInner]
 | j + 1, n, xs, hn, hj, hl => by
  obtain ⟨n, rfl⟩ : ∃ m, n = m + 1 := ⟨n - 1, by omega⟩
  have w1 : w64 (((j + 1 : Nat) : Int) - 1) = (j : Int) := wn (by omega) (by omega)
  have p1 : j < xs.length := by omega
  have p2 : j < (xs.set (j + 1) (xs.getD j 0)).length := by simpa using p1
  have es : (xs.set (j + 1) (xs.getD j 0)).set j (xs.getD (j + 1) 0) = swL xs (j + 1) j := rfl
  unfold Go.Sort.insInner
  simp only [zzk, w1, Int.natCast_nonneg, Int.toNat_natCast, hj, p1, p2, decide_true, cond_true, zqq, Option.bind_some, zrn]
  by_cases ha : j + 1 > a
  ·have ha' : ((j + 1 : Nat) : Int) > (a : Int) := by omega
   cases hc : ltI (xs.getD (j + 1) 0) (xs.getD j 0) with
   | true =>
    simp only [ha, ha', decide_true, cond_true, hc, Bool.and_self, if_true, Option.bind_some, Sum.elim_inr, w1, Int.natCast_nonneg, Int.toNat_natCast, hj, p1, p2, es]
    rw [ins_2 j n (swL xs (j + 1) j) (by omega) (by simpa using p1) (by simpa using hl), zsm]
   | false =>
    simp only [ha, ha', decide_true, cond_true, hc, cond_false, Bool.and_false, Bool.false_eq_true, if_false, Option.bind_some, Sum.elim_inl]
  ·have ha' : ¬ ((j + 1 : Nat) : Int) > (a : Int) := by omega
   simp only [ha, ha', decide_false, cond_false, Bool.false_and, Bool.false_eq_true, if_false, Option.bind_some, Sum.elim_inl]
include hN
theorem ins_0 {a b : Nat} : ∀ (k n i : Nat) (xs : List Int), b - i = k → k < n → b ≤ xs.length → xs.length ≤ 1000 → i ≤ 1001 →
  zzj N n ((a : Int), (b : Int), (i : Int), xs, ()) = some ((Go.Sort.insOuter ltI a b i xs.toArray).toList, ())
 | 0, n, i, xs, hk, hn, hb, hl, hi => by
  obtain ⟨n, rfl⟩ : ∃ m, n = m + 1 := ⟨n - 1, by omega⟩
  have h : ¬ (i : Int) < (b : Int) := by omega
  unfold Go.Sort.insOuter
  rw [if_neg (by omega)]
  simp only [zzj, h, decide_false, cond_false]
 | k + 1, n, i, xs, hk, hn, hb, hl, hi => by
  obtain ⟨n, rfl⟩ : ∃ m, n = m + 1 := ⟨n - 1, by omega⟩
  have h : (i : Int) < (b : Int) := by omega
  have w1 : w64 ((i : Int) + 1) = ((i + 1 : Nat) : Int) := wn (by omega) (by omega)
  have hs := insInner_size (a := a) i xs.toArray
  unfold Go.Sort.insOuter
  rw [if_pos (by omega)]
  have hlen : (Go.Sort.insInner ltI a i xs.toArray).toList.length = xs.length := by simpa using hs
  simp only [zzj, h, decide_true, cond_true, ins_2 (N := N) (a := a) (b := (b : Int)) (i := (i : Int)) i N xs (by rw [zrf] at hN; omega) (by omega) hl, Option.bind_some, w1]
  rw [ins_0 k n (i + 1) _ (by omega) (by omega) (by omega) (by omega) (by omega), Array.toArray_toList]
theorem ins_ok {a b : Nat} {xs : List Int} (hb : b ≤ xs.length) (hl : xs.length ≤ 1000) (ha : a ≤ 1000) : zxs N ((a : Int), (b : Int), xs, ()) = some ((Go.Sort.insertionSort ltI xs.toArray a b).toList, ()) := by
 have w1 : w64 ((a : Int) + 1) = ((a + 1 : Nat) : Int) := wn (by omega) (by omega)
 simp only [zxs, w1, ins_0 hN (b - (a + 1)) N (a + 1) xs rfl (by rw [zrf] at hN; omega) hb hl (by omega), Option.bind_some, Go.Sort.insertionSort]
omit hN in
theorem sift_size {hi first : Nat} : ∀ (k root : Nat) (d : Array Int), hi - root ≤ k → (Go.Sort.siftDown ltI hi first root d).size = d.size
 | 0, root, d, h => by unfold Go.Sort.siftDown; rw [dif_pos (by omega)]
 | k + 1, root, d, h => by
  unfold Go.Sort.siftDown
  split
  ·rfl
  ·split
   ·split
    ·rfl
    ·split
     ·rw [sift_size k _ _ (by omega), Go.Sort.size_swp]
     ·rfl
   ·split
    ·rfl
    ·rw [sift_size k _ _ (by omega), Go.Sort.size_swp]
omit hN in
theorem sift_0 {hi first : Nat} : ∀ (k n root : Nat) (xs : List Int), hi - root ≤ k → k < n → first + hi ≤ xs.length → xs.length ≤ 1000 → root ≤ 1000 →
  ∃ ys, (zz0 N n ((hi : Int), (first : Int), (root : Int), xs, ()) = some (.inl (ys, ())) ∨ zz0 N n ((hi : Int), (first : Int), (root : Int), xs, ()) = some (.inr (ys, ()))) ∧ ys = (Go.Sort.siftDown ltI hi first root xs.toArray).toList
 | k, 0, root, xs, hk, hn, hf, hl, hr => absurd hn (Nat.not_lt_zero _)
 | k, n + 1, root, xs, hk, hn, hf, hl, hr => by
  have w1 : w64 (2 * (root : Int)) = ((2 * root : Nat) : Int) := wn (by omega) (by omega)
  have w2 : w64 (((2 * root : Nat) : Int) + 1) = ((2 * root + 1 : Nat) : Int) := wn (by omega) (by omega)
  unfold Go.Sort.siftDown
  by_cases h1 : 2 * root + 1 ≥ hi
  ·have h1' : ((2 * root + 1 : Nat) : Int) ≥ (hi : Int) := by omega
   refine ⟨xs, .inl ?_, by rw [dif_pos h1]⟩
   simp only [zz0, w1, w2, h1', decide_true, cond_true]
  ·have h1' : ¬ ((2 * root + 1 : Nat) : Int) ≥ (hi : Int) := by omega
   rw [dif_neg h1]
   have w3 : w64 (((2 * root + 1 : Nat) : Int) + 1) = ((2 * root + 2 : Nat) : Int) := wn (by omega) (by omega)
   have w4 : w64 ((first : Int) + ((2 * root + 1 : Nat) : Int)) = ((first + (2 * root + 1) : Nat) : Int) := wn (by omega) (by omega)
   have w5 : w64 (((first + (2 * root + 1) : Nat) : Int) + 1) = ((first + (2 * root + 1) + 1 : Nat) : Int) := wn (by omega) (by omega)
   have w6 : w64 ((first : Int) + (root : Int)) = ((first + root : Nat) : Int) := wn (by omega) (by omega)
   have w7 : w64 ((first : Int) + ((2 * root + 2 : Nat) : Int)) = ((first + (2 * root + 2) : Nat) : Int) := wn (by omega) (by omega)
   have p4 : first + (2 * root + 1) < xs.length := by omega
   have p6 : first + root < xs.length := by omega
   simp only [zz0, w1, w2, h1', decide_false, cond_false, w3, w4, w5, zrn, Int.natCast_nonneg, Int.toNat_natCast, decide_true, cond_true, p4, zqq, Option.bind_some]
   by_cases h2 : 2 * root + 1 + 1 < hi
   ·have h2' : ((2 * root + 2 : Nat) : Int) < (hi : Int) := by omega
    have p5 : first + (2 * root + 1) + 1 < xs.length := by omega
    have p7 : first + (2 * root + 2) < xs.length := by omega
    simp only [h2, h2', p5, decide_true, cond_true, Bool.true_and]
    cases hc : ltI (xs.getD (first + (2 * root + 1)) 0) (xs.getD (first + (2 * root + 1) + 1) 0) with
    | true =>
     have p8 : first + (2 * root + 2) < (xs.set (first + root) (xs.getD (first + (2 * root + 2)) 0)).length := by simpa using p7
     have es : (xs.set (first + root) (xs.getD (first + (2 * root + 2)) 0)).set (first + (2 * root + 2)) (xs.getD (first + root) 0) = swL xs (first + root) (first + (2 * root + 2)) := rfl
     simp only [cond_true, if_true, Option.bind_some, w6, w7, Int.natCast_nonneg, Int.toNat_natCast, p6, p7, decide_true, zqq, p8, es]
     cases hc2 : ltI (xs.getD (first + root) 0) (xs.getD (first + (2 * root + 2)) 0) with
     | false => exact ⟨xs, .inr (by simp only [Bool.not_false, cond_true]), by simp only [Bool.not_false, if_true]⟩
     | true =>
      obtain ⟨ys, e, he⟩ := sift_0 (hi := hi) (first := first) (k - 1) n (2 * root + 2) (swL xs (first + root) (first + (2 * root + 2))) (by omega) (by omega) (by simpa using hf) (by simpa using hl) (by omega)
      rw [zsm] at he
      refine ⟨ys, ?_, ?_⟩
      ·simpa only [Bool.not_true, cond_false] using e
      ·rw [he, if_neg (by decide), dif_pos trivial]
    | false =>
     have p8 : first + (2 * root + 1) < (xs.set (first + root) (xs.getD (first + (2 * root + 1)) 0)).length := by simpa using p4
     have es : (xs.set (first + root) (xs.getD (first + (2 * root + 1)) 0)).set (first + (2 * root + 1)) (xs.getD (first + root) 0) = swL xs (first + root) (first + (2 * root + 1)) := rfl
     simp only [cond_false, Bool.false_eq_true, if_false, Option.bind_some, w6, w4, Int.natCast_nonneg, Int.toNat_natCast, p6, p4, decide_true, cond_true, zqq, p8, es]
     cases hc2 : ltI (xs.getD (first + root) 0) (xs.getD (first + (2 * root + 1)) 0) with
     | false => exact ⟨xs, .inr (by simp only [Bool.not_false, cond_true]), by simp only [Bool.not_false, if_true]⟩
     | true =>
      obtain ⟨ys, e, he⟩ := sift_0 (hi := hi) (first := first) (k - 1) n (2 * root + 1) (swL xs (first + root) (first + (2 * root + 1))) (by omega) (by omega) (by simpa using hf) (by simpa using hl) (by omega)
      rw [zsm] at he
      refine ⟨ys, ?_, ?_⟩
      ·simpa only [Bool.not_true, cond_false] using e
      ·rw [he, if_neg (by decide)]
   ·have h2' : ¬ ((2 * root + 2 : Nat) : Int) < (hi : Int) := by omega
    have p8 : first + (2 * root + 1) < (xs.set (first + root) (xs.getD (first + (2 * root + 1)) 0)).length := by simpa using p4
    have es : (xs.set (first + root) (xs.getD (first + (2 * root + 1)) 0)).set (first + (2 * root + 1)) (xs.getD (first + root) 0) = swL xs (first + root) (first + (2 * root + 1)) := rfl
    simp only [h2, h2', decide_false, cond_false, Bool.false_and, Bool.false_eq_true, if_false, Option.bind_some, w6, w4, Int.natCast_nonneg, Int.toNat_natCast, p6, p4, decide_true, cond_true, zqq, p8, es]
    cases hc2 : ltI (xs.getD (first + root) 0) (xs.getD (first + (2 * root + 1)) 0) with
    | false => exact ⟨xs, .inr (by simp only [Bool.not_false, cond_true]), by simp only [Bool.not_false, if_true]⟩
    | true =>
     obtain ⟨ys, e, he⟩ := sift_0 (hi := hi) (first := first) (k - 1) n (2 * root + 1) (swL xs (first + root) (first + (2 * root + 1))) (by omega) (by omega) (by simpa using hf) (by simpa using hl) (by omega)
     rw [zsm] at he
     refine ⟨ys, ?_, ?_⟩
     ·simpa only [Bool.not_true, cond_false] using e
     ·rw [he, if_neg (by decide)]
theorem sift_ok {hi first root : Nat} {xs : List Int} (hf : first + hi ≤ xs.length) (hl : xs.length ≤ 1000) (hr : root ≤ 1000) : zx9 N ((root : Int), (hi : Int), (first : Int), xs, ()) = some ((Go.Sort.siftDown ltI hi first root xs.toArray).toList, ()) := by
 obtain ⟨ys, e, rfl⟩ := sift_0 (N := N) (hi := hi) (first := first) (hi - root) N root xs (Nat.le_refl _) (by rw [zrf] at hN; omega) hf hl hr
 rcases e with e | e <;> simp only [zx9, e, Option.bind_some, Sum.elim_inl, Sum.elim_inr]
theorem build_0 {hi first : Nat} {z : Int} : ∀ (k n : Nat) (xs : List Int), k < n → first + hi ≤ xs.length → xs.length ≤ 1000 → k ≤ 1000 →
  zz5 N n ((first : Int), z, (hi : Int), (k : Int) - 1, xs, ()) = some ((first : Int), z, (hi : Int), (Go.Sort.heapBuild ltI hi first k xs.toArray).toList, ())
 | k, 0, xs, hn, _, _, _ => absurd hn (Nat.not_lt_zero _)
 | 0, n + 1, xs, hn, hf, hl, hk => by
  simp only [zz5, Int.natCast_zero, show decide ((0 : Int) - 1 ≥ 0) = false from rfl, cond_false, Go.Sort.heapBuild]
 | k + 1, n + 1, xs, hn, hf, hl, hk => by
  have e0 : ((k + 1 : Nat) : Int) - 1 = (k : Int) := by omega
  have p0 : (k : Int) ≥ 0 := by omega
  have w1 : w64 ((k : Int) - 1) = (k : Int) - 1 := zyy (by omega) (by omega)
  have hs := sift_size (hi := hi) (first := first) (hi - k) k xs.toArray (Nat.le_refl _)
  have hlen : (Go.Sort.siftDown ltI hi first k xs.toArray).toList.length = xs.length := by simpa using hs
  simp only [zz5, e0, p0, decide_true, cond_true, sift_ok hN (hi := hi) (first := first) (root := k) hf hl (by omega), Option.bind_some, w1, Go.Sort.heapBuild]
  rw [build_0 k n _ (by omega) (by omega) (by omega) (by omega), Array.toArray_toList]
omit hN in
theorem build_size {hi first : Nat} : ∀ (k : Nat) (d : Array Int), (Go.Sort.heapBuild ltI hi first k d).size = d.size
 | 0, d => rfl
 | k + 1, d => by rw [Go.Sort.heapBuild, build_size k, sift_size (hi - k) k _ (Nat.le_refl _)]
theorem pop_0 {first : Nat} : ∀ (k n : Nat) (xs : List Int), k < n → first + k ≤ xs.length → xs.length ≤ 1000 →
  zz4 N n ((first : Int), 0, (k : Int) - 1, xs, ()) = some ((Go.Sort.heapPop ltI first k xs.toArray).toList, ())
 | k, 0, xs, hn, _, _ => absurd hn (Nat.not_lt_zero _)
 | 0, n + 1, xs, hn, hf, hl => by
  simp only [zz4, Int.natCast_zero, show decide ((0 : Int) - 1 ≥ 0) = false from rfl, cond_false, Go.Sort.heapPop]
 | k + 1, n + 1, xs, hn, hf, hl => by
  have e0 : ((k + 1 : Nat) : Int) - 1 = (k : Int) := by omega
  have p0 : (k : Int) ≥ 0 := by omega
  have w1 : w64 ((k : Int) - 1) = (k : Int) - 1 := zyy (by omega) (by omega)
  have w2 : w64 ((first : Int) + (k : Int)) = ((first + k : Nat) : Int) := wn (by omega) (by omega)
  have p1 : first + k < xs.length := by omega
  have p2 : first < xs.length := by omega
  have p3 : first + k < (xs.set first (xs.getD (first + k) 0)).length := by simpa using p1
  have es : (xs.set first (xs.getD (first + k) 0)).set (first + k) (xs.getD first 0) = swL xs first (first + k) := rfl
  have hs := sift_size (hi := k) (first := first) (k - 0) 0 (swL xs first (first + k)).toArray (Nat.le_refl _)
  have hlen : (Go.Sort.siftDown ltI k first 0 (swL xs first (first + k)).toArray).toList.length = xs.length := by simpa using hs
  have e2 := sift_ok hN (hi := k) (first := first) (root := 0) (xs := swL xs first (first + k)) (by simp; omega) (by simpa using hl) (by omega)
  simp only [Int.natCast_zero] at e2
  simp only [zz4, e0, p0, decide_true, cond_true, w2, Int.natCast_nonneg, Int.toNat_natCast, p1, p2, p3, es, e2, Option.bind_some, w1, Go.Sort.heapPop]
  rw [pop_0 k n _ (by omega) (by omega) (by omega), Array.toArray_toList, zsm]
theorem heap_ok {a b : Nat} {xs : List Int} (hab : a < b) (hb : b ≤ xs.length) (hl : xs.length ≤ 1000) : zvu N ((a : Int), (b : Int), xs, ()) = some ((Go.Sort.heapSort ltI xs.toArray a b).toList, ()) := by
 have w1 : w64 ((b : Int) - (a : Int)) = ((b - a : Nat) : Int) := wn (by omega) (by omega)
 have w2 : w64 (((b - a : Nat) : Int) - 1) = ((b - a - 1 : Nat) : Int) := wn (by omega) (by omega)
 have w2' : w64 (((b - a : Nat) : Int) - 1) = ((b - a : Nat) : Int) - 1 := by rw [w2]; omega
 have w3 : w64 (Int.tdiv ((b - a - 1 : Nat) : Int) 2) = (((b - a - 1) / 2 + 1 : Nat) : Int) - 1 := by
  rw [Int.tdiv_eq_ediv_of_nonneg (by omega), zyy (by omega) (by omega)]; omega
 have e1 := build_0 hN (hi := b - a) (first := a) (z := 0) ((b - a - 1) / 2 + 1) N xs (by rw [zrf] at hN; omega) (by omega) hl (by omega)
 have hs := build_size (hi := b - a) (first := a) ((b - a - 1) / 2 + 1) xs.toArray
 have hlen : (Go.Sort.heapBuild ltI (b - a) a ((b - a - 1) / 2 + 1) xs.toArray).toList.length = xs.length := by simpa using hs
 have e2 := pop_0 hN (first := a) (b - a) N _ (by rw [zrf] at hN; omega) (by rw [hlen]; omega) (by rw [hlen]; exact hl)
 rw [Array.toArray_toList] at e2
 unfold zvu
 simp only [show decide ((2 : Int) = 0) = false from rfl, cond_false, w1]
 rw [w2, w3]
 simp only [e1, Option.bind_some, w2', e2, Go.Sort.heapSort]
omit hN in
theorem rev_0 : ∀ (k n i j : Nat) (xs : List Int), j - i ≤ k → k < n → j < xs.length → xs.length ≤ 1000 → zzg N n ((i : Int), (j : Int), xs, ()) = some ((Go.Sort.reverseLoop i j xs.toArray).toList, ())
 | k, 0, i, j, xs, _, hn, _, _ => absurd hn (Nat.not_lt_zero _)
 | k, n + 1, i, j, xs, hk, hn, hj, hl => by
  unfold Go.Sort.reverseLoop
  by_cases h : i < j
  ·have h' : (i : Int) < (j : Int) := by omega
   have w1 : w64 ((i : Int) + 1) = ((i + 1 : Nat) : Int) := wn (by omega) (by omega)
   have w2 : w64 ((j : Int) - 1) = ((j - 1 : Nat) : Int) := wn (by omega) (by omega)
   have p1 : i < xs.length := by omega
   have p2 : j < (xs.set i (xs.getD j 0)).length := by simpa using hj
   have es : (xs.set i (xs.getD j 0)).set j (xs.getD i 0) = swL xs i j := rfl
   simp only [zzg, h, h', decide_true, cond_true, Int.natCast_nonneg, Int.toNat_natCast, hj, p1, p2, es, w1, w2, if_true]
   rw [rev_0 (k - 1) n (i + 1) (j - 1) (swL xs i j) (by omega) (by omega) (by simp; omega) (by simpa using hl), zsm]
  ·have h' : ¬ (i : Int) < (j : Int) := by omega
   simp only [zzg, h, h', decide_false, cond_false, if_false]
theorem rev_ok {a b : Nat} {xs : List Int} (hab : a < b) (hb : b ≤ xs.length) (hl : xs.length ≤ 1000) : zy0 N ((a : Int), (b : Int), xs, ()) = some ((Go.Sort.reverseRange xs.toArray a b).toList, ()) := by
 have w1 : w64 ((b : Int) - 1) = ((b - 1 : Nat) : Int) := wn (by omega) (by omega)
 simp only [zy0, w1, rev_0 (N := N) (b - 1 - a) N a (b - 1) xs (Nat.le_refl _) (by rw [zrf] at hN; omega) (by omega) hl, Option.bind_some, Go.Sort.reverseRange]
end
section
variable {N : Nat} (hN : lim < N)
theorem pe_2 {a j : Nat} : ∀ (k n i : Nat) (xs : List Int), j + 1 - i ≤ k → k < n → a < xs.length → j < xs.length → xs.length ≤ 1000 → i ≤ 1001 →
  zzm N n ((a : Int), (i : Int), (j : Int), xs, ()) = some ((a : Int), ((Go.Sort.scanUp (fun x => !ltI xs.toArray[a]! x) xs.toArray j i : Nat) : Int), (j : Int), xs, ())
 | k, 0, i, xs, _, hn, _, _, _, _ => absurd hn (Nat.not_lt_zero _)
 | k, n + 1, i, xs, hk, hn, ha, hj, hl, hi => by
  unfold Go.Sort.scanUp
  by_cases h : i ≤ j
  ·have h' : (i : Int) ≤ (j : Int) := by omega
   have w1 : w64 ((i : Int) + 1) = ((i + 1 : Nat) : Int) := wn (by omega) (by omega)
   have p1 : i < xs.length := by omega
   simp only [zzm, h, h', decide_true, cond_true, Int.natCast_nonneg, Int.toNat_natCast, ha, p1, zqq, Option.bind_some, zrn, w1, Bool.true_and]
   cases hc : ltI (xs.getD a 0) (xs.getD i 0) with
   | true => simp only [Bool.not_true, cond_false, Bool.false_eq_true, if_false]
   | false =>
    simp only [Bool.not_false, cond_true, if_true]
    have := pe_2 (a := a) (j := j) (k - 1) n (i + 1) xs (by omega) (by omega) ha hj hl (by omega)
    simpa only [zrn] using this
  ·have h' : ¬ (i : Int) ≤ (j : Int) := by omega
   simp only [zzm, h, h', decide_false, cond_false, Bool.false_and, Bool.false_eq_true, if_false]
theorem pe_4 {a i : Nat} (hi : 1 ≤ i) : ∀ (j n : Nat) (xs : List Int), j < n → a < xs.length → j < xs.length → xs.length ≤ 1000 →
  zzp N n ((a : Int), (i : Int), (j : Int), xs, ()) = some ((a : Int), (i : Int), ((Go.Sort.scanDown (fun x => ltI xs.toArray[a]! x) xs.toArray i j : Nat) : Int), xs, ())
 | j, 0, xs, hn, _, _, _ => absurd hn (Nat.not_lt_zero _)
 | 0, n + 1, xs, hn, ha, hj, hl => by
  have h' : ¬ (i : Int) ≤ ((0 : Nat) : Int) := by omega
  simp only [zzp, h', decide_false, cond_false, Go.Sort.scanDown]
 | j + 1, n + 1, xs, hn, ha, hj, hl => by
  unfold Go.Sort.scanDown
  by_cases h : i ≤ j + 1
  ·have h' : (i : Int) ≤ ((j + 1 : Nat) : Int) := by omega
   have w1 : w64 (((j + 1 : Nat) : Int) - 1) = (j : Int) := wn (by omega) (by omega)
   simp only [zzp, h, h', decide_true, cond_true, Int.natCast_nonneg, Int.toNat_natCast, ha, hj, zqq, Option.bind_some, zrn, w1, Bool.true_and]
   cases hc : ltI (xs.getD a 0) (xs.getD (j + 1) 0) with
   | false => simp only [cond_false, Bool.false_eq_true, if_false]
   | true =>
    simp only [cond_true, if_true]
    have := pe_4 (a := a) hi j n xs (by omega) ha (by omega) hl
    simpa only [zrn] using this
  ·have h' : ¬ (i : Int) ≤ ((j + 1 : Nat) : Int) := by omega
   simp only [zzp, h, h', decide_false, cond_false, Bool.false_and, Bool.false_eq_true, if_false]
theorem po_0 {a j : Nat} : ∀ (k n i : Nat) (xs : List Int), j + 1 - i ≤ k → k < n → a < xs.length → j < xs.length → xs.length ≤ 1000 → i ≤ 1001 →
  zz3 N n ((a : Int), (i : Int), (j : Int), xs, ()) = some ((a : Int), ((Go.Sort.scanUp (fun x => ltI x xs.toArray[a]!) xs.toArray j i : Nat) : Int), (j : Int), xs, ()) ∧
  zz2 N n ((a : Int), (i : Int), (j : Int), xs, ()) = some ((a : Int), ((Go.Sort.scanUp (fun x => ltI x xs.toArray[a]!) xs.toArray j i : Nat) : Int), (j : Int), xs, ())
 | k, 0, i, xs, _, hn, _, _, _, _ => absurd hn (Nat.not_lt_zero _)
 | k, n + 1, i, xs, hk, hn, ha, hj, hl, hi => by
  unfold Go.Sort.scanUp
  by_cases h : i ≤ j
  ·have h' : (i : Int) ≤ (j : Int) := by omega
   have w1 : w64 ((i : Int) + 1) = ((i + 1 : Nat) : Int) := wn (by omega) (by omega)
   have p1 : i < xs.length := by omega
   simp only [zz3, zz2, h, h', decide_true, cond_true, Int.natCast_nonneg, Int.toNat_natCast, ha, p1, zqq, Option.bind_some, zrn, w1, Bool.true_and]
   cases hc : ltI (xs.getD i 0) (xs.getD a 0) with
   | false => simp only [cond_false, Bool.false_eq_true, if_false, and_self]
   | true =>
    simp only [cond_true, if_true]
    have := po_0 (a := a) (j := j) (k - 1) n (i + 1) xs (by omega) (by omega) ha hj hl (by omega)
    simpa only [zrn] using this
  ·have h' : ¬ (i : Int) ≤ (j : Int) := by omega
   simp only [zz3, zz2, h, h', decide_false, cond_false, Bool.false_and, Bool.false_eq_true, if_false, and_self]
theorem po_2 {a i : Nat} (hi : 1 ≤ i) : ∀ (j n : Nat) (xs : List Int), j < n → a < xs.length → j < xs.length → xs.length ≤ 1000 →
  zza N n ((a : Int), (i : Int), (j : Int), xs, ()) = some ((a : Int), (i : Int), ((Go.Sort.scanDown (fun x => !ltI x xs.toArray[a]!) xs.toArray i j : Nat) : Int), xs, ()) ∧
  zzb N n ((a : Int), (i : Int), (j : Int), xs, ()) = some ((a : Int), (i : Int), ((Go.Sort.scanDown (fun x => !ltI x xs.toArray[a]!) xs.toArray i j : Nat) : Int), xs, ())
 | j, 0, xs, hn, _, _, _ => absurd hn (Nat.not_lt_zero _)
 | 0, n + 1, xs, hn, ha, hj, hl => by
  have h' : ¬ (i : Int) ≤ ((0 : Nat) : Int) := by omega
  simp only [zza, zzb, h', decide_false, cond_false, Go.Sort.scanDown, and_self]
 | j + 1, n + 1, xs, hn, ha, hj, hl => by
  unfold Go.Sort.scanDown
  by_cases h : i ≤ j + 1
  ·have h' : (i : Int) ≤ ((j + 1 : Nat) : Int) := by omega
   have w1 : w64 (((j + 1 : Nat) : Int) - 1) = (j : Int) := wn (by omega) (by omega)
   simp only [zza, zzb, h, h', decide_true, cond_true, Int.natCast_nonneg, Int.toNat_natCast, ha, hj, zqq, Option.bind_some, zrn, w1, Bool.true_and]
   cases hc : ltI (xs.getD (j + 1) 0) (xs.getD a 0) with
   | true => simp only [Bool.not_true, cond_false, Bool.false_eq_true, if_false, and_self]
   | false =>
    simp only [Bool.not_false, cond_true, if_true]
    have := po_2 (a := a) hi j n xs (by omega) ha (by omega) hl
    simpa only [zrn] using this
  ·have h' : ¬ (i : Int) ≤ ((j + 1 : Nat) : Int) := by omega
   simp only [zza, zzb, h, h', decide_false, cond_false, Bool.false_and, Bool.false_eq_true, if_false, and_self]
include hN
theorem pe_0 {a : Nat} : ∀ (k n i j : Nat) (xs : List Int), j + 1 - i ≤ k → k < n → 1 ≤ i → i ≤ 1001 → a < xs.length → j < xs.length → xs.length ≤ 1000 →
  zze N n ((a : Int), (i : Int), (j : Int), xs, ()) = some (((Go.Sort.partEqLoop ltI a i j xs.toArray).1 : Int), (Go.Sort.partEqLoop ltI a i j xs.toArray).2.toList, ())
 | k, 0, i, j, xs, _, hn, _, _, _, _, _ => absurd hn (Nat.not_lt_zero _)
 | k, n + 1, i, j, xs, hk, hn, h1, hi, ha, hj, hl => by
  have hN2 : 1002 < N := by rw [zrf] at hN; omega
  have e2 := pe_2 (N := N) (a := a) (j := j) (j + 1 - i) N i xs (Nat.le_refl _) (by omega) ha hj hl hi
  have g1 := Go.Sort.scanUp_ge (fun x => !ltI xs.toArray[a]! x) xs.toArray j i
  rw [Go.Sort.partEqLoop_eq]
  generalize Go.Sort.scanUp (fun x => !ltI xs.toArray[a]! x) xs.toArray j i = i2 at e2 g1 ⊢
  have e4 := pe_4 (N := N) (a := a) (i := i2) (by omega) j N xs (by omega) ha hj hl
  have g2 := Go.Sort.scanDown_le (fun x => ltI xs.toArray[a]! x) xs.toArray i2 j
  generalize Go.Sort.scanDown (fun x => ltI xs.toArray[a]! x) xs.toArray i2 j = j2 at e4 g2 ⊢
  simp only [zze, e2, e4, Option.bind_some]
  by_cases h : i2 > j2
  ·have h' : (i2 : Int) > (j2 : Int) := by omega
   simp only [h, h', decide_true, cond_true, if_true]
  ·have h' : ¬ (i2 : Int) > (j2 : Int) := by omega
   have p1 : j2 < xs.length := by omega
   have p2 : i2 < xs.length := by omega
   have p3 : j2 < (xs.set i2 (xs.getD j2 0)).length := by simpa using p1
   have es : (xs.set i2 (xs.getD j2 0)).set j2 (xs.getD i2 0) = swL xs i2 j2 := rfl
   have w1 : w64 ((i2 : Int) + 1) = ((i2 + 1 : Nat) : Int) := wn (by omega) (by omega)
   have w2 : w64 ((j2 : Int) - 1) = ((j2 - 1 : Nat) : Int) := wn (by omega) (by omega)
   simp only [h, h', decide_false, cond_false, if_false, Int.natCast_nonneg, Int.toNat_natCast, p1, p2, p3, decide_true, cond_true, es, w1, w2]
   rw [pe_0 (k - 1) n (i2 + 1) (j2 - 1) (swL xs i2 j2) (by omega) (by omega) (by omega) (by omega) (by simpa using ha) (by simp; omega) (by simpa using hl), zsm]
theorem pe_ok {a b p : Nat} {xs : List Int} (hab : a < b) (hb : b ≤ xs.length) (hl : xs.length ≤ 1000) (hp : p < b) :
  zy9 N ((a : Int), (b : Int), (p : Int), xs, ()) = some (((Go.Sort.partitionEqual ltI xs.toArray a b p).1 : Int), (Go.Sort.partitionEqual ltI xs.toArray a b p).2.toList, ()) := by
 have w1 : w64 ((a : Int) + 1) = ((a + 1 : Nat) : Int) := wn (by omega) (by omega)
 have w2 : w64 ((b : Int) - 1) = ((b - 1 : Nat) : Int) := wn (by omega) (by omega)
 have p1 : p < xs.length := by omega
 have p2 : a < xs.length := by omega
 have p3 : p < (xs.set a (xs.getD p 0)).length := by simpa using p1
 have es : (xs.set a (xs.getD p 0)).set p (xs.getD a 0) = swL xs a p := rfl
 have e := pe_0 hN (a := a) (b - 1 + 1 - (a + 1)) N (a + 1) (b - 1) (swL xs a p) (Nat.le_refl _) (by rw [zrf] at hN; omega) (by omega) (by omega) (by simpa using p2) (by simp; omega) (by simpa using hl)
 simp only [zy9, Int.natCast_nonneg, Int.toNat_natCast, p1, p2, p3, decide_true, cond_true, es, w1, w2, e, Option.bind_some, Go.Sort.partitionEqual, zsm]
theorem po_4 {a : Nat} : ∀ (k n i j : Nat) (xs : List Int), j + 1 - i ≤ k → k < n → 1 ≤ i → i ≤ 1001 → a < xs.length → j < xs.length → xs.length ≤ 1000 →
  zz6 N n ((a : Int), (i : Int), (j : Int), xs, ()) = some ((a : Int), ((Go.Sort.partLoop ltI a i j xs.toArray).1 : Int), (Go.Sort.partLoop ltI a i j xs.toArray).2.toList, ())
 | k, 0, i, j, xs, _, hn, _, _, _, _, _ => absurd hn (Nat.not_lt_zero _)
 | k, n + 1, i, j, xs, hk, hn, h1, hi, ha, hj, hl => by
  have hN2 : 1002 < N := by rw [zrf] at hN; omega
  have e2 := (po_0 (N := N) (a := a) (j := j) (j + 1 - i) N i xs (Nat.le_refl _) (by omega) ha hj hl hi).2
  have g1 := Go.Sort.scanUp_ge (fun x => ltI x xs.toArray[a]!) xs.toArray j i
  rw [Go.Sort.partLoop_eq]
  generalize Go.Sort.scanUp (fun x => ltI x xs.toArray[a]!) xs.toArray j i = i2 at e2 g1 ⊢
  have e4 := (po_2 (N := N) (a := a) (i := i2) (by omega) j N xs (by omega) ha hj hl).2
  have g2 := Go.Sort.scanDown_le (fun x => !ltI x xs.toArray[a]!) xs.toArray i2 j
  generalize Go.Sort.scanDown (fun x => !ltI x xs.toArray[a]!) xs.toArray i2 j = j2 at e4 g2 ⊢
  simp only [zz6, e2, e4, Option.bind_some]
  by_cases h : i2 > j2
  ·have h' : (i2 : Int) > (j2 : Int) := by omega
   simp only [h, h', decide_true, cond_true, if_true]
  ·have h' : ¬ (i2 : Int) > (j2 : Int) := by omega
   have p1 : j2 < xs.length := by omega
   have p2 : i2 < xs.length := by omega
   have p3 : j2 < (xs.set i2 (xs.getD j2 0)).length := by simpa using p1
   have es : (xs.set i2 (xs.getD j2 0)).set j2 (xs.getD i2 0) = swL xs i2 j2 := rfl
   have w1 : w64 ((i2 : Int) + 1) = ((i2 + 1 : Nat) : Int) := wn (by omega) (by omega)
   have w2 : w64 ((j2 : Int) - 1) = ((j2 - 1 : Nat) : Int) := wn (by omega) (by omega)
   simp only [h, h', decide_false, cond_false, if_false, Int.natCast_nonneg, Int.toNat_natCast, p1, p2, p3, decide_true, cond_true, es, w1, w2]
   rw [po_4 (k - 1) n (i2 + 1) (j2 - 1) (swL xs i2 j2) (by omega) (by omega) (by omega) (by omega) (by simpa using ha) (by simp; omega) (by simpa using hl), zsm]
theorem partLoop_le {a : Nat} : ∀ (k i j : Nat) (d : Array Int), j + 1 - i ≤ k → (Go.Sort.partLoop ltI a i j d).1 ≤ j ∧ (Go.Sort.partLoop ltI a i j d).2.size = d.size
 | 0, i, j, d, h => by
  rw [Go.Sort.partLoop_eq]
  split
  ·exact ⟨Go.Sort.scanDown_le _ _ _ _, rfl⟩
  ·rename_i hgt
   have h1 := Go.Sort.scanUp_ge (fun x => ltI x d[a]!) d j i
   have h2 := Go.Sort.scanDown_le (fun x => !ltI x d[a]!) d (Go.Sort.scanUp (fun x => ltI x d[a]!) d j i) j
   omega
 | k + 1, i, j, d, h => by
  rw [Go.Sort.partLoop_eq]
  split
  ·exact ⟨Go.Sort.scanDown_le _ _ _ _, rfl⟩
  ·rename_i hgt
   have h1 := Go.Sort.scanUp_ge (fun x => ltI x d[a]!) d j i
   have h2 := Go.Sort.scanDown_le (fun x => !ltI x d[a]!) d (Go.Sort.scanUp (fun x => ltI x d[a]!) d j i) j
   have h3 := partLoop_le (a := a) k (Go.Sort.scanUp (fun x => ltI x d[a]!) d j i + 1) (Go.Sort.scanDown (fun x => !ltI x d[a]!) d (Go.Sort.scanUp (fun x => ltI x d[a]!) d j i) j - 1) (Go.Sort.swp d (Go.Sort.scanUp (fun x => ltI x d[a]!) d j i) (Go.Sort.scanDown (fun x => !ltI x d[a]!) d (Go.Sort.scanUp (fun x => ltI x d[a]!) d j i) j)) (by omega)
   rw [Go.Sort.size_swp] at h3
   exact ⟨by omega, h3.2⟩
theorem po_ok {a b p : Nat} {xs : List Int} (hab : a + 1 < b) (hb : b ≤ xs.length) (hl : xs.length ≤ 1000) (hp : p < b) :
  zxp N ((a : Int), (b : Int), (p : Int), xs, ()) = some (((Go.Sort.partition ltI xs.toArray a b p).1 : Int), (Go.Sort.partition ltI xs.toArray a b p).2.1, (Go.Sort.partition ltI xs.toArray a b p).2.2.toList, ()) := by
 have hN2 : 1002 < N := by rw [zrf] at hN; omega
 have w1 : w64 ((a : Int) + 1) = ((a + 1 : Nat) : Int) := wn (by omega) (by omega)
 have w2 : w64 ((b : Int) - 1) = ((b - 1 : Nat) : Int) := wn (by omega) (by omega)
 have p1 : p < xs.length := by omega
 have p2 : a < xs.length := by omega
 have p3 : p < (xs.set a (xs.getD p 0)).length := by simpa using p1
 have es : (xs.set a (xs.getD p 0)).set p (xs.getD a 0) = swL xs a p := rfl
 have hys : (swL xs a p).length = xs.length := swL_len
 simp only [zxp, Int.natCast_nonneg, Int.toNat_natCast, p1, p2, p3, decide_true, cond_true, es, w1, w2, Go.Sort.partition, ← zsm]
 generalize swL xs a p = ys at hys ⊢
 have q1 : a < ys.length := by omega
 have e2 := (po_0 (N := N) (a := a) (j := b - 1) (b - 1 + 1 - (a + 1)) N (a + 1) ys (Nat.le_refl _) (by omega) q1 (by omega) (by omega) (by omega)).1
 have g1 := Go.Sort.scanUp_ge (fun x => ltI x ys.toArray[a]!) ys.toArray (b - 1) (a + 1)
 generalize Go.Sort.scanUp (fun x => ltI x ys.toArray[a]!) ys.toArray (b - 1) (a + 1) = i2 at e2 g1 ⊢
 have e4 := (po_2 (N := N) (a := a) (i := i2) (by omega) (b - 1) N ys (by omega) q1 (by omega) (by omega)).1
 have g2 := Go.Sort.scanDown_le (fun x => !ltI x ys.toArray[a]!) ys.toArray i2 (b - 1)
 generalize Go.Sort.scanDown (fun x => !ltI x ys.toArray[a]!) ys.toArray i2 (b - 1) = j2 at e4 g2 ⊢
 simp only [e2, e4, Option.bind_some]
 have s1 : j2 < ys.length := by omega
 by_cases h : i2 > j2
 ·have h' : (i2 : Int) > (j2 : Int) := by omega
  have s2 : a < (ys.set j2 (ys.getD a 0)).length := by simpa using q1
  have es2 : (ys.set j2 (ys.getD a 0)).set a (ys.getD j2 0) = swL ys j2 a := rfl
  simp only [h, h', decide_true, cond_true, if_true, Int.natCast_nonneg, Int.toNat_natCast, q1, s1, s2, es2, ← zsm]
 ·have h' : ¬ (i2 : Int) > (j2 : Int) := by omega
  have s2 : i2 < ys.length := by omega
  have s3 : j2 < (ys.set i2 (ys.getD j2 0)).length := by simpa using s1
  have es2 : (ys.set i2 (ys.getD j2 0)).set j2 (ys.getD i2 0) = swL ys i2 j2 := rfl
  have w3 : w64 ((i2 : Int) + 1) = ((i2 + 1 : Nat) : Int) := wn (by omega) (by omega)
  have w4 : w64 ((j2 : Int) - 1) = ((j2 - 1 : Nat) : Int) := wn (by omega) (by omega)
  have e6 := po_4 hN (a := a) (j2 - 1 + 1 - (i2 + 1)) N (i2 + 1) (j2 - 1) (swL ys i2 j2) (Nat.le_refl _) (by omega) (by omega) (by omega) (by simpa using q1) (by simp; omega) (by simp; omega)
  have hL := partLoop_le hN (a := a) (j2 - 1 + 1 - (i2 + 1)) (i2 + 1) (j2 - 1) (swL ys i2 j2).toArray (Nat.le_refl _)
  simp only [h, h', decide_true, decide_false, cond_true, cond_false, if_false, Int.natCast_nonneg, Int.toNat_natCast, s1, s2, s3, es2, w3, w4, ← zsm, e6, Option.bind_some]
  generalize Go.Sort.partLoop ltI a (i2 + 1) (j2 - 1) (swL ys i2 j2).toArray = r at hL ⊢
  obtain ⟨m, d⟩ := r
  dsimp only at hL ⊢
  have hd : d.toList.length = ys.length := by have := hL.2; simp at this; simpa using this
  have s4 : a < d.toList.length := by omega
  have s5 : m < d.toList.length := by omega
  have s6 : a < (d.toList.set m (d.toList.getD a 0)).length := by simpa using s4
  have es3 : (d.toList.set m (d.toList.getD a 0)).set a (d.toList.getD m 0) = swL d.toList m a := rfl
  have e7 : swL d.toList m a = (Go.Sort.swp d m a).toList := by
   have := zsm (xs := d.toList) (i := m) (j := a)
   rw [Array.toArray_toList] at this
   rw [← this]
  simp only [s4, s5, s6, decide_true, cond_true, es3, e7]
omit hN in
theorem pi_2 {a b : Nat} {m : Int} : ∀ (k n i : Nat) (xs : List Int), b - i ≤ k → k < n → b ≤ xs.length → xs.length ≤ 1000 → 1 ≤ i → i ≤ 1001 →
  zzr N n ((a : Int), (b : Int), (i : Int), m, xs, ()) = some ((a : Int), (b : Int), ((Go.Sort.scanSorted ltI xs.toArray b i : Nat) : Int), m, xs, ())
 | k, 0, i, xs, _, hn, _, _, _, _ => absurd hn (Nat.not_lt_zero _)
 | k, n + 1, i, xs, hk, hn, hb, hl, h1, hi => by
  unfold Go.Sort.scanSorted
  by_cases h : i < b
  ·have h' : (i : Int) < (b : Int) := by omega
   have w1 : w64 ((i : Int) + 1) = ((i + 1 : Nat) : Int) := wn (by omega) (by omega)
   have w2 : w64 ((i : Int) - 1) = ((i - 1 : Nat) : Int) := wn (by omega) (by omega)
   have p1 : i < xs.length := by omega
   have p2 : i - 1 < xs.length := by omega
   simp only [zzr, h, h', decide_true, cond_true, Int.natCast_nonneg, Int.toNat_natCast, p1, p2, w1, w2, zqq, Option.bind_some, zrn, Bool.true_and]
   cases hc : ltI (xs.getD i 0) (xs.getD (i - 1) 0) with
   | true => simp only [Bool.not_true, cond_false, Bool.false_eq_true, if_false]
   | false =>
    simp only [Bool.not_false, cond_true, if_true]
    exact pi_2 (k - 1) n (i + 1) xs (by omega) (by omega) hb hl (by omega) (by omega)
  ·have h' : ¬ (i : Int) < (b : Int) := by omega
   simp only [zzr, h, h', decide_false, cond_false, Bool.false_and, Bool.false_eq_true, if_false]
omit hN in
theorem pi_4 {a b i m : Int} : ∀ (j n : Nat) (xs : List Int), j < n → j < xs.length → xs.length ≤ 1000 →
  zzs N n (a, b, i, m, (j : Int), xs, ()) = some (a, b, i, m, (Go.Sort.shiftDown ltI j xs.toArray).toList, ())
 | j, 0, xs, hn, _, _ => absurd hn (Nat.not_lt_zero _)
 | 0, n + 1, xs, hn, hj, hl => by
  simp only [zzs, Int.natCast_zero, show decide ((0 : Int) ≥ 1) = false from rfl, cond_false, Go.Sort.shiftDown]
 | j + 1, n + 1, xs, hn, hj, hl => by
  have h1 : ((j + 1 : Nat) : Int) ≥ 1 := by omega
  have w1 : w64 (((j + 1 : Nat) : Int) - 1) = (j : Int) := wn (by omega) (by omega)
  have p1 : j < xs.length := by omega
  have p2 : j < (xs.set (j + 1) (xs.getD j 0)).length := by simpa using p1
  have es : (xs.set (j + 1) (xs.getD j 0)).set j (xs.getD (j + 1) 0) = swL xs (j + 1) j := rfl
  unfold Go.Sort.shiftDown
  simp only [zzs, h1, w1, Int.natCast_nonneg, Int.toNat_natCast, hj, p1, p2, decide_true, cond_true, zqq, Option.bind_some, zrn, es]
  cases hc : ltI (xs.getD (j + 1) 0) (xs.getD j 0) with
  | false => simp only [Bool.not_false, cond_true, if_true]
  | true =>
   simp only [Bool.not_true, cond_false, Bool.false_eq_true, if_false]
   rw [pi_4 j n (swL xs (j + 1) j) (by omega) (by simpa using p1) (by simpa using hl), zsm]
omit hN in
theorem pi_6 {b : Nat} {a i m : Int} : ∀ (k n j : Nat) (xs : List Int), b - j ≤ k → k < n → b ≤ xs.length → xs.length ≤ 1000 → 1 ≤ j → j ≤ 1001 →
  zzt N n (a, (b : Int), i, m, (j : Int), xs, ()) = some (a, (b : Int), i, m, (Go.Sort.shiftUp ltI b j xs.toArray).toList, ())
 | k, 0, j, xs, _, hn, _, _, _, _ => absurd hn (Nat.not_lt_zero _)
 | k, n + 1, j, xs, hk, hn, hb, hl, h1, hj => by
  unfold Go.Sort.shiftUp
  by_cases h : j < b
  ·have h' : (j : Int) < (b : Int) := by omega
   have w1 : w64 ((j : Int) + 1) = ((j + 1 : Nat) : Int) := wn (by omega) (by omega)
   have w2 : w64 ((j : Int) - 1) = ((j - 1 : Nat) : Int) := wn (by omega) (by omega)
   have p1 : j < xs.length := by omega
   have p2 : j - 1 < xs.length := by omega
   have p3 : j - 1 < (xs.set j (xs.getD (j - 1) 0)).length := by simpa using p2
   have es : (xs.set j (xs.getD (j - 1) 0)).set (j - 1) (xs.getD j 0) = swL xs j (j - 1) := rfl
   simp only [zzt, h, h', decide_true, cond_true, Int.natCast_nonneg, Int.toNat_natCast, p1, p2, p3, w1, w2, zqq, Option.bind_some, zrn, es, if_true]
   cases hc : ltI (xs.getD j 0) (xs.getD (j - 1) 0) with
   | false => simp only [Bool.not_false, cond_true, if_true]
   | true =>
    simp only [Bool.not_true, cond_false, Bool.false_eq_true, if_false]
    rw [pi_6 (k - 1) n (j + 1) (swL xs j (j - 1)) (by omega) (by omega) (by simpa using hb) (by simpa using hl) (by omega) (by omega), zsm]
  ·have h' : ¬ (j : Int) < (b : Int) := by omega
   simp only [zzt, h, h', decide_false, cond_false, if_false]
omit hN in
theorem shiftDown_size : ∀ (j : Nat) (d : Array Int), (Go.Sort.shiftDown ltI j d).size = d.size
 | 0, d => rfl
 | j + 1, d => by
  unfold Go.Sort.shiftDown
  split
  ·rfl
  ·rw [shiftDown_size j, Go.Sort.size_swp]
omit hN in
theorem shiftUp_size {b : Nat} : ∀ (k j : Nat) (d : Array Int), b - j ≤ k → (Go.Sort.shiftUp ltI b j d).size = d.size
 | 0, j, d, h => by unfold Go.Sort.shiftUp; rw [if_neg (by omega)]
 | k + 1, j, d, h => by
  unfold Go.Sort.shiftUp
  split
  ·split
   ·rfl
   ·rw [shiftUp_size k (j + 1) _ (by omega), Go.Sort.size_swp]
  ·rfl
omit hN in
theorem scanSorted_le {d : Array Int} {b : Nat} : ∀ (k i : Nat), b - i ≤ k → i ≤ b → i ≤ Go.Sort.scanSorted ltI d b i ∧ Go.Sort.scanSorted ltI d b i ≤ b
 | 0, i, h, hi => by
  unfold Go.Sort.scanSorted
  have : ¬ i < b := by omega
  simp only [this, decide_false, Bool.false_and, Bool.false_eq_true, if_false]; omega
 | k + 1, i, h, hi => by
  unfold Go.Sort.scanSorted
  split
  ·rename_i hc
   simp only [Bool.and_eq_true, decide_eq_true_eq] at hc
   have := scanSorted_le (d := d) (b := b) k (i + 1) (by omega) (by omega)
   omega
  ·omega
theorem pi_0 {a b : Nat} (hab : a < b) : ∀ (s n i q : Nat) (xs : List Int), q + s = 5 → s < n → a < i → i ≤ b → b ≤ xs.length → xs.length ≤ 1000 →
  ∃ r, zzw N n ((a : Int), (b : Int), (i : Int), (q : Int), xs, ()) = some r ∧
    (r = .inl ((Go.Sort.partialIns ltI a b s i xs.toArray).1.toList, ()) ∧ (Go.Sort.partialIns ltI a b s i xs.toArray).2 = false ∨ r = .inr ((Go.Sort.partialIns ltI a b s i xs.toArray).2, (Go.Sort.partialIns ltI a b s i xs.toArray).1.toList, ()))
 | s, 0, i, q, xs, _, hn, _, _, _, _ => absurd hn (Nat.not_lt_zero _)
 | 0, n + 1, i, q, xs, hq, hn, ha, hi, hb, hl => by
  have h : ¬ (q : Int) < 5 := by omega
  exact ⟨.inl (xs, ()), by simp only [zzw, h, decide_false, cond_false], .inl ⟨by simp only [Go.Sort.partialIns], rfl⟩⟩
 | s + 1, n + 1, i, q, xs, hq, hn, ha, hi, hb, hl => by
  have hN2 : 1002 < N := by rw [zrf] at hN; omega
  have h : (q : Int) < 5 := by omega
  have e2 := pi_2 (N := N) (a := a) (b := b) (m := (q : Int)) (b - i) N i xs (Nat.le_refl _) (by omega) hb hl (by omega) (by omega)
  have g1 := scanSorted_le (d := xs.toArray) (b := b) (b - i) i (Nat.le_refl _) hi
  simp only [zzw, h, decide_true, cond_true, e2, Option.bind_some, Go.Sort.partialIns]
  generalize Go.Sort.scanSorted ltI xs.toArray b i = i2 at g1 ⊢
  have wq : w64 ((q : Int) + 1) = ((q + 1 : Nat) : Int) := wn (by omega) (by omega)
  have w0 : w64 ((b : Int) - (a : Int)) = ((b - a : Nat) : Int) := wn (by omega) (by omega)
  have w1 : w64 ((i2 : Int) - 1) = ((i2 - 1 : Nat) : Int) := wn (by omega) (by omega)
  have w2 : w64 ((i2 : Int) - (a : Int)) = ((i2 - a : Nat) : Int) := wn (by omega) (by omega)
  have w3 : w64 ((b : Int) - (i2 : Int)) = ((b - i2 : Nat) : Int) := wn (by omega) (by omega)
  have w4 : w64 ((i2 : Int) + 1) = ((i2 + 1 : Nat) : Int) := wn (by omega) (by omega)
  by_cases c1 : i2 = b
  ·have c1' : ((i2 : Int) == (b : Int)) = true := by simp [c1]
   exact ⟨.inr (true, xs, ()), by simp only [c1', cond_true], .inr (by simp only [c1, if_true])⟩
  ·have c1' : ((i2 : Int) == (b : Int)) = false := by simp; omega
   by_cases c2 : b - a < 50
   ·have c2' : ((b - a : Nat) : Int) < 50 := by omega
    exact ⟨.inr (false, xs, ()), by simp only [c1', cond_false, w0, c2', decide_true, cond_true], .inr (by simp only [c1, c2, if_true, if_false])⟩
   ·have c2' : ¬ ((b - a : Nat) : Int) < 50 := by omega
    have p1 : i2 < xs.length := by omega
    have p2 : i2 - 1 < xs.length := by omega
    have p3 : i2 - 1 < (xs.set i2 (xs.getD (i2 - 1) 0)).length := by simpa using p2
    have es : (xs.set i2 (xs.getD (i2 - 1) 0)).set (i2 - 1) (xs.getD i2 0) = swL xs i2 (i2 - 1) := rfl
    simp only [c1, c1', c2, c2', cond_false, if_false, w0, w1, w2, w3, w4, wq, decide_false, decide_true, cond_true, Int.natCast_nonneg, Int.toNat_natCast, p1, p2, p3, es, ← zsm]
    have hys : (swL xs i2 (i2 - 1)).length = xs.length := swL_len
    generalize swL xs i2 (i2 - 1) = ys at hys ⊢
    have key : ∀ zs : List Int, zs.length = xs.length → ∃ r, (bif decide (((b - i2 : Nat) : Int) ≥ 2) then
       (zzt N N ((a : Int), (b : Int), (i2 : Int), (q : Int), ((i2 + 1 : Nat) : Int), zs, ())).bind fun o27 => zzw N n (o27.1, o27.2.1, o27.2.2.1, w64 (o27.2.2.2.1 + 1), o27.2.2.2.2.1, ())
      else zzw N n ((a : Int), (b : Int), (i2 : Int), ((q + 1 : Nat) : Int), zs, ())) = some r ∧
      (r = .inl ((Go.Sort.partialIns ltI a b s i2 (if b - i2 ≥ 2 then Go.Sort.shiftUp ltI b (i2 + 1) zs.toArray else zs.toArray)).1.toList, ()) ∧ (Go.Sort.partialIns ltI a b s i2 (if b - i2 ≥ 2 then Go.Sort.shiftUp ltI b (i2 + 1) zs.toArray else zs.toArray)).2 = false ∨
       r = .inr ((Go.Sort.partialIns ltI a b s i2 (if b - i2 ≥ 2 then Go.Sort.shiftUp ltI b (i2 + 1) zs.toArray else zs.toArray)).2, (Go.Sort.partialIns ltI a b s i2 (if b - i2 ≥ 2 then Go.Sort.shiftUp ltI b (i2 + 1) zs.toArray else zs.toArray)).1.toList, ())) := by
     intro zs hz
     by_cases c4 : b - i2 ≥ 2
     ·have c4' : ((b - i2 : Nat) : Int) ≥ 2 := by omega
      have e6 := pi_6 (N := N) (b := b) (a := (a : Int)) (i := (i2 : Int)) (m := (q : Int)) (b - (i2 + 1)) N (i2 + 1) zs (Nat.le_refl _) (by omega) (by omega) (by omega) (by omega) (by omega)
      have hsz := shiftUp_size (b := b) (b - (i2 + 1)) (i2 + 1) zs.toArray (Nat.le_refl _)
      have hlen : (Go.Sort.shiftUp ltI b (i2 + 1) zs.toArray).toList.length = xs.length := by rw [Array.length_toList, hsz]; simpa using hz
      have ih := pi_0 hab s n i2 (q + 1) (Go.Sort.shiftUp ltI b (i2 + 1) zs.toArray).toList (by omega) (by omega) (by omega) (by omega) (by omega) (by omega)
      rw [Array.toArray_toList] at ih
      simp only [c4, c4', decide_true, cond_true, if_true, e6, Option.bind_some, wq]
      exact ih
     ·have c4' : ¬ ((b - i2 : Nat) : Int) ≥ 2 := by omega
      simp only [c4, c4', decide_false, cond_false, if_false]
      exact pi_0 hab s n i2 (q + 1) zs (by omega) (by omega) (by omega) (by omega) (by omega) (by omega)
    by_cases c3 : i2 - a ≥ 2
    ·have c3' : ((i2 - a : Nat) : Int) ≥ 2 := by omega
     have e4 := pi_4 (N := N) (a := (a : Int)) (b := (b : Int)) (i := (i2 : Int)) (m := (q : Int)) (i2 - 1) N ys (by omega) (by omega) (by omega)
     have hsz := shiftDown_size (i2 - 1) ys.toArray
     have k := key (Go.Sort.shiftDown ltI (i2 - 1) ys.toArray).toList (by rw [Array.length_toList, hsz]; simpa using hys)
     rw [Array.toArray_toList] at k
     simp only [c3, c3', decide_true, cond_true, if_true, e4, Option.bind_some, w3, w4, wq]
     exact k
    ·have c3' : ¬ ((i2 - a : Nat) : Int) ≥ 2 := by omega
     simp only [c3, c3', decide_false, cond_false, if_false, Option.bind_some, w3, w4, wq]
     exact key ys hys
theorem pi_ok {a b : Nat} {xs : List Int} (hab : a < b) (hb : b ≤ xs.length) (hl : xs.length ≤ 1000) :
  zz1 N ((a : Int), (b : Int), xs, ()) = some ((Go.Sort.partialInsertionSort ltI xs.toArray a b).2, (Go.Sort.partialInsertionSort ltI xs.toArray a b).1.toList, ()) := by
 have w1 : w64 ((a : Int) + 1) = ((a + 1 : Nat) : Int) := wn (by omega) (by omega)
 obtain ⟨r, e, h⟩ := pi_0 hN hab 5 N (a + 1) 0 xs rfl (by rw [zrf] at hN; omega) (by omega) (by omega) hb hl
 simp only [Int.natCast_zero] at e
 simp only [zz1, w1, e, Option.bind_some, Go.Sort.partialInsertionSort]
 rcases h with ⟨rfl, h2⟩ | rfl
 ·simp only [Sum.elim_inl, h2]
 ·simp only [Sum.elim_inr]
end
theorem wrapU {x : Int} (h1 : 0 ≤ x) (h2 : x < 18446744073709551616) : IntKind.wrap .u64 x = x := by
 have e1 : (2 : Int) ^ 64 = 18446744073709551616 := rfl
 simp only [IntKind.wrap, IntKind.signed, IntKind.bits, Bool.false_and, e1]
 exact Int.emod_eq_of_lt h1 h2
section
variable {N : Nat} (hN : lim < N)
def npOk (l : Nat) : Bool := match zwf 0 ((l : Int), ()) with
 | some (m, _) => decide (1 ≤ m) && decide (m ≤ 2 * (l : Int))
 | none => false
theorem npAll : ((List.range 256).all fun l => decide (l = 0) || npOk l) = true := by decide +kernel
def lnOk (l : Nat) : Bool := match zvy 0 ((l : Int), ()) with
 | some (m, _) => decide (0 ≤ m) && decide (m ≤ 64)
 | none => false
theorem lnAll : ((List.range 256).all fun l => lnOk l) = true := by decide +kernel
theorem np_ok {l : Nat} (h1 : 1 ≤ l) (h2 : l ≤ 255) : ∃ m : Int, zwf N ((l : Int), ()) = some (m, ()) ∧ 1 ≤ m ∧ m ≤ 2 * (l : Int) := by
 have h := List.all_eq_true.1 npAll l (by simp; omega)
 have e : zwf N ((l : Int), ()) = zwf 0 ((l : Int), ()) := rfl
 have h0 : decide (l = 0) = false := by simp; omega
 rw [h0, Bool.false_or, npOk] at h
 rw [e]
 cases hq : zwf 0 ((l : Int), ()) with
 | none => rw [hq] at h; cases h
 | some r =>
  obtain ⟨m, ⟨⟩⟩ := r
  rw [hq] at h
  simp only [Bool.and_eq_true, decide_eq_true_eq] at h
  exact ⟨m, rfl, h.1, h.2⟩
theorem ln_ok {l : Nat} (h2 : l ≤ 255) : ∃ m : Nat, zvy N ((l : Int), ()) = some ((m : Int), ()) ∧ m ≤ 64 := by
 have h := List.all_eq_true.1 lnAll l (by simp; omega)
 have e : zvy N ((l : Int), ()) = zvy 0 ((l : Int), ()) := rfl
 rw [lnOk] at h
 rw [e]
 cases hq : zvy 0 ((l : Int), ()) with
 | none => rw [hq] at h; cases h
 | some r =>
  obtain ⟨m, ⟨⟩⟩ := r
  rw [hq] at h
  simp only [Bool.and_eq_true, decide_eq_true_eq] at h
  obtain ⟨k, rfl⟩ := Int.eq_ofNat_of_zero_le h.1
  exact ⟨k, rfl, by omega⟩
theorem xor_ok (r : Int) : ∃ v, zp9 N (r, ()) = some (v, v, ()) := ⟨_, rfl⟩
theorem mask_ok {r m : Int} (h1 : 1 ≤ m) (h2 : m ≤ 1000) : ∃ k : Nat, IntKind.wrap .u64 (((zsp .u64 r &&& zsp .u64 (IntKind.wrap .u64 (m - 1))).toNat : Nat) : Int) = (k : Int) ∧ (k : Int) < m := by
 rw [wrapU (x := m - 1) (by omega) (by omega)]
 have e : (zsp .u64 r &&& zsp .u64 (m - 1)).toNat = (zsp .u64 r).toNat &&& (zsp .u64 (m - 1)).toNat := BitVec.toNat_and _ _
 have e2 : (zsp .u64 (m - 1)).toNat = (m - 1).toNat := by
  simp only [zsp, BitVec.toNat_ofInt, IntKind.bits]
  omega
 have h3 : (zsp .u64 r).toNat &&& (m - 1).toNat ≤ (m - 1).toNat := Nat.and_le_right
 rw [e, e2]
 refine ⟨(zsp .u64 r).toNat &&& (m - 1).toNat, ?_, by omega⟩
 rw [wrapU (by omega) (by omega)]
theorem brk_0 {a b : Nat} {m : Int} (hab : a + 8 ≤ b) (hm1 : 1 ≤ m) (hm2 : m ≤ 2 * ((b - a : Nat) : Int)) : ∀ (k n idx : Nat) (xs : List Int) (r : Int), idx + k = a + (b - a) / 4 * 2 + 2 → k < n → a ≤ idx → b ≤ xs.length → xs.length ≤ 255 →
  ∃ ys, zzi N n ((a : Int), ((b - a : Nat) : Int), m, (idx : Int), xs, r, ()) = some (ys, ()) ∧ Go.Sort.PermIn a b xs.toArray ys.toArray
 | k, 0, idx, xs, r, _, hn, _, _, _ => absurd hn (Nat.not_lt_zero _)
 | k, n + 1, idx, xs, r, hk, hn, hi, hb, hl => by
  have w1 : w64 (Int.tdiv ((b - a : Nat) : Int) 4) = (((b - a) / 4 : Nat) : Int) := by
   rw [Int.tdiv_eq_ediv_of_nonneg (by omega), zyy (by omega) (by omega)]; omega
  have w2 : w64 ((((b - a) / 4 : Nat) : Int) * 2) = (((b - a) / 4 * 2 : Nat) : Int) := wn (by omega) (by omega)
  have w3 : w64 ((a : Int) + (((b - a) / 4 * 2 : Nat) : Int)) = ((a + (b - a) / 4 * 2 : Nat) : Int) := wn (by omega) (by omega)
  have w4 : w64 (((a + (b - a) / 4 * 2 : Nat) : Int) + 1) = ((a + (b - a) / 4 * 2 + 1 : Nat) : Int) := wn (by omega) (by omega)
  simp only [zzi, show decide ((4 : Int) = 0) = false from rfl, cond_false, w1, w2, w3, w4]
  by_cases h : k = 0
  ·have h' : ¬ (idx : Int) ≤ ((a + (b - a) / 4 * 2 + 1 : Nat) : Int) := by omega
   exact ⟨xs, by simp only [h', decide_false, cond_false], Go.Sort.permIn_refl _ _ _⟩
  ·have h' : (idx : Int) ≤ ((a + (b - a) / 4 * 2 + 1 : Nat) : Int) := by omega
   obtain ⟨v, hv⟩ := xor_ok (N := N) r
   obtain ⟨q, hq1, hq2⟩ := mask_ok (r := v) (m := m) hm1 (by omega)
   have w5 : w64 (q : Int) = (q : Int) := wn rfl (by omega)
   have w6 : w64 ((idx : Int) + 1) = ((idx + 1 : Nat) : Int) := wn (by omega) (by omega)
   have key : ∀ o : Nat, o < b - a → ∃ ys, (bif decide (0 ≤ w64 ((a : Int) + (o : Int))) then bif decide ((w64 ((a : Int) + (o : Int))).toNat < xs.length) then
      bif decide (0 ≤ (idx : Int)) then bif decide ((idx : Int).toNat < xs.length) then bif decide (0 ≤ (idx : Int)) then bif decide ((idx : Int).toNat < xs.length) then
      bif decide (0 ≤ w64 ((a : Int) + (o : Int))) then bif decide ((w64 ((a : Int) + (o : Int))).toNat < (xs.set (idx : Int).toNat (xs.getD (w64 ((a : Int) + (o : Int))).toNat 0)).length) then
      zzi N n ((a : Int), ((b - a : Nat) : Int), m, w64 ((idx : Int) + 1), (xs.set (idx : Int).toNat (xs.getD (w64 ((a : Int) + (o : Int))).toNat 0)).set (w64 ((a : Int) + (o : Int))).toNat (xs.getD (idx : Int).toNat 0), v, ())
      else none else none else none else none else none else none else none else none) = some (ys, ()) ∧ Go.Sort.PermIn a b xs.toArray ys.toArray := by
    intro o ho
    have w7 : w64 ((a : Int) + (o : Int)) = ((a + o : Nat) : Int) := wn (by omega) (by omega)
    have p1 : a + o < xs.length := by omega
    have p2 : idx < xs.length := by omega
    have p3 : a + o < (xs.set idx (xs.getD (a + o) 0)).length := by simpa using p1
    have es : (xs.set idx (xs.getD (a + o) 0)).set (a + o) (xs.getD idx 0) = swL xs idx (a + o) := rfl
    obtain ⟨ys, e, hP⟩ := brk_0 hab hm1 hm2 (k - 1) n (idx + 1) (swL xs idx (a + o)) v (by omega) (by omega) (by omega) (by simpa using hb) (by simpa using hl)
    refine ⟨ys, by simp only [w7, Int.natCast_nonneg, Int.toNat_natCast, p1, p2, p3, decide_true, cond_true, es, w6, e], ?_⟩
    rw [zsm] at hP
    exact Go.Sort.permIn_trans _ _ _ a b (Go.Sort.swp_permIn xs.toArray a b idx (a + o) hi (by omega) (by omega) (by omega) (by simpa using hb)) hP
   simp only [h', decide_true, cond_true, hv, Option.bind_some, hq1, w5]
   by_cases c : q ≥ b - a
   ·have c' : (q : Int) ≥ ((b - a : Nat) : Int) := by omega
    have w8 : w64 ((q : Int) - ((b - a : Nat) : Int)) = ((q - (b - a) : Nat) : Int) := wn (by omega) (by omega)
    simp only [c', decide_true, cond_true, Option.bind_some, w8]
    exact key (q - (b - a)) (by omega)
   ·have c' : ¬ (q : Int) ≥ ((b - a : Nat) : Int) := by omega
    simp only [c', decide_false, cond_false, Option.bind_some]
    exact key q (by omega)
include hN
theorem brk_ok {a b : Nat} {xs : List Int} (hab : a + 8 ≤ b) (hb : b ≤ xs.length) (hl : xs.length ≤ 255) :
  ∃ ys, zyl N ((a : Int), (b : Int), xs, ()) = some (ys, ()) ∧ Go.Sort.PermIn a b xs.toArray ys.toArray := by
 have w0 : w64 ((b : Int) - (a : Int)) = ((b - a : Nat) : Int) := wn (by omega) (by omega)
 have h8 : ((b - a : Nat) : Int) ≥ 8 := by omega
 obtain ⟨m, e1, m1, m2⟩ := np_ok (N := N) (l := b - a) (by omega) (by omega)
 have w1 : w64 (Int.tdiv ((b - a : Nat) : Int) 4) = (((b - a) / 4 : Nat) : Int) := by
  rw [Int.tdiv_eq_ediv_of_nonneg (by omega), zyy (by omega) (by omega)]; omega
 have w2 : w64 ((((b - a) / 4 : Nat) : Int) * 2) = (((b - a) / 4 * 2 : Nat) : Int) := wn (by omega) (by omega)
 have w3 : w64 ((a : Int) + (((b - a) / 4 * 2 : Nat) : Int)) = ((a + (b - a) / 4 * 2 : Nat) : Int) := wn (by omega) (by omega)
 have w4 : w64 (((a + (b - a) / 4 * 2 : Nat) : Int) - 1) = ((a + (b - a) / 4 * 2 - 1 : Nat) : Int) := wn (by omega) (by omega)
 obtain ⟨ys, e, hP⟩ := brk_0 (N := N) (a := a) (b := b) (m := m) hab m1 m2 3 N (a + (b - a) / 4 * 2 - 1) xs (IntKind.wrap .u64 ((b - a : Nat) : Int)) (by omega) (by rw [zrf] at hN; omega) (by omega) hb hl
 exact ⟨ys, by simp only [zyl, w0, h8, decide_true, cond_true, e1, Option.bind_some, show decide ((4 : Int) = 0) = false from rfl, cond_false, w1, w2, w3, w4, e], hP⟩
omit hN in
theorem ord2_ok {lo hi p q : Nat} {xs : List Int} (hb : hi ≤ xs.length) (hp : lo ≤ p ∧ p < hi) (hq : lo ≤ q ∧ q < hi) (s : Int) :
  ∃ (u v : Nat) (s' : Int), zx0 N (xs, (p : Int), (q : Int), s, ()) = some ((u : Int), (v : Int), s', ()) ∧ (lo ≤ u ∧ u < hi) ∧ (lo ≤ v ∧ v < hi) := by
 have p1 : p < xs.length := by omega
 have p2 : q < xs.length := by omega
 simp only [zx0, Int.natCast_nonneg, Int.toNat_natCast, p1, p2, decide_true, cond_true, zqq, Option.bind_some]
 cases ltI (xs.getD q 0) (xs.getD p 0) with
 | true => exact ⟨q, p, w64 (s + 1), rfl, hq, hp⟩
 | false => exact ⟨p, q, s, rfl, hp, hq⟩
omit hN in
theorem med_ok {lo hi p q r : Nat} {xs : List Int} (hb : hi ≤ xs.length) (hp : lo ≤ p ∧ p < hi) (hq : lo ≤ q ∧ q < hi) (hr : lo ≤ r ∧ r < hi) (s : Int) :
  ∃ (u : Nat) (s' : Int), zwa N (xs, (p : Int), (q : Int), (r : Int), s, ()) = some ((u : Int), s', ()) ∧ (lo ≤ u ∧ u < hi) := by
 obtain ⟨u1, v1, s1, e1, h1, h2⟩ := ord2_ok (N := N) hb hp hq s
 obtain ⟨u2, v2, s2, e2, h3, h4⟩ := ord2_ok (N := N) hb h2 hr s1
 obtain ⟨u3, v3, s3, e3, h5, h6⟩ := ord2_ok (N := N) hb h1 h3 s2
 exact ⟨v3, s3, by simp only [zwa, e1, e2, e3, Option.bind_some], h6⟩
omit hN in
theorem madj_ok {lo hi p : Nat} {xs : List Int} (hb : hi ≤ xs.length) (hl : xs.length ≤ 1000) (hp : lo < p ∧ p + 1 < hi) (s : Int) :
  ∃ (u : Nat) (s' : Int), zys N (xs, (p : Int), s, ()) = some ((u : Int), s', ()) ∧ (lo ≤ u ∧ u < hi) := by
 have w1 : w64 ((p : Int) - 1) = ((p - 1 : Nat) : Int) := wn (by omega) (by omega)
 have w2 : w64 ((p : Int) + 1) = ((p + 1 : Nat) : Int) := wn (by omega) (by omega)
 obtain ⟨u, s', e, h⟩ := med_ok (N := N) (p := p - 1) (q := p) (r := p + 1) (lo := lo) (hi := hi) hb (by omega) (by omega) (by omega) s
 exact ⟨u, s', by simp only [zys, w1, w2, e, Option.bind_some], h⟩
omit hN in
theorem piv_ok {a b : Nat} {xs : List Int} (hab : a + 12 < b) (hb : b ≤ xs.length) (hl : xs.length ≤ 1000) :
  ∃ (p : Nat) (h : Int), zwz N (xs, (a : Int), (b : Int), ()) = some ((p : Int), h, ()) ∧ a ≤ p ∧ p < b := by
 have w0 : w64 ((b : Int) - (a : Int)) = ((b - a : Nat) : Int) := wn (by omega) (by omega)
 have w1 : w64 (Int.tdiv ((b - a : Nat) : Int) 4) = (((b - a) / 4 : Nat) : Int) := by
  rw [Int.tdiv_eq_ediv_of_nonneg (by omega), zyy (by omega) (by omega)]; omega
 have m1 : w64 ((((b - a) / 4 : Nat) : Int) * 1) = (((b - a) / 4 * 1 : Nat) : Int) := wn (by omega) (by omega)
 have m2 : w64 ((((b - a) / 4 : Nat) : Int) * 2) = (((b - a) / 4 * 2 : Nat) : Int) := wn (by omega) (by omega)
 have m3 : w64 ((((b - a) / 4 : Nat) : Int) * 3) = (((b - a) / 4 * 3 : Nat) : Int) := wn (by omega) (by omega)
 have n1 : w64 ((a : Int) + (((b - a) / 4 * 1 : Nat) : Int)) = ((a + (b - a) / 4 * 1 : Nat) : Int) := wn (by omega) (by omega)
 have n2 : w64 ((a : Int) + (((b - a) / 4 * 2 : Nat) : Int)) = ((a + (b - a) / 4 * 2 : Nat) : Int) := wn (by omega) (by omega)
 have n3 : w64 ((a : Int) + (((b - a) / 4 * 3 : Nat) : Int)) = ((a + (b - a) / 4 * 3 : Nat) : Int) := wn (by omega) (by omega)
 have h8 : ((b - a : Nat) : Int) ≥ 8 := by omega
 have fin : ∀ (p : Nat) (s : Int), ∃ h : Int, (bif ((p : Int), s, ()).2.1 == 0 then some (((p : Int), s, ()).1, (1 : Int), ()) else bif ((p : Int), s, ()).2.1 == 12 then some (((p : Int), s, ()).1, (2 : Int), ()) else some (((p : Int), s, ()).1, (0 : Int), ())) = some ((p : Int), h, ()) := by
  intro p s
  by_cases c1 : s = 0
  ·exact ⟨1, by simp [c1]⟩
  ·by_cases c2 : s = 12
   ·exact ⟨2, by simp [c2]⟩
   ·exact ⟨0, by simp [c1, c2]⟩
 simp only [zwz, show decide ((4 : Int) = 0) = false from rfl, cond_false, w0, w1, m1, m2, m3, n1, n2, n3, h8, decide_true, cond_true]
 have med := fun (i j k : Nat) (hi : a ≤ i ∧ i < b) (hj : a ≤ j ∧ j < b) (hk : a ≤ k ∧ k < b) (s : Int) => med_ok (N := N) (lo := a) (hi := b) (p := i) (q := j) (r := k) (xs := xs) hb hi hj hk s
 by_cases c : ((b - a : Nat) : Int) ≥ 50
 ·obtain ⟨u1, s1, e1, h1⟩ := madj_ok (N := N) (lo := a) (hi := b) (p := a + (b - a) / 4 * 1) (xs := xs) hb hl (by omega) 0
  obtain ⟨u2, s2, e2, h2⟩ := madj_ok (N := N) (lo := a) (hi := b) (p := a + (b - a) / 4 * 2) (xs := xs) hb hl (by omega) s1
  obtain ⟨u3, s3, e3, h3⟩ := madj_ok (N := N) (lo := a) (hi := b) (p := a + (b - a) / 4 * 3) (xs := xs) hb hl (by omega) s2
  obtain ⟨u, s, e, h⟩ := med u1 u2 u3 h1 h2 h3 s3
  obtain ⟨t, ht⟩ := fin u s
  refine ⟨u, t, ?_, h⟩
  simp only [c, decide_true, cond_true, e1, e2, e3, e, Option.bind_some]
  exact ht
 ·obtain ⟨u, s, e, h⟩ := med (a + (b - a) / 4 * 1) (a + (b - a) / 4 * 2) (a + (b - a) / 4 * 3) (by omega) (by omega) (by omega) 0
  obtain ⟨t, ht⟩ := fin u s
  refine ⟨u, t, ?_, h⟩
  simp only [c, decide_false, cond_false, e, Option.bind_some]
  exact ht
end
section
variable {N : Nat} (hN : lim < N)
include hN
theorem bin_loop {xs : List Int} {t : Int} {z : Int} (hl : xs.length ≤ 1000) (hs : xs.Pairwise (· ≤ ·)) : ∀ (d n lo hi : Nat), hi - lo ≤ d → d < n → lo ≤ hi → hi ≤ xs.length → (∀ k (h : k < xs.length), k < lo → xs[k] < t) → (∀ k (h : k < xs.length), hi ≤ k → t ≤ xs[k]) →
  ∃ p : Nat, zzf N n (xs, t, z, (lo : Int), (hi : Int), ()) = some (xs, t, z, (p : Int), ()) ∧ p ≤ xs.length ∧ (∀ k (h : k < xs.length), k < p → xs[k] < t) ∧ (∀ k (h : k < xs.length), p ≤ k → t ≤ xs[k])
 | d, 0, lo, hi, _, hn, _, _, _, _ => absurd hn (Nat.not_lt_zero _)
 | d, n + 1, lo, hi, hd, hn, h1, h2, h3, h4 => by
  by_cases h : lo < hi
  ·have h' : (lo : Int) < (hi : Int) := by omega
   have w1 : w64 ((lo : Int) + (hi : Int)) = ((lo + hi : Nat) : Int) := wn (by omega) (by omega)
   have w2 : IntKind.wrap .u64 ((lo + hi : Nat) : Int) = ((lo + hi : Nat) : Int) := wrapU (by omega) (by omega)
   have e0 : ((2 : Int) ^ min (1 : Int).toNat 64) = 2 := rfl
   have w3 : Int.fdiv ((lo + hi : Nat) : Int) 2 = (((lo + hi) / 2 : Nat) : Int) := by
    rw [Int.fdiv_eq_ediv_of_nonneg _ (by omega)]; omega
   have w4 : w64 (((lo + hi) / 2 : Nat) : Int) = (((lo + hi) / 2 : Nat) : Int) := wn rfl (by omega)
   have w5 : w64 ((((lo + hi) / 2 : Nat) : Int) + 1) = (((lo + hi) / 2 + 1 : Nat) : Int) := wn (by omega) (by omega)
   have pm : (lo + hi) / 2 < xs.length := by omega
   simp only [zzf, h', decide_true, cond_true, w1, w2, show decide ((0 : Int) ≤ 1) = true from rfl, e0, w3, w4, w5, Int.natCast_nonneg, Int.toNat_natCast, pm, zzn pm, zqq, Option.bind_some]
   by_cases hc : xs[(lo + hi) / 2] < t
   ·have hc' : ltI xs[(lo + hi) / 2] t = true := by simp [ltI, Go.Sort.ltInt, hc]
    simp only [hc', cond_true]
    refine bin_loop hl hs (d - 1) n ((lo + hi) / 2 + 1) hi (by omega) (by omega) (by omega) h2 (fun k hk hk2 => ?_) h4
    by_cases e : k = (lo + hi) / 2
    ·subst e; exact hc
    ·have := List.pairwise_iff_getElem.1 hs k ((lo + hi) / 2) hk pm (by omega)
     omega
   ·have hc' : ltI xs[(lo + hi) / 2] t = false := by simp [ltI, Go.Sort.ltInt, hc]
    simp only [hc', cond_false]
    refine bin_loop hl hs (d - 1) n lo ((lo + hi) / 2) (by omega) (by omega) (by omega) (by omega) h3 (fun k hk hk2 => ?_)
    by_cases e : k = (lo + hi) / 2
    ·subst e; omega
    ·have := List.pairwise_iff_getElem.1 hs ((lo + hi) / 2) k pm hk (by omega)
     omega
  ·have h' : ¬ (lo : Int) < (hi : Int) := by omega
   have : lo = hi := by omega
   subst this
   exact ⟨lo, by simp only [zzf, h', decide_false, cond_false], h2, h3, h4⟩
theorem bin_ok {xs : List Int} {t : Int} (hl : xs.length ≤ 1000) (hs : xs.Pairwise (· ≤ ·)) : ∃ (p : Nat) (b : Bool), zxu N (xs, t, ()) = some ((p : Int), b, ()) ∧ (∀ k (h : k < xs.length), k < p → xs[k] < t) ∧ (∀ k (h : k < xs.length), p ≤ k → t ≤ xs[k]) := by
 obtain ⟨p, e, h1, h2, h3⟩ := bin_loop hN (xs := xs) (t := t) (z := (xs.length : Int)) hl hs xs.length N 0 xs.length (by omega) (by rw [zrf] at hN; omega) (by omega) (Nat.le_refl _) (fun k _ h => absurd h (Nat.not_lt_zero _)) (fun k h1 h2 => absurd h1 (by omega))
 simp only [Int.natCast_zero] at e
 by_cases hp : p < xs.length
 ·have hp' : (p : Int) < (xs.length : Int) := by omega
  have hn : (xs[p] != xs[p]) = false := by simp
  simp only [zxu, e, Option.bind_some, hp', hp, decide_true, cond_true, Int.natCast_nonneg, Int.toNat_natCast, zzn hp, FkisNaN_int, hn, cond_false]
  cases hq : (xs[p] == t) with
  | true => exact ⟨p, true, by simp only [cond_true], h2, h3⟩
  | false => exact ⟨p, false, by simp only [cond_false], h2, h3⟩
 ·have hp' : ¬ (p : Int) < (xs.length : Int) := by omega
  exact ⟨p, false, by simp only [zxu, e, Option.bind_some, hp', decide_false, cond_false], h2, h3⟩
end
section
variable {N : Nat} (hN : lim < N)
include hN
theorem sl5Ints_ok {xs : List Int} (hl : xs.length ≤ lim) : Fsl5Ints N (xs, ()) = some (xs, ()) := by
 simp [Fsl5Ints, hl]
end
end Go.Fl
set_option linter.all false
set_option maxRecDepth 10000
namespace Go.Fl
open Go
section
variable {N : Nat} (hN : lim < N)
include hN
theorem pdq_main : ∀ (k m n a b limit : Nat) (wb wp : Bool) (xs : List Int), b - a ≤ k → k < m → k < n → a ≤ b → b ≤ xs.length → xs.length ≤ 255 → limit ≤ 64 → Go.Sort.Below ltI a b xs.toArray →
  ∃ ys, zzh N (fun x_ => zzq N m x_) n ((a : Int), (b : Int), (limit : Int), wb, wp, xs, ()) = some (ys, ()) ∧ Go.Sort.PermIn a b xs.toArray ys.toArray ∧ Go.Sort.SortedIn ltI a b ys.toArray
 | k, m, 0, a, b, limit, wb, wp, xs, _, _, hn, _, _, _, _, _ => absurd hn (Nat.not_lt_zero _)
 | k, 0, n, a, b, limit, wb, wp, xs, _, hm, _, _, _, _, _, _ => absurd hm (Nat.not_lt_zero _)
 | k, m + 1, n + 1, a, b, limit, wb, wp, xs, hk, hm, hn, hab, hb, hl, hlim, hB => by
  have hlimN : 300 < N := by rw [zrf] at hN; omega
  have w0 : w64 ((b : Int) - (a : Int)) = ((b - a : Nat) : Int) := wn (by omega) (by omega)
  have hbs : b ≤ xs.toArray.size := by simpa using hb
  rw [zzh]
  simp only [w0]
  by_cases h12 : b - a ≤ 12
  ·have h12' : ((b - a : Nat) : Int) ≤ 12 := by omega
   have h := Go.Sort.insertionSort_holds (lt := ltI) Go.Sort.swo_ltInt xs.toArray a b hab hbs
   refine ⟨(Go.Sort.insertionSort ltI xs.toArray a b).toList, ?_, ?_⟩
   ·simp only [h12', decide_true, cond_true, ins_ok hN (a := a) (b := b) hb (by omega) (by omega), Option.bind_some]
   ·rw [Array.toArray_toList]; exact h
  ·have h12' : ¬ ((b - a : Nat) : Int) ≤ 12 := by omega
   simp only [h12', decide_false, cond_false]
   by_cases h0 : limit = 0
   ·have h := Go.Sort.heapSort_holds (lt := ltI) Go.Sort.swo_ltInt xs.toArray a b hab hbs
    have h0' : ((limit : Int) == 0) = true := by simp [h0]
    refine ⟨(Go.Sort.heapSort ltI xs.toArray a b).toList, ?_, ?_⟩
    ·simp only [h0', cond_true, heap_ok hN (a := a) (b := b) (show a < b by omega) hb (by omega), Option.bind_some]
    ·rw [Array.toArray_toList]; exact h
   ·have h0' : ((limit : Int) == 0) = false := by simp; exact h0
    simp only [h0', cond_false]
    have s1 : ∃ (l1 : Nat) (x1 : List Int), (bif !wb then (zyl N ((a : Int), (b : Int), xs, ())).bind fun r4 => some ((a : Int), (b : Int), w64 ((limit : Int) - 1), wb, wp, ((b - a : Nat) : Int), r4.1, ()) else some ((a : Int), (b : Int), (limit : Int), wb, wp, ((b - a : Nat) : Int), xs, ())) = some ((a : Int), (b : Int), (l1 : Int), wb, wp, ((b - a : Nat) : Int), x1, ()) ∧ l1 ≤ 64 ∧ Go.Sort.PermIn a b xs.toArray x1.toArray := by
     cases wb with
     | true => exact ⟨limit, xs, by simp only [Bool.not_true, cond_false], hlim, Go.Sort.permIn_refl _ _ _⟩
     | false =>
      obtain ⟨ys, e, hP⟩ := brk_ok hN (a := a) (b := b) (xs := xs) (by omega) hb hl
      have w1 : w64 ((limit : Int) - 1) = ((limit - 1 : Nat) : Int) := wn (by omega) (by omega)
      exact ⟨limit - 1, ys, by simp only [Bool.not_false, cond_true, e, Option.bind_some, w1], by omega, hP⟩
    obtain ⟨l1, x1, e1, hl1, P1⟩ := s1
    rw [e1]
    have z1 : x1.length = xs.length := by have := P1.1; simpa using this
    have B1 : Go.Sort.Below ltI a b x1.toArray := hB.perm hbs P1
    obtain ⟨p, h, e2, hp1, hp2⟩ := piv_ok (N := N) (a := a) (b := b) (xs := x1) (by omega) (by omega) (by omega)
    simp only [Option.bind_some, e2]
    have s2 : ∃ (p2 : Nat) (h2 : Int) (x2 : List Int), (bif h == 2 then (zy0 N ((a : Int), (b : Int), x1, ())).bind fun r7 => some ((a : Int), (b : Int), (l1 : Int), wb, wp, ((b - a : Nat) : Int), w64 (w64 ((b : Int) - 1) - w64 ((p : Int) - (a : Int))), (1 : Int), r7.1, ())
      else some ((a : Int), (b : Int), (l1 : Int), wb, wp, ((b - a : Nat) : Int), (p : Int), h, x1, ())) = some ((a : Int), (b : Int), (l1 : Int), wb, wp, ((b - a : Nat) : Int), (p2 : Int), h2, x2, ()) ∧ a ≤ p2 ∧ p2 < b ∧ Go.Sort.PermIn a b x1.toArray x2.toArray := by
     by_cases c : h = 2
     ·have c' : (h == 2) = true := by simp [c]
      have w1 : w64 ((b : Int) - 1) = ((b - 1 : Nat) : Int) := wn (by omega) (by omega)
      have w2 : w64 ((p : Int) - (a : Int)) = ((p - a : Nat) : Int) := wn (by omega) (by omega)
      have w3 : w64 (((b - 1 : Nat) : Int) - ((p - a : Nat) : Int)) = ((b - 1 - (p - a) : Nat) : Int) := wn (by omega) (by omega)
      refine ⟨b - 1 - (p - a), 1, (Go.Sort.reverseRange x1.toArray a b).toList, ?_, by omega, by omega, ?_⟩
      ·simp only [c', cond_true, rev_ok hN (a := a) (b := b) (xs := x1) (by omega) (by omega) (by omega), Option.bind_some, w1, w2, w3]
      ·rw [Array.toArray_toList]; exact Go.Sort.reverseRange_holds x1.toArray a b hab (by simpa [z1] using hb)
     ·have c' : (h == 2) = false := by simp [c]
      exact ⟨p, h, x1, by simp only [c', cond_false], hp1, hp2, Go.Sort.permIn_refl _ _ _⟩
    obtain ⟨p2, h2, x2, e3, hp3, hp4, P2⟩ := s2
    rw [e3]
    have z2 : x2.length = xs.length := by have := P2.1; simp at this; omega
    have B2 : Go.Sort.Below ltI a b x2.toArray := B1.perm (by simpa [z1] using hb) P2
    simp only [Option.bind_some]
    have s3 : ∃ x3 : List Int, Go.Sort.PermIn a b x2.toArray x3.toArray ∧ ((bif wb then bif wp then bif h2 == 1 then (zz1 N ((a : Int), (b : Int), x2, ())).bind fun r10 => bif r10.1 then some (Sum.inr (r10.2.1, ())) else some (Sum.inl ((a : Int), (b : Int), (l1 : Int), wb, wp, ((b - a : Nat) : Int), (p2 : Int), r10.2.1, ())) else some (Sum.inl ((a : Int), (b : Int), (l1 : Int), wb, wp, ((b - a : Nat) : Int), (p2 : Int), x2, ())) else some (Sum.inl ((a : Int), (b : Int), (l1 : Int), wb, wp, ((b - a : Nat) : Int), (p2 : Int), x2, ())) else some (Sum.inl ((a : Int), (b : Int), (l1 : Int), wb, wp, ((b - a : Nat) : Int), (p2 : Int), x2, ())) : Option ((Int × Int × Int × Bool × Bool × Int × Int × List Int × Unit) ⊕ (List Int × Unit))) = some (Sum.inl ((a : Int), (b : Int), (l1 : Int), wb, wp, ((b - a : Nat) : Int), (p2 : Int), x3, ())) ∨
      (bif wb then bif wp then bif h2 == 1 then (zz1 N ((a : Int), (b : Int), x2, ())).bind fun r10 => bif r10.1 then some (Sum.inr (r10.2.1, ())) else some (Sum.inl ((a : Int), (b : Int), (l1 : Int), wb, wp, ((b - a : Nat) : Int), (p2 : Int), r10.2.1, ())) else some (Sum.inl ((a : Int), (b : Int), (l1 : Int), wb, wp, ((b - a : Nat) : Int), (p2 : Int), x2, ())) else some (Sum.inl ((a : Int), (b : Int), (l1 : Int), wb, wp, ((b - a : Nat) : Int), (p2 : Int), x2, ())) else some (Sum.inl ((a : Int), (b : Int), (l1 : Int), wb, wp, ((b - a : Nat) : Int), (p2 : Int), x2, ())) : Option ((Int × Int × Int × Bool × Bool × Int × Int × List Int × Unit) ⊕ (List Int × Unit))) = some (Sum.inr (x3, ())) ∧ Go.Sort.SortedIn ltI a b x3.toArray) := by
     have hpi := Go.Sort.partialInsertionSort_holds (lt := ltI) Go.Sort.swo_ltInt x2.toArray a b (by omega) (by simpa [z2] using hb) B2
     have e := pi_ok hN (a := a) (b := b) (xs := x2) (by omega) (by omega) (by omega)
     cases wb with
     | false => exact ⟨x2, Go.Sort.permIn_refl _ _ _, .inl (by simp only [cond_false])⟩
     | true =>
      cases wp with
      | false => exact ⟨x2, Go.Sort.permIn_refl _ _ _, .inl (by simp only [cond_true, cond_false])⟩
      | true =>
       by_cases c : h2 = 1
       ·have c' : (h2 == 1) = true := by simp [c]
        refine ⟨(Go.Sort.partialInsertionSort ltI x2.toArray a b).1.toList, by rw [Array.toArray_toList]; exact hpi.1, ?_⟩
        cases hr : (Go.Sort.partialInsertionSort ltI x2.toArray a b).2 with
        | true => exact .inr ⟨by simp only [cond_true, c', e, Option.bind_some, hr], by rw [Array.toArray_toList]; exact hpi.2 hr⟩
        | false => exact .inl (by simp only [cond_true, cond_false, c', e, Option.bind_some, hr])
       ·have c' : (h2 == 1) = false := by simp [c]
        exact ⟨x2, Go.Sort.permIn_refl _ _ _, .inl (by simp only [cond_true, cond_false, c'])⟩
    obtain ⟨x3, P3, hs⟩ := s3
    have z3 : x3.length = xs.length := by have := P3.1; simp at this; omega
    have B3 : Go.Sort.Below ltI a b x3.toArray := B2.perm (by simpa [z2] using hb) P3
    have P03 : Go.Sort.PermIn a b xs.toArray x3.toArray := Go.Sort.permIn_trans _ _ _ a b P1 (Go.Sort.permIn_trans _ _ _ a b P2 P3)
    have hb3 : b ≤ x3.toArray.size := by simpa [z3] using hb
    rcases hs with hs | ⟨hs, hsort⟩
    ·rw [hs]
     simp only [Option.bind_some, Sum.elim_inl]
     have part : ∃ ys, ((zxp N ((a : Int), (b : Int), (p2 : Int), x3, ())).bind fun r20 =>
       bif decide ((8 : Int) = 0) then none else
       bif decide (w64 (r20.1 - (a : Int)) < w64 ((b : Int) - r20.1)) then
        (zzq N (m + 1) ((a : Int), r20.1, (l1 : Int), r20.2.2.1, ())).bind fun r23 =>
        zzh N (fun x_ => zzq N (m + 1) x_) n (w64 (r20.1 + 1), (b : Int), (l1 : Int), decide (w64 (r20.1 - (a : Int)) ≥ w64 (Int.tdiv ((b - a : Nat) : Int) 8)), r20.2.1, r23.1, ())
       else
        (zzq N (m + 1) (w64 (r20.1 + 1), (b : Int), (l1 : Int), r20.2.2.1, ())).bind fun r25 =>
        zzh N (fun x_ => zzq N (m + 1) x_) n ((a : Int), r20.1, (l1 : Int), decide (w64 ((b : Int) - r20.1) ≥ w64 (Int.tdiv ((b - a : Nat) : Int) 8)), r20.2.1, r25.1, ())) = some (ys, ()) ∧
       Go.Sort.PermIn a b x3.toArray ys.toArray ∧ Go.Sort.SortedIn ltI a b ys.toArray := by
      have e := po_ok hN (a := a) (b := b) (p := p2) (xs := x3) (by omega) (by omega) (by omega) hp4
      obtain ⟨mid, ap, d4, hx⟩ : ∃ mid ap d4, Go.Sort.partition ltI x3.toArray a b p2 = (mid, ap, d4) := ⟨_, _, _, rfl⟩
      obtain ⟨g1, g2, hs4, hBa, hBr, hleft, hright⟩ := Go.Sort.round_part (lt := ltI) Go.Sort.swo_ltInt (Go.Sort.partition_holds ltI) hp3 hp4 hb3 B3 hx
      rw [hx] at e
      have z4 : d4.toList.length = xs.length := by rw [Array.length_toList, hs4]; simpa using z3
      have w1 : w64 ((mid : Int) - (a : Int)) = ((mid - a : Nat) : Int) := wn (by omega) (by omega)
      have w2 : w64 ((b : Int) - (mid : Int)) = ((b - mid : Nat) : Int) := wn (by omega) (by omega)
      have w3 : w64 ((mid : Int) + 1) = ((mid + 1 : Nat) : Int) := wn (by omega) (by omega)
      simp only [e, Option.bind_some, show decide ((8 : Int) = 0) = false from rfl, cond_false, w1, w2, w3]
      have call : ∀ (a' b' : Nat) (zs : List Int), b' - a' ≤ k - 1 → a' ≤ b' → b' ≤ zs.length → zs.length ≤ 255 → Go.Sort.Below ltI a' b' zs.toArray →
        ∃ ys, zzq N (m + 1) ((a' : Int), (b' : Int), (l1 : Int), zs, ()) = some (ys, ()) ∧ Go.Sort.PermIn a' b' zs.toArray ys.toArray ∧ Go.Sort.SortedIn ltI a' b' ys.toArray := by
       intro a' b' zs h1 h2 h3 h4 h5
       obtain ⟨ys, q1, q2⟩ := pdq_main (b' - a') m N a' b' l1 true true zs (Nat.le_refl _) (by omega) (by omega) h2 h3 h4 hl1 h5
       exact ⟨ys, by rw [zzq]; simp only [q1, Option.bind_some], q2⟩
      by_cases c : mid - a < b - mid
      ·have c' : ((mid - a : Nat) : Int) < ((b - mid : Nat) : Int) := by omega
       obtain ⟨L, q1, q2, q3⟩ := call a mid d4.toList (by omega) g1 (by omega) (by omega) (by rw [Array.toArray_toList]; exact hBa)
       rw [Array.toArray_toList] at q2
       obtain ⟨hBL, hfin⟩ := hleft _ q2 q3
       have zL : L.length = xs.length := by have := q2.1; rw [hs4] at this; simp at this; omega
       simp only [c', decide_true, cond_true, q1, Option.bind_some]
       obtain ⟨R, r1, r2, r3⟩ := pdq_main (k - 1) (m + 1) n (mid + 1) b l1 (decide (((mid - a : Nat) : Int) ≥ w64 (Int.tdiv ((b - a : Nat) : Int) 8))) ap L (by omega) (by omega) (by omega) (by omega) (by omega) (by omega) hl1 hBL
       exact ⟨R, r1, hfin _ r2 r3⟩
      ·have c' : ¬ ((mid - a : Nat) : Int) < ((b - mid : Nat) : Int) := by omega
       obtain ⟨L, q1, q2, q3⟩ := call (mid + 1) b d4.toList (by omega) (by omega) (by omega) (by omega) (by rw [Array.toArray_toList]; exact hBr)
       rw [Array.toArray_toList] at q2
       obtain ⟨hBL, hfin⟩ := hright _ q2 q3
       have zL : L.length = xs.length := by have := q2.1; rw [hs4] at this; simp at this; omega
       simp only [c', decide_false, cond_false, q1, Option.bind_some]
       obtain ⟨R, r1, r2, r3⟩ := pdq_main (k - 1) (m + 1) n a mid l1 (decide (((b - mid : Nat) : Int) ≥ w64 (Int.tdiv ((b - a : Nat) : Int) 8))) ap L (by omega) (by omega) (by omega) g1 (by omega) (by omega) hl1 hBL
       exact ⟨R, r1, hfin _ r2 r3⟩
     have fin : ∀ ys : List Int, Go.Sort.PermIn a b x3.toArray ys.toArray ∧ Go.Sort.SortedIn ltI a b ys.toArray → Go.Sort.PermIn a b xs.toArray ys.toArray ∧ Go.Sort.SortedIn ltI a b ys.toArray := fun ys h => ⟨Go.Sort.permIn_trans _ _ _ a b P03 h.1, h.2⟩
     by_cases ca : a > 0
     ·have ca' : (a : Int) > 0 := by omega
      have w1 : w64 ((a : Int) - 1) = ((a - 1 : Nat) : Int) := wn (by omega) (by omega)
      have p5 : a - 1 < x3.length := by omega
      have p6 : p2 < x3.length := by omega
      simp only [ca', decide_true, cond_true, w1, Int.natCast_nonneg, Int.toNat_natCast, p5, p6, zqq, Option.bind_some]
      cases hc : ltI (x3.getD (a - 1) 0) (x3.getD p2 0) with
      | true =>
       simp only [Bool.not_true, cond_false, Option.bind_some, Sum.elim_inr]
       obtain ⟨ys, e, hh⟩ := part
       exact ⟨ys, e, fin ys hh⟩
      | false =>
       obtain ⟨mid, d4, hx⟩ : ∃ mid d4, Go.Sort.partitionEqual ltI x3.toArray a b p2 = (mid, d4) := ⟨_, _, rfl⟩
       obtain ⟨g1, g2, hs4, hB4, hfin⟩ := Go.Sort.round_eq (lt := ltI) Go.Sort.swo_ltInt (Go.Sort.partitionEqual_holds ltI) ca hp3 hp4 hb3 B3 (by rw [zrn, zrn]; exact hc) hx
       have e := pe_ok hN (a := a) (b := b) (p := p2) (xs := x3) (by omega) (by omega) (by omega) hp4
       rw [hx] at e
       have z4 : d4.toList.length = xs.length := by rw [Array.length_toList, hs4]; simpa using z3
       simp only [Bool.not_false, cond_true, e, Option.bind_some, Sum.elim_inl]
       obtain ⟨R, r1, r2, r3⟩ := pdq_main (k - 1) (m + 1) n mid b l1 wb wp d4.toList (by omega) (by omega) (by omega) g2 (by omega) (by omega) hl1 (by rw [Array.toArray_toList]; exact hB4)
       rw [Array.toArray_toList] at r2
       exact ⟨R, r1, fin R (hfin _ r2 r3)⟩
     ·have ca' : ¬ (a : Int) > 0 := by omega
      simp only [ca', decide_false, cond_false, Option.bind_some, Sum.elim_inr]
      obtain ⟨ys, e, hh⟩ := part
      exact ⟨ys, e, fin ys hh⟩
    ·rw [hs]
     exact ⟨x3, by simp only [Option.bind_some, Sum.elim_inr], P03, hsort⟩
termination_by k => k
decreasing_by all_goals omega
theorem kSort_ok {xs : List Int} (hl : xs.length ≤ 255) : zs6 N (xs, ()) = some (xs.mergeSort (fun x y => decide (x ≤ y)), ()) := by
 have hw : IntKind.wrap .u64 (xs.length : Int) = (xs.length : Int) := wrapU (by omega) (by omega)
 obtain ⟨t, e1, ht⟩ := ln_ok (N := N) (l := xs.length) hl
 obtain ⟨M, hM⟩ : ∃ M, N = M + 1 := ⟨N - 1, by omega⟩
 obtain ⟨ys, e2, hP, hS⟩ := pdq_main hN xs.length M N 0 xs.length t true true xs (by omega) (by rw [zrf] at hN; omega) (by rw [zrf] at hN; omega) (by omega) (Nat.le_refl _) hl ht (Or.inl rfl)
 have e3 : zzq N N (0, (xs.length : Int), (t : Int), xs, ()) = some (ys, ()) := by
  conv => lhs; arg 2; rw [hM]
  rw [zzq]
  simp only [Int.natCast_zero] at e2
  simp only [e2, Option.bind_some]
 have e4 := Go.Sort.sorted_unique_holds (lt := ltI) Go.Sort.swo_ltInt (fun x y h1 h2 => by simp only [Go.Sort.ltInt, decide_eq_false_iff_not] at h1 h2; omega) xs.toArray ys.toArray (by simpa using hP) (by simpa using hS)
 have e5 : ys = xs.mergeSort (fun x y => decide (x ≤ y)) := by
  have : (fun x y => !ltI y x) = (fun (x y : Int) => decide (x ≤ y)) := by
   funext x y
   show (!decide (y < x)) = decide (x ≤ y)
   by_cases h : x ≤ y
   ·have : ¬ y < x := by omega
    simp [h, this]
   ·have : y < x := by omega
    simp [h, this]
  rw [this] at e4
  simpa using e4
 simp only [zs6, hw, e1, e3, Option.bind_some, e5]
end
theorem meetA_mem {l : List Tgx} : ∀ {rs met met' : List Int}, meetA l rs met = some met' → met <+: met' ∧ ∀ a ∈ rs, a ≠ 0 → ∃ t, findT l a = some t ∧ t.2.1 ∈ met'
 | [], met, met', e => by simp only [meetA, Option.some.injEq] at e; subst e; exact ⟨List.prefix_refl _, by simp⟩
 | a :: rs, met, met', e => by
  simp only [meetA] at e
  by_cases h0 : a = 0
  ·rw [if_pos h0] at e
   obtain ⟨h1, h2⟩ := meetA_mem e
   refine ⟨h1, fun x hx hx0 => ?_⟩
   rcases List.mem_cons.1 hx with rfl | hx
   ·exact absurd h0 hx0
   ·exact h2 x hx hx0
  ·rw [if_neg h0] at e
   cases hf : findT l a with
   | none => rw [hf] at e; cases e
   | some t =>
    rw [hf] at e
    dsimp only at e
    obtain ⟨h1, h2⟩ := meetA_mem e
    have h3 : met <+: (if t.2.1 ∈ met then met else met ++ [t.2.1]) ∧ t.2.1 ∈ (if t.2.1 ∈ met then met else met ++ [t.2.1]) := by
     split
     ·rename_i hm; exact ⟨List.prefix_refl _, hm⟩
     ·exact ⟨List.prefix_append _ _, by simp⟩
    refine ⟨h3.1.trans h1, fun x hx hx0 => ?_⟩
    rcases List.mem_cons.1 hx with rfl | hx
    ·exact ⟨t, hf, h1.subset h3.2⟩
    ·exact h2 x hx hx0
theorem reachA_mem {s : Stx} {l : List Tgx} (C : Hp s l) : ∀ {m k : Nat} {met met' : List Int}, l.length ≤ k + m → MetOk l met → zu5 l m k met = some met' → met <+: met' ∧ ∀ i (h : i < met'.length), k ≤ i → ∀ a ∈ refsT l met'[i], a ≠ 0 → ∃ t, findT l a = some t ∧ t.2.1 ∈ met'
 | 0, k, met, met', hk, hM, e => by
  simp only [zu5, Option.some.injEq] at e
  subst e
  refine ⟨List.prefix_refl _, fun i h hi => ?_⟩
  have := hM.len
  omega
 | m + 1, k, met, met', hk, hM, e => by
  simp only [zu5] at e
  split at e
  ·rename_i hlt
   cases hq : meetA l (refsT l (met.getD k 0)) met with
   | none => rw [hq] at e; cases e
   | some met1 =>
    rw [hq] at e
    obtain ⟨h1, h2⟩ := meetA_mem hq
    have hM1 := hM.meet C.pw C.mv hq
    obtain ⟨h3, h4⟩ := reachA_mem C (by omega) hM1 e
    refine ⟨h1.trans h3, fun i h hi a ha ha0 => ?_⟩
    by_cases he : i = k
    ·subst he
     have hg : met'[i] = met.getD i 0 := by
      have := (h1.trans h3).getElem (i := i) hlt
      rw [zzn hlt, this]
     rw [hg] at ha
     obtain ⟨t, ht, hm⟩ := h2 a ha ha0
     exact ⟨t, ht, h3.subset hm⟩
    ·exact h4 i h (by omega) a ha ha0
  ·simp only [Option.some.injEq] at e
   subst e
   exact ⟨List.prefix_refl _, fun i h hi => by omega⟩
def RefOk (l : List Tgx) (met : List Int) (a : Int) : Prop := a = 0 ∨ ∃ t, findT l a = some t ∧ t.2.1 ∈ met ∧ a ≠ 0
theorem heap_refs {s : Stx} {l : List Tgx} {met : List Int} (C : Hp s l) (h : (meetA l (zvx (stThr s) ++ zzo s) []).bind (zu5 l l.length 0) = some met) :
  (∀ a ∈ zvx (stThr s) ++ zzo s, RefOk l met a) ∧ ∀ x ∈ met, ∀ a ∈ refsT l x, RefOk l met a := by
 cases hq : meetA l (zvx (stThr s) ++ zzo s) [] with
 | none => rw [hq] at h; cases h
 | some m0 =>
  rw [hq] at h
  have hM : MetOk l m0 := MetOk.nil.meet C.pw C.mv hq
  obtain ⟨h1, h2⟩ := meetA_mem hq
  obtain ⟨h3, h4⟩ := reachA_mem C (by omega) hM (show zu5 l l.length 0 m0 = some met from h)
  constructor
  ·intro a ha
   by_cases h0 : a = 0
   ·exact .inl h0
   ·obtain ⟨t, ht, hm⟩ := h2 a ha h0
    exact .inr ⟨t, ht, h3.subset hm, h0⟩
  ·intro x hx a ha
   by_cases h0 : a = 0
   ·exact .inl h0
   ·obtain ⟨i, hi, rfl⟩ := List.getElem_of_mem hx
    obtain ⟨t, ht, hm⟩ := h4 i hi (Nat.zero_le _) a ha h0
    exact .inr ⟨t, ht, hm, h0⟩
def nowT (l : List Tgx) (a : Int) : Int := if a = 0 then 0 else match findT l a with
 | some t => t.2.1
 | none => 0
def plc (xs : List Int) (r : Int) : Int := match xs.findIdx? (fun x => decide (x = r)) with
 | some i => (i : Int)
 | none => -1
def nameT (l : List Tgx) (live : List Int) (a : Int) : Int := plc live (nowT l a)
def numsT (l : List Tgx) (a : Int) : List Int := match findT l a with
 | some t => t.2.2.2.2.1
 | none => []
abbrev GrS := List (List Int × List Int × Unit) × List (List Int) × List Int × Unit
def zor (l : List Tgx) (met : List Int) (s : Stx) : GrS :=
 ((sortI met).map fun a => ((refsT l a).map (nameT l (sortI met)), numsT l a, ()), (stThr s).map fun t => t.1.map (nameT l (sortI met)), (zzo s).map (nameT l (sortI met)), ())
theorem sortI_lt {xs : List Int} (h : xs.Nodup) : (sortI xs).Pairwise (· < ·) := by
 have h1 := sortI_sorted (xs := xs)
 have h2 : (sortI xs).Nodup := zqj.nodup_iff.2 h
 have h3 : (sortI xs).Pairwise (fun a b => a ≠ b) := h2
 exact (h1.and h3).imp (by intro a b hab; omega)
theorem plc_at {xs : List Int} (h : xs.Pairwise (· < ·)) {i : Nat} (hi : i < xs.length) : plc xs xs[i] = (i : Int) := by
 unfold plc
 have : xs.findIdx? (fun x => decide (x = xs[i])) = some i := by
  rw [List.findIdx?_eq_some_iff_getElem]
  refine ⟨hi, by simp, fun j hj => ?_⟩
  have := List.pairwise_iff_getElem.1 h j i (by omega) hi hj
  simp; omega
 rw [this]
theorem plc_not {xs : List Int} {r : Int} (h : r ∉ xs) : plc xs r = -1 := by
 unfold plc
 cases hf : xs.findIdx? (fun x => decide (x = r)) with
 | none => rfl
 | some k =>
  obtain ⟨hk, h1, _⟩ := List.findIdx?_eq_some_iff_getElem.1 hf
  have : xs[k] = r := by simpa using h1
  exact absurd (this ▸ List.getElem_mem hk) h
section
variable {N : Nat} (hN : lim < N)
include hN
theorem sPlc {xs : List Int} {r : Int} (hl : xs.length ≤ 1048576) : zty N (xs, r, ()) = some (plc xs r, ()) := by
 rw [sPlace_ok hN hl]; rfl
theorem iNames {s : Stx} {l : List Tgx} {met : List Int} (C : Hp s l) (hM : MetOk l met) {rs : List Int} (hr : ∀ a ∈ rs, RefOk l met a) (hl : rs.length ≤ 1048576) (st : Stx) :
  zu2 N (rs, sortI met, (st, tmap l, met, ()), ()) = some (rs.map (nameT l (sortI met)), ()) := by
 have hlim : lim = 2147483648 := rfl
 have hml := C.met hM
 have hlt := sortI_lt hM.nd
 have hpos : ∀ a ∈ met, 16 ≤ a := fun a ha => by
  obtain ⟨t, h1, _⟩ := hM.self a ha
  have := C.rng t (zxt h1).1
  have := (zxt h1).2
  omega
 have key : ∀ n i, i ≤ rs.length → rs.length - i < n → zye N n (sortI met, (st, tmap l, met, ()), (rs.length : Int), (i : Int), (rs.take i).map (nameT l (sortI met)) ++ rs.drop i, ()) = some (rs.map (nameT l (sortI met)), ()) := by
  intro n
  induction n with
  | zero => intro i _ h; exact absurd h (Nat.not_lt_zero _)
  | succ n ih =>
   intro i hi hn
   by_cases h : i < rs.length
   ·have h' : (i : Int) < (rs.length : Int) := by omega
    have hw : w64 ((i : Int) + 1) = ((i + 1 : Nat) : Int) := zyn (by omega)
    have hlen : ((rs.take i).map (nameT l (sortI met)) ++ rs.drop i).length = rs.length := by simp; omega
    have p1 : i < ((rs.take i).map (nameT l (sortI met)) ++ rs.drop i).length := by omega
    have hg : ((rs.take i).map (nameT l (sortI met)) ++ rs.drop i).getD i 0 = rs[i] := by
     rw [zzn p1, List.getElem_append_right (by simp; omega)]
     simp [Nat.min_eq_left (Nat.le_of_lt h)]
    have hset : ∀ v : Int, ((rs.take i).map (nameT l (sortI met)) ++ rs.drop i).set i v = (rs.take i).map (nameT l (sortI met)) ++ v :: rs.drop (i + 1) := by
     intro v
     have hti : ((rs.take i).map (nameT l (sortI met))).length = i := by simp; omega
     rw [List.set_append_right _ _ (by omega), hti, Nat.sub_self, zt6 h]
     rfl
    have hnext : (rs.take i).map (nameT l (sortI met)) ++ nameT l (sortI met) rs[i] :: rs.drop (i + 1) = (rs.take (i + 1)).map (nameT l (sortI met)) ++ rs.drop (i + 1) := by
     rw [List.take_succ_eq_append_getElem h, List.map_append, List.append_assoc]; rfl
    obtain ⟨p, b, e, q1, q2⟩ := bin_ok hN (xs := sortI met) (t := nowT l rs[i]) (by rw [zsl]; omega) sortI_sorted
    have hnow : Fiheap_now N ((st, tmap l, met, ()), rs[i], ()) = some (nowT l rs[i], ()) := by
     unfold Fiheap_now nowT
     by_cases h0 : rs[i] = 0
     ·simp [h0]
     ·rcases hr _ (List.getElem_mem h) with h1 | ⟨t, h1, _⟩
      ·exact absurd h1 h0
      ·have hgt : mget (tmap l) rs[i] = some t := by rw [tmap_get]; exact h1
       simp only [zu0, h0, if_false, hgt, Option.getD_some, h1]
    simp only [zye, h', decide_true, cond_true, Int.natCast_nonneg, Int.toNat_natCast, p1, hg, hnow, e, Option.bind_some, hw]
    by_cases h0 : rs[i] = 0
    ·have p2 : i < (((rs.take i).map (nameT l (sortI met)) ++ rs.drop i).set i (p : Int)).length := by simpa using p1
     have hnm : nameT l (sortI met) rs[i] = -1 := by
      unfold nameT nowT
      rw [if_pos h0]
      exact plc_not fun hm => by have := hpos _ (zqj.mem_iff.1 hm); omega
     have hs2 : (((rs.take i).map (nameT l (sortI met)) ++ rs.drop i).set i (p : Int)).set i (-1) = (rs.take (i + 1)).map (nameT l (sortI met)) ++ rs.drop (i + 1) := by
      rw [List.set_set, hset, ← hnext, hnm]
     simp only [h0, beq_self_eq_true, cond_true, p2, decide_true]
     rw [hs2]
     exact ih (i + 1) (by omega) (by omega)
    ·have h0' : (rs[i] == 0) = false := by simpa using h0
     rcases hr _ (List.getElem_mem h) with h1 | ⟨t, h1, h2, _⟩
     ·exact absurd h1 h0
     ·have hnw : nowT l rs[i] = t.2.1 := by simp only [nowT, h0, if_false, h1]
      obtain ⟨j, hj, hje⟩ := List.getElem_of_mem (zqj.mem_iff.2 h2)
      have hpj : p = j := by
       rw [hnw, ← hje] at q1 q2
       rcases Nat.lt_trichotomy p j with hc | hc | hc
       ·have := q2 p (by omega) (Nat.le_refl _)
        have := List.pairwise_iff_getElem.1 hlt p j (by omega) hj hc
        omega
       ·exact hc
       ·have := q1 j hj hc
        omega
      have hnm : nameT l (sortI met) rs[i] = (p : Int) := by
       unfold nameT
       rw [hnw, ← hje, plc_at hlt hj, hpj]
      have hs2 : ((rs.take i).map (nameT l (sortI met)) ++ rs.drop i).set i (p : Int) = (rs.take (i + 1)).map (nameT l (sortI met)) ++ rs.drop (i + 1) := by
       rw [hset, ← hnext, hnm]
      simp only [h0', cond_false]
      rw [hs2]
      exact ih (i + 1) (by omega) (by omega)
   ·have : i = rs.length := by omega
    subst this
    simp [zye]
 have := key N 0 (by omega) (by omega)
 simp only [List.take_zero, List.map_nil, List.nil_append, List.drop_zero, Int.natCast_zero] at this
 simp only [zu2, kClone_ok hN (xs := rs) (by omega), Option.bind_some, this]
end
theorem push_map {α β : Type} (f : α → β) : ∀ (xs : List α) (out : List β), xs.foldl (fun out a => out ++ [f a]) out = out ++ xs.map f
 | [], out => by simp
 | x :: xs, out => by rw [List.foldl_cons, push_map f xs]; simp
section
variable {N : Nat} (hN : lim < N)
include hN
theorem sNowR {l : List Tgx} {met : List Int} (hl : l.length ≤ 1048576) {a : Int} (h : RefOk l met a) : zqm N (l, a, ()) = some (nowT l a, ()) := by
 unfold nowT
 rcases h with rfl | ⟨t, h1, _, h2⟩
 ·rw [if_pos rfl]; exact sNow_zero hN
 ·rw [if_neg h2, h1]; exact sNow_some hN hl h2 h1
theorem sG_2 {s : Stx} {l : List Tgx} {met : List Int} (C : Hp s l) (hM : MetOk l met) {t : Tgx} (ht : t ∈ l) (hr : ∀ a ∈ t.2.2.2.1, RefOk l met a) (i : Int) (ns : List (List Int × List Int × Unit)) (c6 : List (List Int)) (c7 nums : List Int) :
  zxj N N (s, l, i, 0, sortI met, ns, c6, c7, t.1, t.2.1, t.2.2.1.1, t.2.2.1.2.1, t.2.2.2.1, t.2.2.2.2.1, [], nums, ()) = some (s, l, i, sortI met, ns, c6, c7, t.2.2.2.1.map (nameT l (sortI met)), nums, ()) := by
 have hlim : lim = 2147483648 := rfl
 have hll := C.len
 have hml := C.met hM
 have hrl := C.refs ht
 have e := (zpq (xs := t.2.2.2.1) (n := N) (fun (out : List Int) a => out ++ [nameT l (sortI met) a]) (fun i out => out.length = i) (L := fun n j out => zxj N n (s, l, i, (j : Int), sortI met, ns, c6, c7, t.1, t.2.1, t.2.2.1.1, t.2.2.1.2.1, t.2.2.2.1, t.2.2.2.2.1, out, nums, ())) (fin := fun out => (s, l, i, sortI met, ns, c6, c7, out, nums, ())) (by omega)
  (fun n j out hj hw hI => by
   have hj' : (j : Int) < (t.2.2.2.1.length : Int) := by omega
   have l1 : out.length + [plc (sortI met) (nowT l t.2.2.2.1[j])].length ≤ lim := by simp only [List.length_singleton]; omega
   refine ⟨?_, by simp [hI]⟩
   simp only [zxj, hj', hj, decide_true, cond_true, Int.natCast_nonneg, Int.toNat_natCast, zzn hj, sNowR hN (l := l) (met := met) (by omega) (hr _ (List.getElem_mem hj)), sPlc hN (xs := sortI met) (by rw [zsl]; omega), Option.bind_some, l1, hw, nameT])
  (fun n out _ => by simp [zxj]) (by omega) (s := []) (by simp)).1
 rw [push_map, List.nil_append] at e
 simpa using e
theorem sG_0 {s : Stx} {l : List Tgx} {met : List Int} (C : Hp s l) (hM : MetOk l met) (hr : ∀ x ∈ met, ∀ a ∈ refsT l x, RefOk l met a) (c6 : List (List Int)) (c7 : List Int) :
  zxi N N (s, l, 0, sortI met, [], c6, c7, ()) = some (s, l, sortI met, (zor l met s).1, c6, c7, ()) := by
 have hlim : lim = 2147483648 := rfl
 have hll := C.len
 have hml := C.met hM
 have e := (zpq (xs := sortI met) (n := N) (fun (out : List (List Int × List Int × Unit)) a => out ++ [((refsT l a).map (nameT l (sortI met)), numsT l a, ())]) (fun i out => out.length = i) (L := fun n j out => zxi N n (s, l, (j : Int), sortI met, out, c6, c7, ())) (fin := fun out => (s, l, sortI met, out, c6, c7, ())) (by rw [zsl]; omega)
  (fun n j out hj hw hI => by
   have hj' : (j : Int) < ((sortI met).length : Int) := by omega
   have hm := zqj.mem_iff.1 (List.getElem_mem hj)
   obtain ⟨t, k1, _⟩ := hM.self _ hm
   obtain ⟨k2, k3⟩ := zxt k1
   obtain ⟨q, hq, eq, e2⟩ := zrz hN (l := l) (by omega) k1
   have er : refsT l (sortI met)[j] = t.2.2.2.1 := by simp only [refsT, k1]
   have en : numsT l (sortI met)[j] = t.2.2.2.2.1 := by simp only [numsT, k1]
   have hrr : ∀ a ∈ t.2.2.2.1, RefOk l met a := fun a ha => hr _ hm a (by rw [er]; exact ha)
   obtain ⟨_, _, _, _, _, hnl, _, hsz⟩ := zuo (C.rng t k2).2.2.2
   have hshok := zsz.1 (zuo (C.rng t k2).2.2.2).2.1
   have hjl := hj
   rw [zsl] at hjl
   have l1 : out.length + [((t.2.2.2.1.map (nameT l (sortI met)), t.2.2.2.2.1, ()) : List Int × List Int × Unit)].length ≤ lim := by simp only [List.length_singleton]; omega
   refine ⟨?_, by simp [hI]⟩
   simp only [zxi, hj', hj, decide_true, cond_true, Int.natCast_nonneg, Int.toNat_natCast, zzn hj, e2, Option.bind_some, hq, zzn hq, eq, sl5Ints_ok hN (xs := t.2.2.2.2.1) (by omega), sG_2 hN C hM k2 hrr, l1, hw, er, en])
  (fun n out _ => by simp [zxi]) (by rw [zsl]; omega) (s := []) (by simp)).1
 rw [push_map, List.nil_append] at e
 simpa [zor] using e
theorem sG_6 {s : Stx} {l : List Tgx} {met : List Int} (C : Hp s l) (hM : MetOk l met) {i : Nat} (hi : i < (stThr s).length) (h8 : (stThr s)[i].1.length ≤ 8) (hr : ∀ a ∈ (stThr s)[i].1, RefOk l met a) (ns : List (List Int × List Int × Unit)) (c6 : List (List Int)) (c7 : List Int) :
  zxl N N (s, l, (i : Int), 0, sortI met, ns, c6, c7, [], ()) = some (s, l, (i : Int), sortI met, ns, c6, c7, (stThr s)[i].1.map (nameT l (sortI met)), ()) := by
 have hlim : lim = 2147483648 := rfl
 have hll := C.len
 have hml := C.met hM
 have hi1 : i < s.2.2.2.2.2.2.2.2.1.length := hi
 have eg : s.2.2.2.2.2.2.2.2.1.getD i ([], 0, false, 0, ()) = (stThr s)[i] := zzn hi
 have e := (zpq (xs := (stThr s)[i].1) (n := N) (fun (out : List Int) a => out ++ [nameT l (sortI met) a]) (fun i out => out.length = i) (L := fun n j out => zxl N n (s, l, (i : Int), (j : Int), sortI met, ns, c6, c7, out, ())) (fin := fun out => (s, l, (i : Int), sortI met, ns, c6, c7, out, ())) (by omega)
  (fun n j out hj hw hI => by
   have hj' : (j : Int) < ((stThr s)[i].1.length : Int) := by omega
   have l1 : out.length + [plc (sortI met) (nowT l (stThr s)[i].1[j])].length ≤ lim := by simp only [List.length_singleton]; omega
   refine ⟨?_, by simp [hI]⟩
   simp only [zxl, hi1, eg, hj', hj, decide_true, cond_true, Int.natCast_nonneg, Int.toNat_natCast, zzn hj, sNowR hN (l := l) (met := met) (by omega) (hr _ (List.getElem_mem hj)), sPlc hN (xs := sortI met) (by rw [zsl]; omega), Option.bind_some, l1, hw, nameT])
  (fun n out _ => by simp [zxl, hi1, eg, -List.getD_eq_getElem?_getD]) (by omega) (s := []) (by simp)).1
 rw [push_map, List.nil_append] at e
 simpa using e
theorem rootsL_mem {ts : List Thr} {t : Thr} (ht : t ∈ ts) {a : Int} (ha : a ∈ t.1) : a ∈ zvx ts := by
 simp only [zvx, List.mem_flatMap]
 exact ⟨t, ht, ha⟩
theorem sG_4 {s : Stx} {l : List Tgx} {met : List Int} (C : Hp s l) (hM : MetOk l met) (h3 : (stThr s).length ≤ 3) (hk : (stThr s).all thrOk = true) (hr : ∀ a ∈ zvx (stThr s), RefOk l met a) (ns : List (List Int × List Int × Unit)) (c7 : List Int) :
  zxk N N (s, l, 0, sortI met, ns, [], c7, ()) = some (s, sortI met, ns, (zor l met s).2.1, c7, ()) := by
 have hlim : lim = 2147483648 := rfl
 have e := (zpq (xs := stThr s) (n := N) (fun (out : List (List Int)) t => out ++ [t.1.map (nameT l (sortI met))]) (fun i out => out.length = i) (L := fun n j out => zxk N n (s, l, (j : Int), sortI met, ns, out, c7, ())) (fin := fun out => (s, sortI met, ns, out, c7, ())) (by omega)
  (fun n j out hj hw hI => by
   have hj' : (j : Int) < (s.2.2.2.2.2.2.2.2.1.length : Int) := by simp only [stThr] at hj; omega
   have hm := List.getElem_mem hj
   have hto := List.all_eq_true.1 hk _ hm
   simp only [thrOk, Bool.and_eq_true, decide_eq_true_eq] at hto
   have l1 : out.length + [(stThr s)[j].1.map (nameT l (sortI met))].length ≤ lim := by simp only [List.length_singleton]; omega
   refine ⟨?_, by simp [hI]⟩
   simp only [zxk, hj', decide_true, cond_true, sG_6 hN C hM hj hto.1 (fun a ha => hr a (rootsL_mem hN hm ha)), Option.bind_some, l1, hw])
  (fun n out _ => by simp [zxk, stThr]) (by omega) (s := []) (by simp)).1
 rw [push_map (fun t : Thr => t.1.map (nameT l (sortI met))), List.nil_append] at e
 simpa [zor] using e
theorem sG_8 {s : Stx} {l : List Tgx} {met : List Int} (C : Hp s l) (hM : MetOk l met) (h8 : (zzo s).length ≤ 8) (hp : (zzo s).all (pinOk l s.2.1) = true) (ns : List (List Int × List Int × Unit)) (c6 : List (List Int)) :
  zxm N N (s, 0, sortI met, ns, c6, [], ()) = some (ns, c6, (zor l met s).2.2.1, ()) := by
 have hlim : lim = 2147483648 := rfl
 have hml := C.met hM
 have e := (zpq (xs := zzo s) (n := N) (fun (out : List Int) a => out ++ [nameT l (sortI met) a]) (fun i out => out.length = i) (L := fun n j out => zxm N n (s, (j : Int), sortI met, ns, c6, out, ())) (fin := fun out => (ns, c6, out, ())) (by omega)
  (fun n j out hj hw hI => by
   have hj' : (j : Int) < (s.2.2.2.2.2.2.2.2.2.2.1.length : Int) := by simp only [zzo] at hj; omega
   have hj1 : j < s.2.2.2.2.2.2.2.2.2.2.1.length := hj
   have eg : s.2.2.2.2.2.2.2.2.2.2.1.getD j 0 = (zzo s)[j] := zzn hj
   obtain ⟨t, h1, h2, _⟩ := pinOk_some (List.all_eq_true.1 hp _ (List.getElem_mem hj))
   have hpos := C.now (zxt h1).1
   have hnw : nowT l (zzo s)[j] = (zzo s)[j] := by
    unfold nowT
    rw [if_neg (by omega), h1]; exact h2
   have l1 : out.length + [plc (sortI met) (zzo s)[j]].length ≤ lim := by simp only [List.length_singleton]; omega
   refine ⟨?_, by simp [hI]⟩
   simp only [zxm, hj', hj1, decide_true, cond_true, Int.natCast_nonneg, Int.toNat_natCast, eg, sPlc hN (xs := sortI met) (by rw [zsl]; omega), Option.bind_some, l1, hw, nameT, hnw])
  (fun n out _ => by simp [zxm, zzo]) (by omega) (s := []) (by simp)).1
 rw [push_map, List.nil_append] at e
 simpa [zor] using e
def graphO (s : Stx) : Bool × GrS := match zu9 s with
 | some p => (true, zor p.1 p.2 s)
 | none => (false, [], [], [], ())
theorem sStateGraph_ok {s : Stx} (b1 : s.1.length ≤ 1048576) (b2 : s.2.1.length ≤ 1048576) (b3 : s.2.2.1.length ≤ 1048576) (b4 : ∀ x ∈ s.1, -9223372036854775808 ≤ x ∧ x < 9223372036854775808) (b5 : ∀ x ∈ s.2.1, -9223372036854775808 ≤ x.2.1 ∧ x.2.1 < 9223372036854775808)
  (hT : (stThr s).length ≤ 1048576) (hR : ∀ t ∈ stThr s, t.1.length ≤ 1048576) (hP : (zzo s).length ≤ 1048576) :
  FsStateGraph N (s, ()) = some ((graphO s).1, (graphO s).2.1, (graphO s).2.2.1, (graphO s).2.2.2.1, ()) := by
 simp only [FsStateGraph, sFullLive_ok hN b1 b2 b3 b4 b5 hT hR hP, Option.bind_some, graphO]
 cases hh : zu9 s with
 | none => rfl
 | some p =>
  obtain ⟨l, met⟩ := p
  obtain ⟨C, hhd, hk, hp, hm, hM⟩ := heapOf_some hN hh
  obtain ⟨r1, r2⟩ := heap_refs C hm
  simp only [headOk, Bool.and_eq_true, decide_eq_true_eq] at hhd
  have hta := (stThings_some C.th).2
  simp only [Bool.not_true, cond_false, sl6Things_ok hN b1 b4 b2, hta, Option.bind_some, sG_0 hN C hM r2, sG_4 hN C hM hhd.2.2.2.1 hk (fun a ha => r1 a (List.mem_append_left _ ha)), sG_8 hN C hM hhd.2.2.2.2 hp]
theorem iStateGraph_ok {s : Stx} (b1 : s.1.length ≤ 1048576) (b2 : s.2.1.length ≤ 1048576) (b3 : s.2.2.1.length ≤ 1048576) (b4 : ∀ x ∈ s.1, -9223372036854775808 ≤ x ∧ x < 9223372036854775808)
  (hT : (stThr s).length ≤ 1048576) (hP : (zzo s).length ≤ 1048576) :
  zq8 N (s, ()) = some ((graphO s).1, (graphO s).2.1, (graphO s).2.2.1, (graphO s).2.2.2.1, ()) := by
 have hlim : lim = 2147483648 := rfl
 simp only [zq8, iheapOf_ok hN b1 b2 b3 b4 hT hP, Option.bind_some, graphO]
 cases hh : zu9 s with
 | none => rfl
 | some p =>
  obtain ⟨l, met⟩ := p
  obtain ⟨C, hhd, hk, hp, hm, hM⟩ := heapOf_some hN hh
  obtain ⟨r1, r2⟩ := heap_refs C hm
  simp only [headOk, Bool.and_eq_true, decide_eq_true_eq] at hhd
  have hll := C.len
  have hml := C.met hM
  have elive : Fiheap_live N (((s.1, s.2.1, s.2.2.1, s.2.2.2.1, s.2.2.2.2.1, s.2.2.2.2.2.1, s.2.2.2.2.2.2.1, s.2.2.2.2.2.2.2.1, s.2.2.2.2.2.2.2.2.1, s.2.2.2.2.2.2.2.2.2.1, s.2.2.2.2.2.2.2.2.2.2.1, s.2.2.2.2.2.2.2.2.2.2.2.1, s.2.2.2.2.2.2.2.2.2.2.2.2.1, ()), tmap l, met, ()), ()) = some (sortI met, ()) := by
   simp only [Fiheap_live, kClone_ok hN (xs := met) (by omega), Option.bind_some, kSort_ok hN (xs := met) (by omega)]
   rfl
  have e0 := (zpq (xs := sortI met) (n := N) (fun (out : List (List Int × List Int × Unit)) a => out ++ [((refsT l a).map (nameT l (sortI met)), numsT l a, ())]) (fun i out => out.length = i)
   (L := fun n j out => zws N n (s, ((sortI met).length : Int), (j : Int), s.1, s.2.1, s.2.2.1, s.2.2.2.1, s.2.2.2.2.1, s.2.2.2.2.2.1, s.2.2.2.2.2.2.1, s.2.2.2.2.2.2.2.1, s.2.2.2.2.2.2.2.2.1, s.2.2.2.2.2.2.2.2.2.1, s.2.2.2.2.2.2.2.2.2.2.1, s.2.2.2.2.2.2.2.2.2.2.2.1, s.2.2.2.2.2.2.2.2.2.2.2.2.1, tmap l, met, sortI met, out, [], ()))
   (fin := fun out => (s, sortI met, s.1, s.2.1, s.2.2.1, s.2.2.2.1, s.2.2.2.2.1, s.2.2.2.2.2.1, s.2.2.2.2.2.2.1, s.2.2.2.2.2.2.2.1, s.2.2.2.2.2.2.2.2.1, s.2.2.2.2.2.2.2.2.2.1, s.2.2.2.2.2.2.2.2.2.2.1, s.2.2.2.2.2.2.2.2.2.2.2.1, s.2.2.2.2.2.2.2.2.2.2.2.2.1, tmap l, met, out, [], ())) (by rw [zsl]; omega)
   (fun n j out hj hw hI => by
    have hj' : (j : Int) < ((sortI met).length : Int) := by omega
    have hm := zqj.mem_iff.1 (List.getElem_mem hj)
    obtain ⟨t, k1, _⟩ := hM.self _ hm
    obtain ⟨k2, k3⟩ := zxt k1
    have hg : mget (tmap l) (sortI met)[j] = some t := by rw [tmap_get]; exact k1
    have er : refsT l (sortI met)[j] = t.2.2.2.1 := by simp only [refsT, k1]
    have en : numsT l (sortI met)[j] = t.2.2.2.2.1 := by simp only [numsT, k1]
    have hrr : ∀ a ∈ t.2.2.2.1, RefOk l met a := fun a ha => r2 _ hm a (by rw [er]; exact ha)
    have hrl := C.refs k2
    obtain ⟨_, _, _, _, _, hnl, _, hsz⟩ := zuo (C.rng t k2).2.2.2
    have hshok := zsz.1 (zuo (C.rng t k2).2.2.2).2.1
    have hjl := hj
    rw [zsl] at hjl
    have l1 : out.length + [((t.2.2.2.1.map (nameT l (sortI met)), t.2.2.2.2.1, ()) : List Int × List Int × Unit)].length ≤ lim := by simp only [List.length_singleton]; omega
    refine ⟨?_, by simp [hI]⟩
    simp only [zws, hj', hj, decide_true, cond_true, Int.natCast_nonneg, Int.toNat_natCast, zzn hj, hg, Option.getD_some, iNames hN C hM hrr (by omega), kClone_ok hN (xs := t.2.2.2.2.1) (by omega), Option.bind_some, l1, hw, er, en])
   (fun n out _ => by simp [zws]) (by rw [zsl]; omega) (s := []) (by simp)).1
  rw [push_map, List.nil_append] at e0
  have e2 := fun ns => (zpq (xs := stThr s) (n := N) (fun (out : List (List Int)) t => out ++ [t.1.map (nameT l (sortI met))]) (fun i out => out.length = i)
   (L := fun n j out => zwt N n (s, stThr s, ((stThr s).length : Int), (j : Int), sortI met, s.1, s.2.1, s.2.2.1, s.2.2.2.1, s.2.2.2.2.1, s.2.2.2.2.2.1, s.2.2.2.2.2.2.1, s.2.2.2.2.2.2.2.1, s.2.2.2.2.2.2.2.2.1, s.2.2.2.2.2.2.2.2.2.1, s.2.2.2.2.2.2.2.2.2.2.1, s.2.2.2.2.2.2.2.2.2.2.2.1, s.2.2.2.2.2.2.2.2.2.2.2.2.1, tmap l, met, ns, out, ()))
   (fin := fun out => (s, sortI met, s.1, s.2.1, s.2.2.1, s.2.2.2.1, s.2.2.2.2.1, s.2.2.2.2.2.1, s.2.2.2.2.2.2.1, s.2.2.2.2.2.2.2.1, s.2.2.2.2.2.2.2.2.1, s.2.2.2.2.2.2.2.2.2.1, s.2.2.2.2.2.2.2.2.2.2.1, s.2.2.2.2.2.2.2.2.2.2.2.1, s.2.2.2.2.2.2.2.2.2.2.2.2.1, tmap l, met, ns, out, ())) (by omega)
   (fun n j out hj hw hI => by
    have hj' : (j : Int) < ((stThr s).length : Int) := by omega
    have hm := List.getElem_mem hj
    have hto := List.all_eq_true.1 hk _ hm
    simp only [thrOk, Bool.and_eq_true, decide_eq_true_eq] at hto
    have l1 : out.length + [(stThr s)[j].1.map (nameT l (sortI met))].length ≤ lim := by simp only [List.length_singleton]; omega
    refine ⟨?_, by simp [hI]⟩
    simp only [zwt, hj', hj, decide_true, cond_true, Int.natCast_nonneg, Int.toNat_natCast, zzn hj, iNames hN C hM (fun a ha => r1 a (List.mem_append_left _ (rootsL_mem hN hm ha))) (show (stThr s)[j].1.length ≤ 1048576 by omega), Option.bind_some, l1, hw])
   (fun n out _ => by simp [zwt]) (by omega) (s := []) (by simp)).1
  simp only [push_map (fun t : Thr => t.1.map (nameT l (sortI met))), List.nil_append] at e2
  have e3 := iNames hN C hM (rs := zzo s) (fun a ha => r1 a (List.mem_append_right _ ha)) hP (s.1, s.2.1, s.2.2.1, s.2.2.2.1, s.2.2.2.2.1, s.2.2.2.2.2.1, s.2.2.2.2.2.2.1, s.2.2.2.2.2.2.2.1, s.2.2.2.2.2.2.2.2.1, s.2.2.2.2.2.2.2.2.2.1, s.2.2.2.2.2.2.2.2.2.2.1, s.2.2.2.2.2.2.2.2.2.2.2.1, s.2.2.2.2.2.2.2.2.2.2.2.2.1, ())
  simp only [Int.natCast_zero, stThr, zzo] at e0 e2 e3
  simp only [Sum.elim_inr, heapV, elive, Option.bind_some, e0, e2, e3, zor]
end
section
variable {N : Nat} (hN : lim < N)
include hN
theorem wszIntS_ok {xs : (List Int)} {left : Int} (hx : Wf tIntS xs) (h0 : 0 ≤ left) (h1 : left ≤ 1048576) : ∃ r, FvszIntS N (xs, left, ()) = some (r, ()) ∧ (r < 0 ∨ (0 ≤ r ∧ r ≤ left ∧ lnT tIntS xs)) := by
 have hx1 := hx.1
 simp only [maxLen] at hx1
 simp only [FvszIntS]
 rw [zyy (by omega) (by omega)]
 by_cases h : left - (xs.length : Int) < 0
 ·simp [h]
 ·refine ⟨left - (xs.length : Int), by simp [h], .inr ⟨by omega, by omega, by omega, fun x _ => ?_⟩⟩
  simp [lnT]
end
section
variable {N : Nat} (hN : lim < N)
include hN
theorem wszRegionS_ok {xs : (List (Int × Int × Int × Int × Int × Unit))} {left : Int} (hx : Wf zqy xs) (h0 : 0 ≤ left) (h1 : left ≤ 1048576) : ∃ r, FvszRegionS N (xs, left, ()) = some (r, ()) ∧ (r < 0 ∨ (0 ≤ r ∧ r ≤ left ∧ lnT zqy xs)) := by
 have hx1 := hx.1
 simp only [maxLen] at hx1
 simp only [FvszRegionS]
 rw [zyy (by omega) (by omega)]
 by_cases h : left - (xs.length : Int) < 0
 ·simp [h]
 ·refine ⟨left - (xs.length : Int), by simp [h], .inr ⟨by omega, by omega, by omega, fun x _ => ?_⟩⟩
  simp [lnT]
end
section
variable {N : Nat} (hN : lim < N)
include hN
theorem wszBoolS_ok {xs : (List Bool)} {left : Int} (hx : Wf tBoolS xs) (h0 : 0 ≤ left) (h1 : left ≤ 1048576) : ∃ r, FvszBoolS N (xs, left, ()) = some (r, ()) ∧ (r < 0 ∨ (0 ≤ r ∧ r ≤ left ∧ lnT tBoolS xs)) := by
 have hx1 := hx.1
 simp only [maxLen] at hx1
 simp only [FvszBoolS]
 rw [zyy (by omega) (by omega)]
 by_cases h : left - (xs.length : Int) < 0
 ·simp [h]
 ·refine ⟨left - (xs.length : Int), by simp [h], .inr ⟨by omega, by omega, by omega, fun x _ => ?_⟩⟩
  simp [lnT]
end
section
variable {N : Nat} (hN : lim < N)
include hN
theorem wszThread_ok {x : ((List Int) × Int × Bool × Int × Unit)} {left : Int} (hx : Wf tThread x) (h0 : 0 ≤ left) (h1 : left ≤ 1048576) : ∃ r, FvszThread N (x, left, ()) = some (r, ()) ∧ (r < 0 ∨ (0 ≤ r ∧ r ≤ left ∧ lnT tThread x)) := by
 obtain ⟨r0, e0, h⟩ := wszIntS_ok hN hx.1 h0 (by omega)
 rcases h with h | ⟨c0, d0, l0⟩
 ·exact ⟨-1, by simp [FvszThread, e0, h], by simp⟩
 have n0 : ¬ r0 < 0 := by omega
 exact ⟨r0, by simp [FvszThread, e0, n0], .inr ⟨c0, by omega, l0, by simp [lnT], by simp [lnT], by simp [lnT], trivial⟩⟩
end
section
variable {N : Nat} (hN : lim < N)
include hN
theorem wszThreadS_ok {xs : (List ((List Int) × Int × Bool × Int × Unit))} {left : Int} (hx : Wf zqz xs) (h0 : 0 ≤ left) (h1 : left ≤ 1048576) : ∃ r, FvszThreadS N (xs, left, ()) = some (r, ()) ∧ (r < 0 ∨ (0 ≤ r ∧ r ≤ left ∧ lnT zqz xs)) := by
 have := sz_loop (xs := xs) (lnT tThread) (L := fun n i l => zw3 N n (xs, l, (i : Int), ())) hN (by have := hx.1; simp only [maxLen] at this; omega) h0 h1
  (fun n i h left h0 h1 hw => by
   obtain ⟨r1, e1, h2⟩ := wszThread_ok hN (hx.2 xs[i] (List.getElem_mem h)) h0 h1
   simp only [zw3, Int.ofNat_lt, h, decide_true, cond_true, Int.natCast_nonneg, Int.toNat_natCast, zzn h, e1, Option.bind_some, hw]
   rcases h2 with h2 | ⟨h2, h3, h4⟩
   ·left; simp [h2]
   ·right; exact ⟨r1, h2, h3, h4, by simp [Int.not_lt.2 h2]⟩)
  (fun n left => by simp [zw3])
 simp only [Int.natCast_zero] at this
 exact this
end
section
variable {N : Nat} (hN : lim < N)
include hN
theorem wszState_ok {x : ((List Int) × (List (Int × Int × Int × Int × Int × Unit)) × (List Bool) × Int × Bool × Bool × Bool × Int × (List ((List Int) × Int × Bool × Int × Unit)) × (List Int) × (List Int) × Int × Int × Unit)} {left : Int} (hx : Wf tState x) (h0 : 0 ≤ left) (h1 : left ≤ 1048576) : ∃ r, zs5 N (x, left, ()) = some (r, ()) ∧ (r < 0 ∨ (0 ≤ r ∧ r ≤ left ∧ lnT tState x)) := by
 obtain ⟨r0, e0, h⟩ := wszIntS_ok hN hx.1 h0 (by omega)
 rcases h with h | ⟨c0, d0, l0⟩
 ·exact ⟨-1, by simp [zs5, e0, h], by simp⟩
 have n0 : ¬ r0 < 0 := by omega
 obtain ⟨r1, e1, h⟩ := wszRegionS_ok hN hx.2.1 c0 (by omega)
 rcases h with h | ⟨c1, d1, l1⟩
 ·exact ⟨-1, by simp [zs5, e0, e1, n0, h], by simp⟩
 have n1 : ¬ r1 < 0 := by omega
 obtain ⟨r2, e2, h⟩ := wszBoolS_ok hN hx.2.2.1 c1 (by omega)
 rcases h with h | ⟨c2, d2, l2⟩
 ·exact ⟨-1, by simp [zs5, e0, e1, e2, n0, n1, h], by simp⟩
 have n2 : ¬ r2 < 0 := by omega
 obtain ⟨r3, e3, h⟩ := wszThreadS_ok hN hx.2.2.2.2.2.2.2.2.1 c2 (by omega)
 rcases h with h | ⟨c3, d3, l3⟩
 ·exact ⟨-1, by simp [zs5, e0, e1, e2, e3, n0, n1, n2, h], by simp⟩
 have n3 : ¬ r3 < 0 := by omega
 obtain ⟨r4, e4, h⟩ := wszIntS_ok hN hx.2.2.2.2.2.2.2.2.2.1 c3 (by omega)
 rcases h with h | ⟨c4, d4, l4⟩
 ·exact ⟨-1, by simp [zs5, e0, e1, e2, e3, e4, n0, n1, n2, n3, h], by simp⟩
 have n4 : ¬ r4 < 0 := by omega
 obtain ⟨r5, e5, h⟩ := wszIntS_ok hN hx.2.2.2.2.2.2.2.2.2.2.1 c4 (by omega)
 rcases h with h | ⟨c5, d5, l5⟩
 ·exact ⟨-1, by simp [zs5, e0, e1, e2, e3, e4, e5, n0, n1, n2, n3, n4, h], by simp⟩
 have n5 : ¬ r5 < 0 := by omega
 exact ⟨r5, by simp [zs5, e0, e1, e2, e3, e4, e5, n0, n1, n2, n3, n4, n5], .inr ⟨c5, by omega, l0, l1, l2, by simp [lnT], by simp [lnT], by simp [lnT], by simp [lnT], by simp [lnT], l3, l4, l5, by simp [lnT], by simp [lnT], trivial⟩⟩
end
section
variable {N : Nat} (hN : lim < N)
include hN
theorem wtoIntS_ok {xs : (List Int)} (hx : lnT tIntS xs) : FvtoIntS N (xs, ()) = some (xs, ()) := by
 have hlim : lim = 2147483648 := rfl
 have hl : xs.length ≤ lim := by have := hx.1; omega
 have hL := fill_loop (xs := xs) (n := N) id (L := fun n i s => zt4 N n (xs, (i : Int), s, ())) (fin := fun s => (s, ())) hl
  (fun n i s h hw hs => by
   have hs' : i < s.length := by omega
   simp [zt4, h, hs', hw])
  (fun n s hs => by simp [zt4]) (by omega) (s := List.replicate xs.length (0 : Int)) (by simp)
 simp only [Int.natCast_zero] at hL
 simp [FvtoIntS, hL, hl]
end
section
variable {N : Nat} (hN : lim < N)
include hN
theorem wtoRegion_ok {x : (Int × Int × Int × Int × Int × Unit)} (hx : lnT tRegion x) : FvtoRegion N (x, ()) = some (x.1, x.2.1, x.2.2.1, x.2.2.2.1, x.2.2.2.2.1, ()) := by
 simp [FvtoRegion]
end
section
variable {N : Nat} (hN : lim < N)
include hN
theorem wtoRegionS_ok {xs : (List (Int × Int × Int × Int × Int × Unit))} (hx : lnT zqy xs) : FvtoRegionS N (xs, ()) = some (xs, ()) := by
 have hlim : lim = 2147483648 := rfl
 have hl : xs.length ≤ lim := by have := hx.1; omega
 have hL := fill_loop (xs := xs) (n := N) id (L := fun n i s => zw2 N n (xs, (i : Int), s, ())) (fin := fun s => (s, ())) hl
  (fun n i s h hw hs => by
   have hs' : i < s.length := by omega
   simp [zw2, h, hs', hw, wtoRegion_ok hN (hx.2 xs[i] (List.getElem_mem h))])
  (fun n s hs => by simp [zw2]) (by omega) (s := List.replicate xs.length ((0 : Int), (0 : Int), (0 : Int), (0 : Int), (0 : Int), ())) (by simp)
 simp only [Int.natCast_zero] at hL
 simp [FvtoRegionS, hL, hl]
end
section
variable {N : Nat} (hN : lim < N)
include hN
theorem wtoBoolS_ok {xs : (List Bool)} (hx : lnT tBoolS xs) : FvtoBoolS N (xs, ()) = some (xs, ()) := by
 have hlim : lim = 2147483648 := rfl
 have hl : xs.length ≤ lim := by have := hx.1; omega
 have hL := fill_loop (xs := xs) (n := N) id (L := fun n i s => zuh N n (xs, (i : Int), s, ())) (fin := fun s => (s, ())) hl
  (fun n i s h hw hs => by
   have hs' : i < s.length := by omega
   simp [zuh, h, hs', hw])
  (fun n s hs => by simp [zuh]) (by omega) (s := List.replicate xs.length false) (by simp)
 simp only [Int.natCast_zero] at hL
 simp [FvtoBoolS, hL, hl]
end
section
variable {N : Nat} (hN : lim < N)
include hN
theorem wtoThread_ok {x : ((List Int) × Int × Bool × Int × Unit)} (hx : lnT tThread x) : FvtoThread N (x, ()) = some (x.2.1, x.2.2.1, x.2.2.2.1, x.1, ()) := by
 simp [FvtoThread, wtoIntS_ok hN hx.1]
end
section
variable {N : Nat} (hN : lim < N)
include hN
theorem wtoThreadS_ok {xs : (List ((List Int) × Int × Bool × Int × Unit))} (hx : lnT zqz xs) : FvtoThreadS N (xs, ()) = some (xs, ()) := by
 have hlim : lim = 2147483648 := rfl
 have hl : xs.length ≤ lim := by have := hx.1; omega
 have hL := fill_loop (xs := xs) (n := N) id (L := fun n i s => zw1 N n (xs, (i : Int), s, ())) (fin := fun s => (s, ())) hl
  (fun n i s h hw hs => by
   have hs' : i < s.length := by omega
   simp [zw1, h, hs', hw, wtoThread_ok hN (hx.2 xs[i] (List.getElem_mem h))])
  (fun n s hs => by simp [zw1]) (by omega) (s := List.replicate xs.length (([] : (List Int)), (0 : Int), false, (0 : Int), ())) (by simp)
 simp only [Int.natCast_zero] at hL
 simp [FvtoThreadS, hL, hl]
end
section
variable {N : Nat} (hN : lim < N)
include hN
theorem wtoState_ok {x : ((List Int) × (List (Int × Int × Int × Int × Int × Unit)) × (List Bool) × Int × Bool × Bool × Bool × Int × (List ((List Int) × Int × Bool × Int × Unit)) × (List Int) × (List Int) × Int × Int × Unit)} (hx : lnT tState x) : FvtoState N (x, ()) = some (x.2.2.2.1, x.2.2.2.2.1, x.2.2.2.2.2.1, x.2.2.2.2.2.2.1, x.2.2.2.2.2.2.2.1, x.2.2.2.2.2.2.2.2.2.2.2.1, x.2.2.2.2.2.2.2.2.2.2.2.2.1, x.1, x.2.1, x.2.2.1, x.2.2.2.2.2.2.2.2.1, x.2.2.2.2.2.2.2.2.2.1, x.2.2.2.2.2.2.2.2.2.2.1, ()) := by
 simp [FvtoState, wtoIntS_ok hN hx.1, wtoRegionS_ok hN hx.2.1, wtoBoolS_ok hN hx.2.2.1, wtoThreadS_ok hN hx.2.2.2.2.2.2.2.2.1, wtoIntS_ok hN hx.2.2.2.2.2.2.2.2.2.1, wtoIntS_ok hN hx.2.2.2.2.2.2.2.2.2.2.1]
end
section
variable {N : Nat} (hN : lim < N)
include hN
theorem zs9 {xs ys : (List Int)} (hx : lnT tIntS xs) : zso N (xs, ys, ()) = some (decide (xs = ys), ()) := by
 have hlim : lim = 2147483648 := rfl
 have hl : xs.length ≤ lim := by have := hx.1; omega
 by_cases hlen : xs.length = ys.length
 ·have hL := eq_loop (xs := xs) (ys := ys) (n := N) (L := fun n i => zu6 N n (xs, ys, (i : Int), ())) (yes := .inl ()) (no := .inr (false, ())) hl hlen
   (fun n i h1 h2 hw hq => by
    simp [zu6, h1, h2, hw, hq])
   (fun n i h1 h2 hq => by simp [zu6, h1, h2, hq])
   (fun n => by simp [zu6, hlen]) (by omega)
  simp only [Int.natCast_zero] at hL
  rcases Decidable.em (xs = ys) with rfl | h
  ·simp [zso, hL]
  ·simp [zso, hL, h, hlen]
 ·have h : xs ≠ ys := fun h => hlen (by rw [h])
  have h2 : (xs.length : Int) ≠ ys.length := by omega
  simp [zso, h, h2]
end
section
variable {N : Nat} (hN : lim < N)
include hN
theorem weqRegion_ok {x y : (Int × Int × Int × Int × Int × Unit)} (hx : lnT tRegion x) : FveqRegion N (x, y, ()) = some (decide (x = y), ()) := by
 obtain ⟨xa, xb, xc, xd, xe, ⟨⟩⟩ := x
 obtain ⟨ya, yb, yc, yd, ye, ⟨⟩⟩ := y
 simp only [FveqRegion, Option.bind_some, ne_step, not_step, bool_beq]
 simp only [Prod.mk.injEq, Bool.decide_and, and_true, Bool.and_true, decide_true]
end
section
variable {N : Nat} (hN : lim < N)
include hN
theorem weqRegionS_ok {xs ys : (List (Int × Int × Int × Int × Int × Unit))} (hx : lnT zqy xs) : zqn N (xs, ys, ()) = some (decide (xs = ys), ()) := by
 have hlim : lim = 2147483648 := rfl
 have hl : xs.length ≤ lim := by have := hx.1; omega
 by_cases hlen : xs.length = ys.length
 ·have hL := eq_loop (xs := xs) (ys := ys) (n := N) (L := fun n i => zwo N n (xs, ys, (i : Int), ())) (yes := .inl ()) (no := .inr (false, ())) hl hlen
   (fun n i h1 h2 hw hq => by
    have e := weqRegion_ok hN (y := ys[i]) (hx.2 _ (List.getElem_mem h1))
    rw [decide_eq_true hq] at e
    simp [zwo, h1, h2, hw, e])
   (fun n i h1 h2 hq => by simp [zwo, h1, h2, hq, weqRegion_ok hN (y := ys[i]) (hx.2 _ (List.getElem_mem h1))])
   (fun n => by simp [zwo, hlen]) (by omega)
  simp only [Int.natCast_zero] at hL
  rcases Decidable.em (xs = ys) with rfl | h
  ·simp [zqn, hL]
  ·simp [zqn, hL, h, hlen]
 ·have h : xs ≠ ys := fun h => hlen (by rw [h])
  have h2 : (xs.length : Int) ≠ ys.length := by omega
  simp [zqn, h, h2]
end
section
variable {N : Nat} (hN : lim < N)
include hN
theorem weqBoolS_ok {xs ys : (List Bool)} (hx : lnT tBoolS xs) : FveqBoolS N (xs, ys, ()) = some (decide (xs = ys), ()) := by
 have hlim : lim = 2147483648 := rfl
 have hl : xs.length ≤ lim := by have := hx.1; omega
 by_cases hlen : xs.length = ys.length
 ·have hL := eq_loop (xs := xs) (ys := ys) (n := N) (L := fun n i => zv6 N n (xs, ys, (i : Int), ())) (yes := .inl ()) (no := .inr (false, ())) hl hlen
   (fun n i h1 h2 hw hq => by
    simp [zv6, h1, h2, hw, hq])
   (fun n i h1 h2 hq => by simp [zv6, h1, h2, hq])
   (fun n => by simp [zv6, hlen]) (by omega)
  simp only [Int.natCast_zero] at hL
  rcases Decidable.em (xs = ys) with rfl | h
  ·simp [FveqBoolS, hL]
  ·simp [FveqBoolS, hL, h, hlen]
 ·have h : xs ≠ ys := fun h => hlen (by rw [h])
  have h2 : (xs.length : Int) ≠ ys.length := by omega
  simp [FveqBoolS, h, h2]
end
section
variable {N : Nat} (hN : lim < N)
include hN
theorem weqThread_ok {x y : ((List Int) × Int × Bool × Int × Unit)} (hx : lnT tThread x) : FveqThread N (x, y, ()) = some (decide (x = y), ()) := by
 obtain ⟨xa, xb, xc, xd, ⟨⟩⟩ := x
 obtain ⟨ya, yb, yc, yd, ⟨⟩⟩ := y
 simp only [FveqThread, Option.bind_some, zs9 hN hx.1, ne_step, not_step, bool_beq]
 simp only [Prod.mk.injEq, Bool.decide_and, and_true, Bool.and_true, decide_true]
end
section
variable {N : Nat} (hN : lim < N)
include hN
theorem weqThreadS_ok {xs ys : (List ((List Int) × Int × Bool × Int × Unit))} (hx : lnT zqz xs) : zqo N (xs, ys, ()) = some (decide (xs = ys), ()) := by
 have hlim : lim = 2147483648 := rfl
 have hl : xs.length ≤ lim := by have := hx.1; omega
 by_cases hlen : xs.length = ys.length
 ·have hL := eq_loop (xs := xs) (ys := ys) (n := N) (L := fun n i => zwp N n (xs, ys, (i : Int), ())) (yes := .inl ()) (no := .inr (false, ())) hl hlen
   (fun n i h1 h2 hw hq => by
    have e := weqThread_ok hN (y := ys[i]) (hx.2 _ (List.getElem_mem h1))
    rw [decide_eq_true hq] at e
    simp [zwp, h1, h2, hw, e])
   (fun n i h1 h2 hq => by simp [zwp, h1, h2, hq, weqThread_ok hN (y := ys[i]) (hx.2 _ (List.getElem_mem h1))])
   (fun n => by simp [zwp, hlen]) (by omega)
  simp only [Int.natCast_zero] at hL
  rcases Decidable.em (xs = ys) with rfl | h
  ·simp [zqo, hL]
  ·simp [zqo, hL, h, hlen]
 ·have h : xs ≠ ys := fun h => hlen (by rw [h])
  have h2 : (xs.length : Int) ≠ ys.length := by omega
  simp [zqo, h, h2]
end
section
variable {N : Nat} (hN : lim < N)
include hN
theorem weqState_ok {x y : ((List Int) × (List (Int × Int × Int × Int × Int × Unit)) × (List Bool) × Int × Bool × Bool × Bool × Int × (List ((List Int) × Int × Bool × Int × Unit)) × (List Int) × (List Int) × Int × Int × Unit)} (hx : lnT tState x) : FveqState N (x, y, ()) = some (decide (x = y), ()) := by
 obtain ⟨xa, xb, xc, xd, xe, xf, xg, xh, xi, xj, xk, xl, xm, ⟨⟩⟩ := x
 obtain ⟨ya, yb, yc, yd, ye, yf, yg, yh, yi, yj, yk, yl, ym, ⟨⟩⟩ := y
 simp only [FveqState, Option.bind_some, zs9 hN hx.1, weqRegionS_ok hN hx.2.1, weqBoolS_ok hN hx.2.2.1, weqThreadS_ok hN hx.2.2.2.2.2.2.2.2.1, zs9 hN hx.2.2.2.2.2.2.2.2.2.1, zs9 hN hx.2.2.2.2.2.2.2.2.2.2.1, ne_step, not_step, bool_beq]
 simp only [Prod.mk.injEq, Bool.decide_and, and_true, Bool.and_true, decide_true]
end
section
variable {N : Nat} (hN : lim < N)
include hN
theorem weqNode_ok {x y : ((List Int) × (List Int) × Unit)} (hx : lnT tNode x) : FveqNode N (x, y, ()) = some (decide (x = y), ()) := by
 obtain ⟨xa, xb, ⟨⟩⟩ := x
 obtain ⟨ya, yb, ⟨⟩⟩ := y
 simp only [FveqNode, Option.bind_some, zs9 hN hx.1, zs9 hN hx.2.1, ne_step, not_step, bool_beq]
 simp only [Prod.mk.injEq, Bool.decide_and, and_true, Bool.and_true, decide_true]
end
section
variable {N : Nat} (hN : lim < N)
include hN
theorem weqNodeS_ok {xs ys : (List ((List Int) × (List Int) × Unit))} (hx : lnT tNodeS xs) : FveqNodeS N (xs, ys, ()) = some (decide (xs = ys), ()) := by
 have hlim : lim = 2147483648 := rfl
 have hl : xs.length ≤ lim := by have := hx.1; omega
 by_cases hlen : xs.length = ys.length
 ·have hL := eq_loop (xs := xs) (ys := ys) (n := N) (L := fun n i => zv4 N n (xs, ys, (i : Int), ())) (yes := .inl ()) (no := .inr (false, ())) hl hlen
   (fun n i h1 h2 hw hq => by
    have e := weqNode_ok hN (y := ys[i]) (hx.2 _ (List.getElem_mem h1))
    rw [decide_eq_true hq] at e
    simp [zv4, h1, h2, hw, e])
   (fun n i h1 h2 hq => by simp [zv4, h1, h2, hq, weqNode_ok hN (y := ys[i]) (hx.2 _ (List.getElem_mem h1))])
   (fun n => by simp [zv4, hlen]) (by omega)
  simp only [Int.natCast_zero] at hL
  rcases Decidable.em (xs = ys) with rfl | h
  ·simp [FveqNodeS, hL]
  ·simp [FveqNodeS, hL, h, hlen]
 ·have h : xs ≠ ys := fun h => hlen (by rw [h])
  have h2 : (xs.length : Int) ≠ ys.length := by omega
  simp [FveqNodeS, h, h2]
end
section
variable {N : Nat} (hN : lim < N)
include hN
theorem weqIntSS_ok {xs ys : (List (List Int))} (hx : lnT tIntSS xs) : FveqIntSS N (xs, ys, ()) = some (decide (xs = ys), ()) := by
 have hlim : lim = 2147483648 := rfl
 have hl : xs.length ≤ lim := by have := hx.1; omega
 by_cases hlen : xs.length = ys.length
 ·have hL := eq_loop (xs := xs) (ys := ys) (n := N) (L := fun n i => zv5 N n (xs, ys, (i : Int), ())) (yes := .inl ()) (no := .inr (false, ())) hl hlen
   (fun n i h1 h2 hw hq => by
    have e := zs9 hN (ys := ys[i]) (hx.2 _ (List.getElem_mem h1))
    rw [decide_eq_true hq] at e
    simp [zv5, h1, h2, hw, e])
   (fun n i h1 h2 hq => by simp [zv5, h1, h2, hq, zs9 hN (ys := ys[i]) (hx.2 _ (List.getElem_mem h1))])
   (fun n => by simp [zv5, hlen]) (by omega)
  simp only [Int.natCast_zero] at hL
  rcases Decidable.em (xs = ys) with rfl | h
  ·simp [FveqIntSS, hL]
  ·simp [FveqIntSS, hL, h, hlen]
 ·have h : xs ≠ ys := fun h => hlen (by rw [h])
  have h2 : (xs.length : Int) ≠ ys.length := by omega
  simp [FveqIntSS, h, h2]
end
section
variable {N : Nat} (hN : lim < N)
include hN
theorem weqGraph_ok {x y : ((List ((List Int) × (List Int) × Unit)) × (List (List Int)) × (List Int) × Unit)} (hx : lnT tGraph x) : FveqGraph N (x, y, ()) = some (decide (x = y), ()) := by
 obtain ⟨xa, xb, xc, ⟨⟩⟩ := x
 obtain ⟨ya, yb, yc, ⟨⟩⟩ := y
 simp only [FveqGraph, Option.bind_some, weqNodeS_ok hN hx.1, weqIntSS_ok hN hx.2.1, zs9 hN hx.2.2.1, ne_step, not_step, bool_beq]
 simp only [Prod.mk.injEq, Bool.decide_and, and_true, Bool.and_true, decide_true]
end
def markI (k : Int) : Nat → List Int
 | 0 => []
 | n + 1 => k :: markI (k + 1) n
theorem markI_len : ∀ (n : Nat) (k : Int), (markI k n).length = n
 | 0, _ => rfl
 | n + 1, k => by simp [markI, markI_len n]
theorem markI_get : ∀ (n : Nat) (k : Int) (i : Nat) (h : i < (markI k n).length), (markI k n)[i] = k + i
 | 0, _, _, h => absurd h (Nat.not_lt_zero _)
 | n + 1, k, 0, _ => by simp [markI]
 | n + 1, k, i + 1, h => by
  simp only [markI, List.getElem_cons_succ]
  rw [markI_get n (k + 1) i]
  omega
theorem set_take {α : Type} {s : List α} {i : Nat} {x : α} (h : i < s.length) : (s.set i x).take (i + 1) = s.take i ++ [x] := by
 rw [List.take_succ_eq_append_getElem (by simpa using h)]
 simp [List.take_set_of_le]
section
variable {N : Nat} (hN : lim < N)
include hN
theorem vmarkIntS_ok {k : Int} {xs : List Int} (hl : xs.length ≤ lim) (h0 : 0 ≤ k) (h1 : k < 2305843009213693952) : zvn N (k, xs, ()) = some (k + xs.length, markI k xs.length, ()) := by
 have hlim : lim = 2147483648 := rfl
 have key : ∀ (n i : Nat) (k : Int) (s : List Int), i ≤ s.length → s.length - i < n → s.length ≤ lim → 0 ≤ k → k < 2305843009213693952 + i → zx1 N n (k, (i : Int), s, ()) = some (k + (s.length - i : Nat), s.take i ++ markI k (s.length - i), ()) := by
  intro n
  induction n with
  | zero => intro i k s _ h; exact absurd h (Nat.not_lt_zero _)
  | succ n ih =>
   intro i k s hi hn hs hk hk'
   by_cases h : i < s.length
   ·have w1 : w64 ((i : Int) + 1) = ((i + 1 : Nat) : Int) := zyn (by omega)
    have w2 : w64 (k + 1) = k + 1 := zyy (by omega) (by omega)
    have := ih (i + 1) (k + 1) (s.set i k) (by simp; omega) (by simp; omega) (by simpa using hs) (by omega) (by omega)
    simp only [zx1, w1, w2]
    simp only [Int.ofNat_lt, h, decide_true, cond_true, Int.natCast_nonneg, Int.toNat_natCast, this, List.length_set, set_take h]
    have e : s.length - i = (s.length - (i + 1)) + 1 := by omega
    rw [e]
    simp only [markI, List.append_assoc, List.cons_append, List.nil_append]
    congr 2
    omega
   ·have : i = s.length := by omega
    subst this
    simp [zx1, markI]
 have := key N 0 k xs (by omega) (by omega) hl h0 (by omega)
 simp only [Int.natCast_zero, Nat.sub_zero, List.take_zero, List.nil_append] at this
 simp [zvn, this]
end
def zvg : Int → List Nd → Int × List Nd
 | k, [] => (k, [])
 | k, x :: r => ((zvg (k + x.1.length + x.2.1.length) r).1, (markI k x.1.length, markI (k + x.1.length) x.2.1.length, ()) :: (zvg (k + x.1.length + x.2.1.length) r).2)
def ztw : Int → List (List Int) → Int × List (List Int)
 | k, [] => (k, [])
 | k, x :: r => ((ztw (k + x.length) r).1, markI k x.length :: (ztw (k + x.length) r).2)
def markGr (k : Int) (g : Gr) : Int × Gr :=
 ((ztw (zvg k g.1).1 g.2.1).1 + g.2.2.1.length, (zvg k g.1).2, (ztw (zvg k g.1).1 g.2.1).2, markI (ztw (zvg k g.1).1 g.2.1).1 g.2.2.1.length, ())
theorem markNs_rng : ∀ {xs : List Nd} (k : Int), (∀ x ∈ xs, smN x) → k ≤ (zvg k xs).1 ∧ (zvg k xs).1 ≤ k + 2097152 * xs.length
 | [], k, _ => by simp [zvg]
 | x :: r, k, h => by
  have hx := h x (by simp)
  simp only [smN, sm] at hx
  have := markNs_rng (xs := r) (k + x.1.length + x.2.1.length) (fun y hy => h y (by simp [hy]))
  simp only [zvg, List.length_cons]
  omega
theorem markIs_rng : ∀ {xs : List (List Int)} (k : Int), (∀ x ∈ xs, sm x.length) → k ≤ (ztw k xs).1 ∧ (ztw k xs).1 ≤ k + 1048576 * xs.length
 | [], k, _ => by simp [ztw]
 | x :: r, k, h => by
  have hx := h x (by simp)
  simp only [sm] at hx
  have := markIs_rng (xs := r) (k + x.length) (fun y hy => h y (by simp [hy]))
  simp only [ztw, List.length_cons]
  omega
section
variable {N : Nat} (hN : lim < N)
include hN
theorem vmarkNodeS_ok {k : Int} {xs : List Nd} (hl : xs.length ≤ 1048576) (hx : ∀ x ∈ xs, smN x) (h0 : 0 ≤ k) (h1 : k < 1000000000000) : FvmarkNodeS N (k, xs, ()) = some ((zvg k xs).1, (zvg k xs).2, ()) := by
 have hlim : lim = 2147483648 := rfl
 have key : ∀ (n i : Nat) (k : Int) (s : List Nd), i ≤ s.length → s.length - i < n → s.length ≤ 1048576 → (∀ x ∈ s.drop i, smN x) → 0 ≤ k → k < 1000000000000 + 2097152 * i →
   zw4 N n (k, (i : Int), s, ()) = some ((zvg k (s.drop i)).1, s.take i ++ (zvg k (s.drop i)).2, ()) := by
  intro n
  induction n with
  | zero => intro i k s _ h; exact absurd h (Nat.not_lt_zero _)
  | succ n ih =>
   intro i k s hi hn hs hx hk hk'
   by_cases h : i < s.length
   ·have w1 : w64 ((i : Int) + 1) = ((i + 1 : Nat) : Int) := zyn (by omega)
    rw [zt6 h] at hx
    have hxi := hx s[i] List.mem_cons_self
    simp only [smN, sm] at hxi
    have e1 := vmarkIntS_ok hN (k := k) (xs := s[i].1) (by omega) hk (by omega)
    have e2 := vmarkIntS_ok hN (k := k + s[i].1.length) (xs := s[i].2.1) (by omega) (by omega) (by omega)
    have := ih (i + 1) (k + s[i].1.length + s[i].2.1.length) ((s.set i (markI k s[i].1.length, s[i].2)).set i (markI k s[i].1.length, markI (k + s[i].1.length) s[i].2.1.length, ())) (by simp; omega) (by simp; omega) (by simpa using hs)
     (by
      rw [List.drop_set_of_lt (by omega), List.drop_set_of_lt (by omega)]
      exact fun x hx' => hx x (List.mem_cons_of_mem _ hx')) (by omega) (by omega)
    have hset : i < (s.set i (markI k s[i].1.length, s[i].2)).length := by simpa using h
    rw [List.drop_set_of_lt (by omega), List.drop_set_of_lt (by omega), set_take hset, List.take_set_of_le (Nat.le_refl _)] at this
    rw [zt6 h]
    simp only [zvg]
    simp only [zw4, w1]
    simp only [Int.ofNat_lt, h, decide_true, cond_true, Int.natCast_nonneg, Int.toNat_natCast, zzn h, e1, Option.bind_some, hset, zzn hset, List.getElem_set_self, e2, this]
    simp
   ·have : i = s.length := by omega
    subst this
    simp [zw4, zvg]
 have := key N 0 k xs (by omega) (by omega) hl (by simpa using hx) h0 (by omega)
 simp only [Int.natCast_zero, List.drop_zero, List.take_zero, List.nil_append] at this
 simp [FvmarkNodeS, this]
theorem vmarkIntSS_ok {k : Int} {xs : List (List Int)} (hl : xs.length ≤ 1048576) (hx : ∀ x ∈ xs, sm x.length) (h0 : 0 ≤ k) (h1 : k < 10000000000000) : FvmarkIntSS N (k, xs, ()) = some ((ztw k xs).1, (ztw k xs).2, ()) := by
 have hlim : lim = 2147483648 := rfl
 have key : ∀ (n i : Nat) (k : Int) (s : List (List Int)), i ≤ s.length → s.length - i < n → s.length ≤ 1048576 → (∀ x ∈ s.drop i, sm x.length) → 0 ≤ k → k < 10000000000000 + 1048576 * i →
   zw5 N n (k, (i : Int), s, ()) = some ((ztw k (s.drop i)).1, s.take i ++ (ztw k (s.drop i)).2, ()) := by
  intro n
  induction n with
  | zero => intro i k s _ h; exact absurd h (Nat.not_lt_zero _)
  | succ n ih =>
   intro i k s hi hn hs hx hk hk'
   by_cases h : i < s.length
   ·have w1 : w64 ((i : Int) + 1) = ((i + 1 : Nat) : Int) := zyn (by omega)
    rw [zt6 h] at hx
    have hxi := hx s[i] List.mem_cons_self
    simp only [sm] at hxi
    have e1 := vmarkIntS_ok hN (k := k) (xs := s[i]) (by omega) hk (by omega)
    have := ih (i + 1) (k + s[i].length) (s.set i (markI k s[i].length)) (by simp; omega) (by simp; omega) (by simpa using hs)
     (by
      rw [List.drop_set_of_lt (by omega)]
      exact fun x hx' => hx x (List.mem_cons_of_mem _ hx')) (by omega) (by omega)
    rw [List.drop_set_of_lt (by omega), set_take h] at this
    rw [zt6 h]
    simp only [ztw]
    simp only [zw5, w1]
    simp only [Int.ofNat_lt, h, decide_true, cond_true, Int.natCast_nonneg, Int.toNat_natCast, zzn h, e1, Option.bind_some, this]
    simp
   ·have : i = s.length := by omega
    subst this
    simp [zw5, ztw]
 have := key N 0 k xs (by omega) (by omega) hl (by simpa using hx) h0 (by omega)
 simp only [Int.natCast_zero, List.drop_zero, List.take_zero, List.nil_append] at this
 simp [FvmarkIntSS, this]
theorem vmarkGraph_ok {k : Int} {g : Gr} (hs : smG g) (h0 : 0 ≤ k) (h1 : k < 1000) : FvmarkGraph N (k, g.1, g.2.1, g.2.2.1, ()) = some ((markGr k g).1, (markGr k g).2) := by
 obtain ⟨a1, a2, a3, a4, a5⟩ := hs
 have b1 := markNs_rng (xs := g.1) k a2
 simp only [sm] at a1 a3 a5
 have b2 := markIs_rng (xs := g.2.1) (zvg k g.1).1 a4
 have c1 : (2097152 : Int) * g.1.length ≤ 2097152 * 1048576 := by omega
 have c2 : (1048576 : Int) * g.2.1.length ≤ 1048576 * 1048576 := by omega
 simp [FvmarkGraph, markGr, vmarkNodeS_ok hN a1 a2 h0 (by omega), vmarkIntSS_ok hN a3 a4 (k := (zvg k g.1).1) (by omega) (by omega), vmarkIntS_ok hN (k := (ztw (zvg k g.1).1 g.2.1).1) (xs := g.2.2.1) (by rw [zrf]; omega) (by omega) (by omega)]
end
section
variable {N : Nat} (hN : lim < N)
include hN
theorem vheldIntS_ok {k : Int} {n : Nat} (hl : n ≤ lim) (h0 : 0 ≤ k) (h1 : k < 2305843009213693952) : zq6 N (markI k n, k, ()) = some (k + n, ()) := by
 have hlim : lim = 2147483648 := rfl
 have hlen := markI_len n k
 have key : ∀ (m i : Nat), i ≤ n → n - i < m → zvf N m (markI k n, k + i, (i : Int), ()) = some (.inl (k + n, ())) := by
  intro m
  induction m with
  | zero => intro i _ h; exact absurd h (Nat.not_lt_zero _)
  | succ m ih =>
   intro i hi hm
   by_cases h : i < n
   ·have w1 : w64 ((i : Int) + 1) = ((i + 1 : Nat) : Int) := zyn (by omega)
    have w2 : w64 (k + i + 1) = k + ((i + 1 : Nat) : Int) := by rw [zyy (by omega) (by omega)]; omega
    have h' : i < (markI k n).length := by omega
    have := ih (i + 1) (by omega) (by omega)
    simp only [zvf, w1, w2]
    simp only [Int.ofNat_lt, h', decide_true, cond_true, Int.natCast_nonneg, Int.toNat_natCast, zzn h', markI_get n k i h', zua, if_true, this]
   ·have : i = n := by omega
    subst this
    simp [zvf, hlen]
 have := key N 0 (by omega) (by omega)
 simp only [Int.natCast_zero, Int.add_zero] at this
 simp [zq6, this]
end
section
variable {N : Nat} (hN : lim < N)
include hN
theorem vheldNodeS_ok {k : Int} {xs : List Nd} (hl : xs.length ≤ 1048576) (hx : ∀ x ∈ xs, smN x) (h0 : 0 ≤ k) (h1 : k < 1000000000000) : FvheldNodeS N ((zvg k xs).2, k, ()) = some ((zvg k xs).1, ()) := by
 have hlim : lim = 2147483648 := rfl
 have key : ∀ (ys pre : List Nd) (n : Nat) (j : Int), (∀ x ∈ ys, smN x) → pre.length + ys.length ≤ 1048576 → ys.length < n → 0 ≤ j → j < 1000000000000 + 2097152 * pre.length →
   zw7 N n (pre ++ (zvg j ys).2, j, (pre.length : Int), ()) = some (.inl ((zvg j ys).1, ())) := by
  intro ys
  induction ys with
  | nil =>
   intro pre n j _ _ hn _ _
   obtain ⟨n, rfl⟩ : ∃ n', n = n' + 1 := ⟨n - 1, by simp at hn; omega⟩
   simp [zw7, zvg]
  | cons y ys ih =>
   intro pre n j hx hl hn hj hj'
   obtain ⟨n, rfl⟩ : ∃ n', n = n' + 1 := ⟨n - 1, by simp at hn; omega⟩
   have hy := hx y (by simp)
   simp only [smN, sm] at hy
   simp only [List.length_cons] at hl hn
   have w1 : w64 ((pre.length : Int) + 1) = ((pre.length + 1 : Nat) : Int) := zyn (by omega)
   have e1 := vheldIntS_ok hN (k := j) (n := y.1.length) (by omega) hj (by omega)
   have e2 := vheldIntS_ok hN (k := j + y.1.length) (n := y.2.1.length) (by omega) (by omega) (by omega)
   have := ih (pre ++ [(markI j y.1.length, markI (j + y.1.length) y.2.1.length, ())]) n (j + y.1.length + y.2.1.length) (fun x hx' => hx x (by simp [hx'])) (by simp; omega) (by omega) (by omega) (by simp; omega)
   simp only [List.append_assoc, List.cons_append, List.nil_append, List.length_append, List.length_singleton] at this
   simp only [zvg]
   generalize hq : (zvg (j + y.1.length + y.2.1.length) ys).2 = q at this ⊢
   have hlt : pre.length < (pre ++ (markI j y.1.length, markI (j + y.1.length) y.2.1.length, ()) :: q).length := by simp
   have hget : (pre ++ (markI j y.1.length, markI (j + y.1.length) y.2.1.length, ()) :: q)[pre.length] = (markI j y.1.length, markI (j + y.1.length) y.2.1.length, ()) := by simp
   have n1 : ¬ j + (y.1.length : Int) < 0 := by omega
   have n2 : ¬ j + (y.1.length : Int) + (y.2.1.length : Int) < 0 := by omega
   simp only [zw7, w1]
   simp only [Int.ofNat_lt, hlt, decide_true, cond_true, Int.natCast_nonneg, Int.toNat_natCast, zzn hlt, hget, e1, Option.bind_some, n1, decide_false, cond_false, e2, n2, this]
 have := key xs [] N k hx (by simpa using hl) (by omega) h0 (by simpa using h1)
 simp only [List.length_nil, Int.natCast_zero, List.nil_append] at this
 simp [FvheldNodeS, this]
theorem vheldIntSS_ok {k : Int} {xs : List (List Int)} (hl : xs.length ≤ 1048576) (hx : ∀ x ∈ xs, sm x.length) (h0 : 0 ≤ k) (h1 : k < 10000000000000) : FvheldIntSS N ((ztw k xs).2, k, ()) = some ((ztw k xs).1, ()) := by
 have hlim : lim = 2147483648 := rfl
 have key : ∀ (ys pre : List (List Int)) (n : Nat) (j : Int), (∀ x ∈ ys, sm x.length) → pre.length + ys.length ≤ 1048576 → ys.length < n → 0 ≤ j → j < 10000000000000 + 1048576 * pre.length →
   zw8 N n (pre ++ (ztw j ys).2, j, (pre.length : Int), ()) = some (.inl ((ztw j ys).1, ())) := by
  intro ys
  induction ys with
  | nil =>
   intro pre n j _ _ hn _ _
   obtain ⟨n, rfl⟩ : ∃ n', n = n' + 1 := ⟨n - 1, by simp at hn; omega⟩
   simp [zw8, ztw]
  | cons y ys ih =>
   intro pre n j hx hl hn hj hj'
   obtain ⟨n, rfl⟩ : ∃ n', n = n' + 1 := ⟨n - 1, by simp at hn; omega⟩
   have hy := hx y (by simp)
   simp only [sm] at hy
   simp only [List.length_cons] at hl hn
   have w1 : w64 ((pre.length : Int) + 1) = ((pre.length + 1 : Nat) : Int) := zyn (by omega)
   have e1 := vheldIntS_ok hN (k := j) (n := y.length) (by omega) hj (by omega)
   have := ih (pre ++ [markI j y.length]) n (j + y.length) (fun x hx' => hx x (by simp [hx'])) (by simp; omega) (by omega) (by omega) (by simp; omega)
   simp only [List.append_assoc, List.cons_append, List.nil_append, List.length_append, List.length_singleton] at this
   simp only [ztw]
   generalize hq : (ztw (j + y.length) ys).2 = q at this ⊢
   have hlt : pre.length < (pre ++ markI j y.length :: q).length := by simp
   have hget : (pre ++ markI j y.length :: q)[pre.length] = markI j y.length := by simp
   have n1 : ¬ j + (y.length : Int) < 0 := by omega
   simp only [zw8, w1]
   simp only [Int.ofNat_lt, hlt, decide_true, cond_true, Int.natCast_nonneg, Int.toNat_natCast, zzn hlt, hget, e1, Option.bind_some, n1, decide_false, cond_false, this]
 have := key xs [] N k hx (by simpa using hl) (by omega) h0 (by simpa using h1)
 simp only [List.length_nil, Int.natCast_zero, List.nil_append] at this
 simp [FvheldIntSS, this]
theorem vheldGraph_ok {k : Int} {g : Gr} (hs : smG g) (h0 : 0 ≤ k) (h1 : k < 1000) : zof N ((markGr k g).2, k, ()) = some ((markGr k g).1, ()) ∧ 0 ≤ (markGr k g).1 := by
 obtain ⟨a1, a2, a3, a4, a5⟩ := hs
 have b1 := markNs_rng (xs := g.1) k a2
 simp only [sm] at a1 a3 a5
 have b2 := markIs_rng (xs := g.2.1) (zvg k g.1).1 a4
 have c1 : (2097152 : Int) * g.1.length ≤ 2097152 * 1048576 := by omega
 have c2 : (1048576 : Int) * g.2.1.length ≤ 1048576 * 1048576 := by omega
 have n1 : ¬ (zvg k g.1).1 < 0 := by omega
 have n2 : ¬ (ztw (zvg k g.1).1 g.2.1).1 < 0 := by omega
 have n3 : ¬ (ztw (zvg k g.1).1 g.2.1).1 + (g.2.2.1.length : Int) < 0 := by omega
 refine ⟨?_, by simp only [markGr]; omega⟩
 simp [zof, markGr, vheldNodeS_ok hN a1 a2 h0 (by omega), vheldIntSS_ok hN a3 a4 (k := (zvg k g.1).1) (by omega) (by omega), vheldIntS_ok hN (k := (ztw (zvg k g.1).1 g.2.1).1) (n := g.2.2.1.length) (by rw [zrf]; omega) (by omega) (by omega), n1, n2, n3]
end
section
variable {N : Nat} (hN : lim < N)
include hN
theorem wmarkIntS_ok {k : Int} {xs : (List Int)} (hx : lnT tIntS xs) (h0 : 0 ≤ k) (h1 : k + bndT tIntS ≤ 4611686018427387904) : zvn N (k, xs, ()) = some ((markE tIntS k xs).1, (markE tIntS k xs).2, ()) := by
 have hlim : lim = 2147483648 := rfl
 have hx1 := hx.1
 have hL := mark_loop (f := markE (.int .i64)) (P := lnT (.int .i64)) (B := bndT (.int .i64)) (xs := xs) (n := N) (k := k) (L := fun n k i s => zx1 N n (k, (i : Int), s, ())) (fin := fun k s => (k, s, ())) (by omega) hx.2 (zog _) (fun k x hx => zv3 k hx)
  (fun n k i s h hP hk0 hk hw => by
   have hb := hk; simp only [bndT] at hb
   have w0 : w64 (k + 1) = k + 1 := zyy (by omega) (by omega)
   simp only [zx1, Int.ofNat_lt, h, decide_true, cond_true, Int.natCast_nonneg, Int.toNat_natCast, List.length_set, getD_set_i h, List.set_set, zzn h, hw, Option.bind_some, w0, show decide ((3 : Int) = 0) = false from rfl, cond_false]
   try simp only [markE])
  (fun n k s => by simp [zx1]) (by omega) h0 (by
   have : bndT (.int .i64) * (xs.length : Int) ≤ bndT (.int .i64) * 1048576 := Int.mul_le_mul_of_nonneg_left (by omega) (zog _)
   have e2 : bndT tIntS = 1048576 * bndT (.int .i64) := rfl
   omega)
 simp only [Int.natCast_zero] at hL
 simp only [zvn, hL, Option.bind_some, markE]
end
section
variable {N : Nat} (hN : lim < N)
include hN
theorem wmarkRegionS_ok {k : Int} {xs : (List (Int × Int × Int × Int × Int × Unit))} (hx : lnT zqy xs) (h0 : 0 ≤ k) (h1 : k + bndT zqy ≤ 4611686018427387904) : zp8 N (k, xs, ()) = some ((markE zqy k xs).1, (markE zqy k xs).2, ()) := by
 have hlim : lim = 2147483648 := rfl
 have hx1 := hx.1
 have hL := mark_loop (f := markE tRegion) (P := lnT tRegion) (B := bndT tRegion) (xs := xs) (n := N) (k := k) (L := fun n k i s => zxn N n (k, (i : Int), s, ())) (fin := fun k s => (k, s, ())) (by omega) hx.2 (zog _) (fun k x hx => zv3 k hx)
  (fun n k i s h hP hk0 hk hw => by
   have hb := hk; simp only [bndT] at hb
   have w0 : w64 (k + 1) = k + 1 := zyy (by omega) (by omega)
   have w1 : w64 (k + 1 + 1) = k + 1 + 1 := zyy (by omega) (by omega)
   have w2 : w64 (k + 1 + 1 + 1) = k + 1 + 1 + 1 := zyy (by omega) (by omega)
   have w3 : w64 (k + 1 + 1 + 1 + 1) = k + 1 + 1 + 1 + 1 := zyy (by omega) (by omega)
   have w4 : w64 (k + 1 + 1 + 1 + 1 + 1) = k + 1 + 1 + 1 + 1 + 1 := zyy (by omega) (by omega)
   simp only [zxn, Int.ofNat_lt, h, decide_true, cond_true, Int.natCast_nonneg, Int.toNat_natCast, List.length_set, getD_set_i h, List.set_set, zzn h, hw, Option.bind_some, w0, w1, w2, w3, w4, show decide ((3 : Int) = 0) = false from rfl, cond_false]
   try simp only [markE])
  (fun n k s => by simp [zxn]) (by omega) h0 (by
   have : bndT tRegion * (xs.length : Int) ≤ bndT tRegion * 1048576 := Int.mul_le_mul_of_nonneg_left (by omega) (zog _)
   have e2 : bndT zqy = 1048576 * bndT tRegion := rfl
   omega)
 simp only [Int.natCast_zero] at hL
 simp only [zp8, hL, Option.bind_some, markE]
end
section
variable {N : Nat} (hN : lim < N)
include hN
theorem wmarkBoolS_ok {k : Int} {xs : (List Bool)} (hx : lnT tBoolS xs) (h0 : 0 ≤ k) (h1 : k + bndT tBoolS ≤ 4611686018427387904) : FvmarkBoolS N (k, xs, ()) = some ((markE tBoolS k xs).1, (markE tBoolS k xs).2, ()) := by
 have hlim : lim = 2147483648 := rfl
 have hx1 := hx.1
 have hL := mark_loop (f := markE .bool) (P := lnT .bool) (B := bndT .bool) (xs := xs) (n := N) (k := k) (L := fun n k i s => zw6 N n (k, (i : Int), s, ())) (fin := fun k s => (k, s, ())) (by omega) hx.2 (zog _) (fun k x hx => zv3 k hx)
  (fun n k i s h hP hk0 hk hw => by
   have hb := hk; simp only [bndT] at hb
   have w0 : w64 (k + 1) = k + 1 := zyy (by omega) (by omega)
   simp only [zw6, Int.ofNat_lt, h, decide_true, cond_true, Int.natCast_nonneg, Int.toNat_natCast, List.length_set, getD_set_i h, List.set_set, zzn h, hw, Option.bind_some, w0, show decide ((3 : Int) = 0) = false from rfl, cond_false]
   try simp only [markE])
  (fun n k s => by simp [zw6]) (by omega) h0 (by
   have : bndT .bool * (xs.length : Int) ≤ bndT .bool * 1048576 := Int.mul_le_mul_of_nonneg_left (by omega) (zog _)
   have e2 : bndT tBoolS = 1048576 * bndT .bool := rfl
   omega)
 simp only [Int.natCast_zero] at hL
 simp only [FvmarkBoolS, hL, Option.bind_some, markE]
end
section
variable {N : Nat} (hN : lim < N)
include hN
theorem wmarkThreadS_ok {k : Int} {xs : (List ((List Int) × Int × Bool × Int × Unit))} (hx : lnT zqz xs) (h0 : 0 ≤ k) (h1 : k + bndT zqz ≤ 4611686018427387904) : zp7 N (k, xs, ()) = some ((markE zqz k xs).1, (markE zqz k xs).2, ()) := by
 have hlim : lim = 2147483648 := rfl
 have hx1 := hx.1
 have hL := mark_loop (f := markE tThread) (P := lnT tThread) (B := bndT tThread) (xs := xs) (n := N) (k := k) (L := fun n k i s => zxo N n (k, (i : Int), s, ())) (fin := fun k s => (k, s, ())) (by omega) hx.2 (zog _) (fun k x hx => zv3 k hx)
  (fun n k i s h hP hk0 hk hw => by
   have hb := hk; simp only [bndT] at hb
   have m0 := wmarkIntS_ok hN (k := k) (xs := s[i].1) (by first | exact hP | exact hP.1) (by omega) (by simp only [bndT]; omega)
   have b0 := zv3 (t := tIntS) (x := s[i].1) (k) hP.1
   simp only [bndT] at b0
   have w1 : w64 ((markE tIntS (k) s[i].1).1 + 1) = (markE tIntS (k) s[i].1).1 + 1 := zyy (by omega) (by omega)
   have w2 : w64 ((markE tIntS (k) s[i].1).1 + 1 + 1) = (markE tIntS (k) s[i].1).1 + 1 + 1 := zyy (by omega) (by omega)
   have w3 : w64 ((markE tIntS (k) s[i].1).1 + 1 + 1 + 1) = (markE tIntS (k) s[i].1).1 + 1 + 1 + 1 := zyy (by omega) (by omega)
   simp only [zxo, Int.ofNat_lt, h, decide_true, cond_true, Int.natCast_nonneg, Int.toNat_natCast, List.length_set, getD_set_i h, List.set_set, zzn h, hw, Option.bind_some, m0, w1, w2, w3, show decide ((3 : Int) = 0) = false from rfl, cond_false]
   try simp only [markE])
  (fun n k s => by simp [zxo]) (by omega) h0 (by
   have : bndT tThread * (xs.length : Int) ≤ bndT tThread * 1048576 := Int.mul_le_mul_of_nonneg_left (by omega) (zog _)
   have e2 : bndT zqz = 1048576 * bndT tThread := rfl
   omega)
 simp only [Int.natCast_zero] at hL
 simp only [zp7, hL, Option.bind_some, markE]
end
section
variable {N : Nat} (hN : lim < N)
include hN
theorem markState_ok {w : List Int} {tb : List (Int × Int × Int × Int × Int × Unit)} {mk : List Bool} {th : List (List Int × Int × Bool × Int × Unit)} {od pi : List Int} (l1 : lnT tIntS w) (l2 : lnT zqy tb) (l3 : lnT tBoolS mk) (l4 : lnT zqz th) (l5 : lnT tIntS od) (l6 : lnT tIntS pi)
  (x0 : Int) (x1 x2 x3 : Bool) (x4 x5 x6 : Int) : ∃ r, FvmarkState N (x0, x1, x2, x3, x4, x5, x6, 1, w, tb, mk, th, od, pi, ()) = some r ∧ ¬ r.1 < 0 := by
 have k1 := wmarkIntS_ok hN (k := 1) l1 (by omega) (by simp only [bndT]; omega)
 have b1 := zv3 (t := tIntS) (x := w) 1 l1
 simp only [bndT] at b1
 generalize markE tIntS 1 w = m1 at k1 b1
 obtain ⟨m1, W'⟩ := m1
 dsimp only at k1 b1
 have k2 := wmarkRegionS_ok hN (k := m1) l2 (by omega) (by simp only [bndT]; omega)
 have b2 := zv3 (t := zqy) (x := tb) m1 l2
 simp only [bndT] at b2
 generalize markE zqy m1 tb = m2 at k2 b2
 obtain ⟨m2, tb'⟩ := m2
 dsimp only at k2 b2
 have k3 := wmarkBoolS_ok hN (k := m2) l3 (by omega) (by simp only [bndT]; omega)
 have b3 := zv3 (t := tBoolS) (x := mk) m2 l3
 simp only [bndT] at b3
 generalize markE tBoolS m2 mk = m3 at k3 b3
 obtain ⟨m3, M'⟩ := m3
 dsimp only at k3 b3
 have k4 := wmarkThreadS_ok hN (k := m3) l4 (by omega) (by simp only [bndT]; omega)
 have b4 := zv3 (t := zqz) (x := th) m3 l4
 simp only [bndT] at b4
 generalize markE zqz m3 th = m4 at k4 b4
 obtain ⟨m4, th'⟩ := m4
 dsimp only at k4 b4
 have k5 := wmarkIntS_ok hN (k := m4) l5 (by omega) (by simp only [bndT]; omega)
 have b5 := zv3 (t := tIntS) (x := od) m4 l5
 simp only [bndT] at b5
 generalize markE tIntS m4 od = m5 at k5 b5
 obtain ⟨m5, od'⟩ := m5
 dsimp only at k5 b5
 have k6 := wmarkIntS_ok hN (k := m5) l6 (by omega) (by simp only [bndT]; omega)
 have b6 := zv3 (t := tIntS) (x := pi) m5 l6
 simp only [bndT] at b6
 generalize markE tIntS m5 pi = m6 at k6 b6
 obtain ⟨m6, pi'⟩ := m6
 dsimp only at k6 b6
 refine ⟨(m6, W', tb', M', th', od', pi', ()), ?_, by dsimp only; omega⟩
 simp only [FvmarkState, k1, k2, k3, k4, k5, k6, Option.bind_some]
end
section
variable {N : Nat} (hN : lim < N)
include hN
theorem graphO_sm {s : Stx} : smG (graphO s).2 ∧ lnT tGraph (graphO s).2 := by
 unfold graphO
 cases hh : zu9 s with
 | none => exact ⟨⟨by simp [sm], by simp, by simp [sm], by simp, by simp [sm]⟩, ⟨by simp, by simp⟩, ⟨by simp, by simp⟩, ⟨by simp, by simp⟩, trivial⟩
 | some p =>
  obtain ⟨l, met⟩ := p
  obtain ⟨C, hhd, hk, hp, hm, hM⟩ := heapOf_some hN hh
  simp only [headOk, Bool.and_eq_true, decide_eq_true_eq] at hhd
  have hml := C.met hM
  have hn : ∀ x ∈ (zor l met s).1, x.1.length ≤ 4 ∧ x.2.1.length ≤ 4 := by
   intro x hx
   simp only [zor, List.mem_map] at hx
   obtain ⟨a, ha, rfl⟩ := hx
   obtain ⟨t, k1, _⟩ := hM.self _ (zqj.mem_iff.1 ha)
   obtain ⟨k2, k3⟩ := zxt k1
   have hrl := C.refs k2
   obtain ⟨_, hs, _, _, _, hnl, _, hsz⟩ := zuo (C.rng t k2).2.2.2
   have := zsz.1 hs
   simp only [refsT, numsT, k1, List.length_map]
   omega
  have hr : ∀ x ∈ (zor l met s).2.1, x.length ≤ 8 := by
   intro x hx
   simp only [zor, List.mem_map] at hx
   obtain ⟨t, ht, rfl⟩ := hx
   have := List.all_eq_true.1 hk _ ht
   simp only [thrOk, Bool.and_eq_true, decide_eq_true_eq] at this
   rw [List.length_map]; exact this.1
  have l1 : (zor l met s).1.length ≤ 1048576 := by simp only [zor, List.length_map, zsl]; omega
  have l2 : (zor l met s).2.1.length ≤ 1048576 := by simp only [zor, List.length_map]; omega
  have l3 : (zor l met s).2.2.1.length ≤ 1048576 := by simp only [zor, List.length_map]; omega
  refine ⟨⟨l1, fun x hx => ?_, l2, fun x hx => ?_, l3⟩, ⟨l1, fun x hx => ?_⟩, ⟨l2, fun x hx => ?_⟩, ⟨l3, fun x _ => by simp [lnT]⟩, trivial⟩
  ·have := hn x hx; exact ⟨by simp only [sm]; omega, by simp only [sm]; omega⟩
  ·have := hr x hx; simp only [sm]; omega
  ·have := hn x hx; exact ⟨⟨by omega, fun y _ => by simp [lnT]⟩, ⟨by omega, fun y _ => by simp [lnT]⟩, trivial⟩
  ·have := hr x hx; exact ⟨by omega, fun y _ => by simp [lnT]⟩
theorem FnExactStateGraph_ok {s : Stx} (h : Wf tState s) : FvFnExactStateGraph N (s, ()) = some (true, ()) := by
 unfold FvFnExactStateGraph
 obtain ⟨r1, e1, hh⟩ := wszState_ok hN h (left := 1048576) (by omega) (by omega)
 simp only [e1, Option.bind_some]
 rcases hh with hh | ⟨c1, d1, l1⟩
 ·simp only [hh, decide_true, cond_true]
 have n1 : ¬ r1 < 0 := by omega
 obtain ⟨b1, b2, b3, b4, b5⟩ := stWf h l1
 obtain ⟨b6, b7, b8⟩ := stWf2 l1
 have t0 := wtoState_ok hN l1
 have q1 := weqState_ok hN (y := s) l1
 have es := sStateGraph_ok hN b1 b2 b3 b4 b5 b6 b7 b8
 have ei := iStateGraph_ok hN b1 b2 b3 b4 b6 b8
 obtain ⟨sg, lg⟩ := graphO_sm hN (s := s)
 generalize graphO s = G at es ei sg lg
 obtain ⟨ok, g⟩ := G
 dsimp only at es ei sg lg
 have q2 := weqGraph_ok hN (y := g) lg
 have k1 := vmarkGraph_ok hN (k := 1) sg (by omega) (by omega)
 obtain ⟨h1, h2⟩ := vheldGraph_ok hN (k := 1) sg (by omega) (by omega)
 have n2 : ¬ (markGr 1 g).1 < 0 := by omega
 generalize markGr 1 g = mg at k1 h1 n2
 obtain ⟨mk0, mg⟩ := mg
 dsimp only at k1 h1 n2
 have em' := fun x0 x1 x2 x3 x4 x5 x6 => markState_ok hN l1.1 l1.2.1 l1.2.2.1 l1.2.2.2.2.2.2.2.2.1 l1.2.2.2.2.2.2.2.2.2.1 l1.2.2.2.2.2.2.2.2.2.2.1 x0 x1 x2 x3 x4 x5 x6
 obtain ⟨s1, s2, s3, s4, s5, s6, s7, s8, s9, s10, s11, s12, s13, ⟨⟩⟩ := s
 obtain ⟨ga, gb, gc, ⟨⟩⟩ := g
 obtain ⟨ma, mb, mc, ⟨⟩⟩ := mg
 dsimp only at t0 q1 es ei em' q2 k1 h1
 obtain ⟨mk, em, hm⟩ := em' s4 s5 s6 s7 s8 s12 s13
 simp only [n1, n2, t0, q1, q2, es, ei, em, hm, k1, h1, decide_true, decide_false, Bool.not_true, cond_false, Option.bind_some, Sum.elim_inl, beq_self_eq_true, zua, if_true]
end
end Go.Fl
end
