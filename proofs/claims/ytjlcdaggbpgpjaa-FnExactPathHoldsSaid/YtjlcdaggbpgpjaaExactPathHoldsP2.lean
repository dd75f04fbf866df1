/- Proved: for every input the law FnExactPathHolds returns true and leaves its arguments as they were. Part 2: the functions that the law reaches, as plain functions, and plain laws about them; no conditions. -/
import Derived.Test.YtjlcdaggbpgpjaaExactPathHoldsP1
set_option linter.all false
set_option linter.all false
set_option maxRecDepth 10000
namespace Go.Fl
open Go

/-- A law's inputs are at most so large. -/
abbrev sm (n : Nat) : Prop := n ≤ 1048576

abbrev Nd := List Int × List Int × Unit

abbrev Gr := List Nd × List (List Int) × List Int × Unit

def smN (x : Nd) : Prop := sm x.1.length ∧ sm x.2.1.length

def smG (g : Gr) : Prop := sm g.1.length ∧ (∀ x ∈ g.1, smN x) ∧ sm g.2.1.length ∧ (∀ x ∈ g.2.1, sm x.length) ∧ sm g.2.2.1.length

abbrev ml (n : Nat) : Prop := n ≤ 9223372036854775807

def mlN (x : Nd) : Prop := ml x.1.length ∧ ml x.2.1.length

def mlG (g : Gr) : Prop := ml g.1.length ∧ (∀ x ∈ g.1, mlN x) ∧ ml g.2.1.length ∧ (∀ x ∈ g.2.1, ml x.length) ∧ ml g.2.2.1.length

/-- A loop that tells what is left, or stops. -/
theorem size_loop {α : Type} {xs : List α} (P : α → Prop) {L : Nat → Nat → Int → Option ((Int × Unit) ⊕ (Int × Unit))} (hl : xs.length ≤ lim)
    (h1 : ∀ n i (h : i < xs.length) (left : Int), 0 ≤ left → left ≤ 1048576 → w64 ((i : Int) + 1) = ((i + 1 : Nat) : Int) →
      L (n + 1) i left = some (.inr (-1, ())) ∨ ∃ r, 0 ≤ r ∧ r ≤ left ∧ P xs[i] ∧ L (n + 1) i left = L n (i + 1) r)
    (h3 : ∀ n left, L (n + 1) xs.length left = some (.inl (left, ()))) {n : Nat} (hn : xs.length < n) {left : Int} (h0 : 0 ≤ left) (h1' : left ≤ 1048576) :
    L n 0 left = some (.inr (-1, ())) ∨ ∃ r, 0 ≤ r ∧ r ≤ left ∧ (∀ x ∈ xs, P x) ∧ L n 0 left = some (.inl (r, ())) := by
  have key : ∀ n i left, 0 ≤ left → left ≤ 1048576 → i ≤ xs.length → xs.length - i < n → L n i left = some (.inr (-1, ())) ∨ ∃ r, 0 ≤ r ∧ r ≤ left ∧ (∀ x ∈ xs.drop i, P x) ∧ L n i left = some (.inl (r, ())) := by
    intro n
    induction n with
    | zero => intro i left _ _ _ h; exact absurd h (Nat.not_lt_zero _)
    | succ n ih =>
      intro i left h0 h2 hi hn
      by_cases h : i < xs.length
      · rcases h1 n i h left h0 h2 (w64_succ (by have : lim = 2147483648 := rfl; omega)) with h4 | ⟨r, h4, h5, h6, h7⟩
        · exact .inl h4
        · rw [h7]
          rcases ih (i + 1) r h4 (by omega) (by omega) (by omega) with h8 | ⟨q, h8, h9, h10, h11⟩
          · exact .inl h8
          · refine .inr ⟨q, h8, by omega, ?_, h11⟩
            rw [drop_at h]
            exact List.forall_mem_cons.2 ⟨h6, h10⟩
      · have : i = xs.length := by omega
        subst this
        exact .inr ⟨left, h0, Int.le_refl _, by simp, h3 _ _⟩
  simpa using key n 0 left h0 h1' (by omega) (by omega)

theorem sm_lim {n : Nat} (h : sm n) : n ≤ lim := by simp only [sm] at h; rw [lim_eq]; omega


section
variable {N : Nat}

theorem vszIntS_ok {xs : List Int} {left : Int} (hx : ml xs.length) (h0 : 0 ≤ left) (h1 : left ≤ 1048576) :
    ∃ r, FvszIntS N (xs, left, ()) = some (r, ()) ∧ (r < 0 ∨ (0 ≤ r ∧ r ≤ left ∧ sm xs.length)) := by
  simp only [ml] at hx
  simp only [FvszIntS]
  rw [w64_id (by omega) (by omega)]
  by_cases h : left - (xs.length : Int) < 0
  · simp [h]
  · simp [h, sm]; omega

end

section
variable {N : Nat}

theorem vszNode_ok {x : Nd} {left : Int} (hx : mlN x) (h0 : 0 ≤ left) (h1 : left ≤ 1048576) :
    ∃ r, FvszNode N (x, left, ()) = some (r, ()) ∧ (r < 0 ∨ (0 ≤ r ∧ r ≤ left ∧ smN x)) := by
  obtain ⟨r1, e1, h2⟩ := vszIntS_ok (N := N) hx.1 h0 h1
  simp only [FvszNode, e1, Option.bind_some]
  rcases h2 with h2 | ⟨h2, h3, h4⟩
  · simp [h2]
  · obtain ⟨r2, e2, h5⟩ := vszIntS_ok (N := N) hx.2 h2 (by omega)
    simp only [e2, Option.bind_some]
    rcases h5 with h5 | ⟨h5, h6, h7⟩
    · simp [h5, Int.not_lt.2 h2]
    · simp [Int.not_lt.2 h2, Int.not_lt.2 h5, smN, h4, h7]; omega

end

section
variable {N : Nat} (hN : lim < N)
include hN

theorem vszNodeS_ok {xs : List Nd} {left : Int} (hx : ml xs.length) (hx' : ∀ x ∈ xs, mlN x) (h0 : 0 ≤ left) (h1 : left ≤ 1048576) :
    ∃ r, FvszNodeS N (xs, left, ()) = some (r, ()) ∧ (r < 0 ∨ (0 ≤ r ∧ r ≤ left ∧ sm xs.length ∧ ∀ x ∈ xs, smN x)) := by
  simp only [ml] at hx
  simp only [FvszNodeS]
  rw [w64_id (by omega) (by omega)]
  by_cases h : left - (xs.length : Int) < 0
  · simp [h]
  · simp only [h, decide_false, cond_false]
    have hs : sm xs.length := by simp only [sm]; omega
    have hL := size_loop (xs := xs) (n := N) smN (L := fun n i l => lvszNodeS_0 N n (xs, l, (i : Int), ())) (sm_lim hs)
      (fun n i h left h0 h1 hw => by
        obtain ⟨r1, e1, h2⟩ := vszNode_ok (N := N) (hx' xs[i] (by simp)) h0 h1
        simp only [lvszNodeS_0, Int.ofNat_lt, h, decide_true, cond_true, Int.natCast_nonneg, Int.toNat_natCast, getD_lt h, e1, Option.bind_some, hw]
        rcases h2 with h2 | ⟨h2, h3, h4⟩
        · left; simp [h2]
        · right; refine ⟨r1, h2, h3, h4, ?_⟩; simp [Int.not_lt.2 h2])
      (fun n left => by simp [lvszNodeS_0]) (by have := sm_lim hs; omega) (left := left - xs.length) (by omega) (by omega)
    simp only [Int.natCast_zero] at hL
    rcases hL with hL | ⟨r, h2, h3, h4, hL⟩
    · rw [hL]; simp
    · rw [hL]; simp only [Option.bind_some, Sum.elim_inl]; exact ⟨r, rfl, .inr ⟨h2, by omega, hs, h4⟩⟩

theorem vszIntSS_ok {xs : List (List Int)} {left : Int} (hx : ml xs.length) (hx' : ∀ x ∈ xs, ml x.length) (h0 : 0 ≤ left) (h1 : left ≤ 1048576) :
    ∃ r, FvszIntSS N (xs, left, ()) = some (r, ()) ∧ (r < 0 ∨ (0 ≤ r ∧ r ≤ left ∧ sm xs.length ∧ ∀ x ∈ xs, sm x.length)) := by
  simp only [ml] at hx
  simp only [FvszIntSS]
  rw [w64_id (by omega) (by omega)]
  by_cases h : left - (xs.length : Int) < 0
  · simp [h]
  · simp only [h, decide_false, cond_false]
    have hs : sm xs.length := by simp only [sm]; omega
    have hL := size_loop (xs := xs) (n := N) (fun x => sm x.length) (L := fun n i l => lvszIntSS_0 N n (xs, l, (i : Int), ())) (sm_lim hs)
      (fun n i h left h0 h1 hw => by
        obtain ⟨r1, e1, h2⟩ := vszIntS_ok (N := N) (hx' xs[i] (by simp)) h0 h1
        simp only [lvszIntSS_0, Int.ofNat_lt, h, decide_true, cond_true, Int.natCast_nonneg, Int.toNat_natCast, getD_lt h, e1, Option.bind_some, hw]
        rcases h2 with h2 | ⟨h2, h3, h4⟩
        · left; simp [h2]
        · right; refine ⟨r1, h2, h3, h4, ?_⟩; simp [Int.not_lt.2 h2])
      (fun n left => by simp [lvszIntSS_0]) (by have := sm_lim hs; omega) (left := left - xs.length) (by omega) (by omega)
    simp only [Int.natCast_zero] at hL
    rcases hL with hL | ⟨r, h2, h3, h4, hL⟩
    · rw [hL]; simp
    · rw [hL]; simp only [Option.bind_some, Sum.elim_inl]; exact ⟨r, rfl, .inr ⟨h2, by omega, hs, h4⟩⟩

theorem vszGraph_ok {g : Gr} {left : Int} (hx : mlG g) (h0 : 0 ≤ left) (h1 : left ≤ 1048576) :
    ∃ r, FvszGraph N (g, left, ()) = some (r, ()) ∧ (r < 0 ∨ (0 ≤ r ∧ r ≤ left ∧ smG g)) := by
  obtain ⟨a1, a2, a3, a4, a5⟩ := hx
  obtain ⟨r1, e1, h2⟩ := vszNodeS_ok hN a1 a2 h0 h1
  simp only [FvszGraph, e1, Option.bind_some]
  rcases h2 with h2 | ⟨h2, h3, h4, h4'⟩
  · simp [h2]
  · obtain ⟨r2, e2, h5⟩ := vszIntSS_ok hN a3 a4 h2 (by omega)
    simp only [e2, Option.bind_some, Int.not_lt.2 h2, decide_false, cond_false]
    rcases h5 with h5 | ⟨h5, h6, h7, h7'⟩
    · simp [h5]
    · obtain ⟨r3, e3, h8⟩ := vszIntS_ok (N := N) a5 h5 (by omega)
      simp only [e3, Option.bind_some, Int.not_lt.2 h5, decide_false, cond_false]
      rcases h8 with h8 | ⟨h8, h9, h10⟩
      · simp [h8]
      · simp only [Int.not_lt.2 h8, decide_false, cond_false]
        exact ⟨r3, rfl, .inr ⟨h8, by omega, h4, h4', h7, h7', h10⟩⟩

end

section
variable {N : Nat} (hN : lim < N)
include hN

theorem vtoIntS_ok {xs : List Int} (hx : sm xs.length) : FvtoIntS N (xs, ()) = some (xs, ()) := by
  have hl := sm_lim hx
  have hL := fill_loop (xs := xs) (n := N) id (L := fun n i s => lvtoIntS_0 N n (xs, (i : Int), s, ())) (fin := fun s => (s, ())) hl
    (fun n i s h hw hs => by
      have hs' : i < s.length := by omega
      simp [lvtoIntS_0, h, hs', hw])
    (fun n s hs => by simp [lvtoIntS_0]) (by omega) (s := List.replicate xs.length 0) (by simp)
  simp only [Int.natCast_zero] at hL
  simp [FvtoIntS, hL, hl]

end

section
variable {N : Nat} (hN : lim < N)
include hN

theorem vtoNode_ok {x : Nd} (hx : smN x) : FvtoNode N (x, ()) = some x := by
  simp [FvtoNode, vtoIntS_ok hN hx.1, vtoIntS_ok hN hx.2]

theorem vtoNodeS_ok {xs : List Nd} (hx : sm xs.length) (hx' : ∀ x ∈ xs, smN x) : FvtoNodeS N (xs, ()) = some (xs, ()) := by
  have hl := sm_lim hx
  have hL := fill_loop (xs := xs) (n := N) id (L := fun n i s => lvtoNodeS_0 N n (xs, (i : Int), s, ())) (fin := fun s => (s, ())) hl
    (fun n i s h hw hs => by
      have hs' : i < s.length := by omega
      simp [lvtoNodeS_0, h, hs', hw, vtoNode_ok hN (hx' xs[i] (by simp))])
    (fun n s hs => by simp [lvtoNodeS_0]) (by omega) (s := List.replicate xs.length ([], [], ())) (by simp)
  simp only [Int.natCast_zero] at hL
  simp [FvtoNodeS, hL, hl]

theorem vtoIntSS_ok {xs : List (List Int)} (hx : sm xs.length) (hx' : ∀ x ∈ xs, sm x.length) : FvtoIntSS N (xs, ()) = some (xs, ()) := by
  have hl := sm_lim hx
  have hL := fill_loop (xs := xs) (n := N) id (L := fun n i s => lvtoIntSS_0 N n (xs, (i : Int), s, ())) (fin := fun s => (s, ())) hl
    (fun n i s h hw hs => by
      have hs' : i < s.length := by omega
      simp [lvtoIntSS_0, h, hs', hw, vtoIntS_ok hN (hx' xs[i] (by simp))])
    (fun n s hs => by simp [lvtoIntSS_0]) (by omega) (s := List.replicate xs.length []) (by simp)
  simp only [Int.natCast_zero] at hL
  simp [FvtoIntSS, hL, hl]

theorem vtoGraph_ok {g : Gr} (hx : smG g) : FvtoGraph N (g, ()) = some g := by
  obtain ⟨a1, a2, a3, a4, a5⟩ := hx
  simp [FvtoGraph, vtoNodeS_ok hN a1 a2, vtoIntSS_ok hN a3 a4, vtoIntS_ok hN a5]

end

section
variable {N : Nat} (hN : lim < N)
include hN

theorem veqIntS_ok {xs ys : List Int} (hx : sm xs.length) : FveqIntS N (xs, ys, ()) = some (decide (xs = ys), ()) := by
  have hl := sm_lim hx
  by_cases hlen : xs.length = ys.length
  · have hL := eq_loop (xs := xs) (ys := ys) (n := N) (L := fun n i => lveqIntS_0 N n (xs, ys, (i : Int), ())) (yes := .inl ()) (no := .inr (false, ())) hl hlen
      (fun n i h1 h2 hw hq => by simp [lveqIntS_0, h1, h2, hw, hq])
      (fun n i h1 h2 hq => by simp [lveqIntS_0, h1, h2, hq])
      (fun n => by simp [lveqIntS_0, hlen]) (by omega)
    simp only [Int.natCast_zero] at hL
    rcases Decidable.em (xs = ys) with rfl | h
    · simp [FveqIntS, hL]
    · simp [FveqIntS, hL, h, hlen]
  · have h : xs ≠ ys := fun h => hlen (by rw [h])
    have h2 : (xs.length : Int) ≠ ys.length := by omega
    simp [FveqIntS, h, h2]

end

section
variable {N : Nat} (hN : lim < N)
include hN

theorem veqNode_ok {x y : Nd} (hx : smN x) : FveqNode N (x, y, ()) = some (decide (x = y), ()) := by
  obtain ⟨a, b, ⟨⟩⟩ := x
  obtain ⟨c, d, ⟨⟩⟩ := y
  simp only [FveqNode, veqIntS_ok hN hx.1, veqIntS_ok hN hx.2]
  by_cases h1 : a = c <;> by_cases h2 : b = d <;> simp [h1, h2]

theorem veqNodeS_ok {xs ys : List Nd} (hx : sm xs.length) (hx' : ∀ x ∈ xs, smN x) : FveqNodeS N (xs, ys, ()) = some (decide (xs = ys), ()) := by
  have hl := sm_lim hx
  by_cases hlen : xs.length = ys.length
  · have hL := eq_loop (xs := xs) (ys := ys) (n := N) (L := fun n i => lveqNodeS_0 N n (xs, ys, (i : Int), ())) (yes := .inl ()) (no := .inr (false, ())) hl hlen
      (fun n i h1 h2 hw hq => by
        have e := veqNode_ok hN (y := ys[i]) (hx' _ (List.getElem_mem h1))
        rw [decide_eq_true hq] at e
        simp [lveqNodeS_0, h1, h2, hw, e])
      (fun n i h1 h2 hq => by simp [lveqNodeS_0, h1, h2, hq, veqNode_ok hN (y := ys[i]) (hx' _ (List.getElem_mem h1))])
      (fun n => by simp [lveqNodeS_0, hlen]) (by omega)
    simp only [Int.natCast_zero] at hL
    rcases Decidable.em (xs = ys) with rfl | h
    · simp [FveqNodeS, hL]
    · simp [FveqNodeS, hL, h, hlen]
  · have h : xs ≠ ys := fun h => hlen (by rw [h])
    have h2 : (xs.length : Int) ≠ ys.length := by omega
    simp [FveqNodeS, h, h2]

theorem veqIntSS_ok {xs ys : List (List Int)} (hx : sm xs.length) (hx' : ∀ x ∈ xs, sm x.length) : FveqIntSS N (xs, ys, ()) = some (decide (xs = ys), ()) := by
  have hl := sm_lim hx
  by_cases hlen : xs.length = ys.length
  · have hL := eq_loop (xs := xs) (ys := ys) (n := N) (L := fun n i => lveqIntSS_0 N n (xs, ys, (i : Int), ())) (yes := .inl ()) (no := .inr (false, ())) hl hlen
      (fun n i h1 h2 hw hq => by
        have e := veqIntS_ok hN (ys := ys[i]) (hx' _ (List.getElem_mem h1))
        rw [decide_eq_true hq] at e
        simp [lveqIntSS_0, h1, h2, hw, e])
      (fun n i h1 h2 hq => by simp [lveqIntSS_0, h1, h2, hq, veqIntS_ok hN (ys := ys[i]) (hx' _ (List.getElem_mem h1))])
      (fun n => by simp [lveqIntSS_0, hlen]) (by omega)
    simp only [Int.natCast_zero] at hL
    rcases Decidable.em (xs = ys) with rfl | h
    · simp [FveqIntSS, hL]
    · simp [FveqIntSS, hL, h, hlen]
  · have h : xs ≠ ys := fun h => hlen (by rw [h])
    have h2 : (xs.length : Int) ≠ ys.length := by omega
    simp [FveqIntSS, h, h2]

theorem veqGraph_ok {g h : Gr} (hx : smG g) : FveqGraph N (g, h, ()) = some (decide (g = h), ()) := by
  obtain ⟨a1, a2, a3, a4, a5⟩ := hx
  obtain ⟨p, q, r, ⟨⟩⟩ := g
  obtain ⟨p', q', r', ⟨⟩⟩ := h
  simp only at a1 a2 a3 a4 a5
  simp only [FveqGraph, veqNodeS_ok hN a1 a2, veqIntSS_ok hN a3 a4, veqIntS_ok hN a5]
  by_cases h1 : p = p' <;> by_cases h2 : q = q' <;> by_cases h3 : r = r' <;> simp [h1, h2, h3]

end

def okR (m : Nat) (l : List Int) : Bool := l.all fun x => decide (-1 ≤ x) && decide (x < (m : Int))

def okN (m : Nat) (x : Nd) : Bool := decide (x.1.length ≤ 4) && (decide (x.2.1.length ≤ 4) && okR m x.1)

def okG (g : Gr) : Bool :=
  decide (g.1.length ≤ 200) && (decide (1 ≤ g.2.1.length) && (decide (g.2.1.length ≤ 3) && (g.1.all (okN g.1.length) && (g.2.1.all (fun r => decide (r.length ≤ 8) && okR g.1.length r) &&
    (decide (g.2.2.1.length ≤ 8) && (g.2.2.1.all (fun x => decide (0 ≤ x)) && okR g.1.length g.2.2.1))))))

theorem okG_iff {g : Gr} : okG g = true ↔ g.1.length ≤ 200 ∧ 1 ≤ g.2.1.length ∧ g.2.1.length ≤ 3 ∧ (∀ x ∈ g.1, x.1.length ≤ 4 ∧ x.2.1.length ≤ 4 ∧ okR g.1.length x.1 = true) ∧
    (∀ r ∈ g.2.1, r.length ≤ 8 ∧ okR g.1.length r = true) ∧ g.2.2.1.length ≤ 8 ∧ (∀ x ∈ g.2.2.1, 0 ≤ x) ∧ okR g.1.length g.2.2.1 = true := by
  simp only [okG, okN, Bool.and_eq_true, decide_eq_true_eq, List.all_eq_true]

theorem okR_iff {m : Nat} {l : List Int} : okR m l = true ↔ ∀ x ∈ l, -1 ≤ x ∧ x < (m : Int) := by
  simp only [okR, List.all_eq_true, Bool.and_eq_true, decide_eq_true_eq]


abbrev Mst := List Int × List Bool

/-- A reference is met. -/
def meet (st : Mst) (r : Int) : Mst := if 0 ≤ r ∧ st.2.getD r.toNat false = false then (st.1 ++ [r], st.2.set r.toNat true) else st

structure Met (m : Nat) (st : Mst) : Prop where
  len : st.2.length = m
  cnt : st.1.length + st.2.count false = m
  rng : ∀ r ∈ st.1, 0 ≤ r ∧ r < (m : Int)
  had : ∀ r : Int, 0 ≤ r → (st.2.getD r.toNat false = true ↔ r ∈ st.1)
  nd : st.1.Nodup

theorem count_set_true : ∀ {l : List Bool} {i : Nat}, i < l.length → l.getD i false = false → (l.set i true).count false + 1 = l.count false
  | [], _, h, _ => by simp at h
  | b :: l, 0, _, h => by simp at h; subst h; simp
  | b :: l, i + 1, h, h2 => by
    have ih := count_set_true (l := l) (i := i) (by simpa using h) (by simpa using h2)
    simp only [List.set_cons_succ, List.count_cons]
    omega

theorem Met.le {m : Nat} {st : Mst} (h : Met m st) : st.1.length ≤ m := by have := h.cnt; omega

theorem Met.meet {m : Nat} {st : Mst} (h : Met m st) {r : Int} (hr : r < (m : Int)) : Met m (meet st r) := by
  unfold Fl.meet
  split
  · rename_i hc
    have hl : r.toNat < st.2.length := by rw [h.len]; omega
    have hn : ¬ r ∈ st.1 := fun hm => by
      have := (h.had r hc.1).2 hm
      rw [hc.2] at this
      cases this
    refine ⟨by simp [h.len], ?_, ?_, ?_, ?_⟩
    · have := count_set_true hl hc.2
      have := h.cnt
      simp only [List.length_append, List.length_singleton]
      omega
    · intro x hx
      simp only [List.mem_append, List.mem_singleton] at hx
      rcases hx with hx | rfl
      · exact h.rng x hx
      · exact ⟨hc.1, hr⟩
    · intro x hx
      simp only [List.mem_append, List.mem_singleton]
      rw [← h.had x hx]
      simp only [List.getD_eq_getElem?_getD, List.getElem?_set]
      by_cases e : r.toNat = x.toNat
      · have : x = r := by omega
        subst this
        simp [hl]
      · have : ¬ x = r := fun e' => e (by rw [e'])
        simp [e, this]
    · rw [List.nodup_append]
      refine ⟨h.nd, by simp, ?_⟩
      intro a ha b hb e
      simp at hb
      subst hb
      subst e
      exact hn ha
  · exact h

theorem Met.meets {m : Nat} {l : List Int} : ∀ {st : Mst}, Met m st → (∀ r ∈ l, r < (m : Int)) → Met m (l.foldl Fl.meet st) := by
  induction l with
  | nil => intro st h _; exact h
  | cons r l ih => intro st h hl; exact ih (h.meet (hl r (by simp))) fun x hx => hl x (by simp [hx])

/-- Met is only more and more. -/
theorem meet_pre (st : Mst) (r : Int) : st.1 <+: (meet st r).1 := by
  unfold meet
  split
  · exact List.prefix_append _ _
  · exact List.prefix_refl _

theorem meets_pre {l : List Int} : ∀ {st : Mst}, st.1 <+: (l.foldl meet st).1 := by
  induction l with
  | nil => intro st; exact List.prefix_refl _
  | cons r l ih => intro st; exact (meet_pre st r).trans ih

theorem meet_mem {m : Nat} {st : Mst} (h : Met m st) {r : Int} (h0 : 0 ≤ r) : r ∈ (meet st r).1 := by
  unfold meet
  split
  · simp
  · rename_i hc
    exact (h.had r h0).1 (by
      cases hb : st.2.getD r.toNat false with
      | true => rfl
      | false => exact absurd ⟨h0, hb⟩ hc)

theorem meets_mem {m : Nat} {l : List Int} : ∀ {st : Mst}, Met m st → (∀ r ∈ l, r < (m : Int)) → ∀ r ∈ l, 0 ≤ r → r ∈ (l.foldl meet st).1 := by
  induction l with
  | nil => intro st _ _ r hr; simp at hr
  | cons x l ih =>
    intro st h hl r hr h0
    have h1 := h.meet (hl x (by simp))
    simp only [List.mem_cons] at hr
    rcases hr with rfl | hr
    · exact (meets_pre (l := l)).subset (meet_mem h h0)
    · exact ih h1 (fun y hy => hl y (by simp [hy])) r hr h0

theorem meet_sub {st : Mst} {r x : Int} (hx : x ∈ (meet st r).1) : x ∈ st.1 ∨ (x = r ∧ 0 ≤ r) := by
  unfold meet at hx
  split at hx
  · rename_i hc
    simp only [List.mem_append, List.mem_singleton] at hx
    rcases hx with hx | hx
    · exact .inl hx
    · exact .inr ⟨hx, hc.1⟩
  · exact .inl hx

theorem meets_sub {l : List Int} : ∀ {st : Mst} {x : Int}, x ∈ (l.foldl meet st).1 → x ∈ st.1 ∨ (x ∈ l ∧ 0 ≤ x) := by
  induction l with
  | nil => intro st x hx; exact .inl hx
  | cons r l ih =>
    intro st x hx
    rcases ih hx with h | ⟨h, h0⟩
    · rcases meet_sub h with h | ⟨rfl, h0⟩
      · exact .inl h
      · exact .inr ⟨by simp, h0⟩
    · exact .inr ⟨by simp [h], h0⟩

/-- What a node leads to. -/
def refsOf (g : Gr) (r : Int) : List Int := (g.1.getD r.toNat ([], [], ())).1

/-- The met are gone through. -/
def walk (R : Int → List Int) : Nat → Nat → Mst → Mst
  | 0, _, st => st
  | n + 1, i, st => if i < st.1.length then walk R n (i + 1) ((R (st.1.getD i 0)).foldl meet st) else st

def met0 (m : Nat) : Mst := ([], List.replicate m false)

theorem met0_ok (m : Nat) : Met m (met0 m) := by
  refine ⟨by simp [met0], by simp [met0], by simp [met0], ?_, by simp [met0]⟩
  intro r _
  simp only [met0, List.getD_eq_getElem?_getD, List.getElem?_replicate]
  split <;> simp

theorem walk_met {m : Nat} {R : Int → List Int} (hR : ∀ r, 0 ≤ r → r < (m : Int) → ∀ x ∈ R r, x < (m : Int)) : ∀ (n i : Nat) {st : Mst}, Met m st → Met m (walk R n i st)
  | 0, _, _, h => h
  | n + 1, i, st, h => by
    unfold walk
    split
    · rename_i hi
      refine walk_met hR n (i + 1) (h.meets ?_)
      rw [getD_lt hi]
      exact hR _ (h.rng _ (List.getElem_mem hi)).1 (h.rng _ (List.getElem_mem hi)).2
    · exact h

theorem walk_pre {R : Int → List Int} : ∀ (n i : Nat) {st : Mst}, st.1 <+: (walk R n i st).1
  | 0, _, st => List.prefix_refl _
  | n + 1, i, st => by
    unfold walk
    split
    · exact (meets_pre (l := R (st.1.getD i 0))).trans (walk_pre n (i + 1))
    · exact List.prefix_refl _

/-- What is behind the places that were gone through, was met. -/
theorem walk_closed {m : Nat} {R : Int → List Int} (hR : ∀ r, 0 ≤ r → r < (m : Int) → ∀ x ∈ R r, x < (m : Int)) : ∀ (n i : Nat) {st : Mst}, Met m st → m - i < n →
    (∀ j (hj : j < st.1.length), j < i → ∀ x ∈ R st.1[j], 0 ≤ x → x ∈ st.1) → ∀ r ∈ (walk R n i st).1, ∀ x ∈ R r, 0 ≤ x → x ∈ (walk R n i st).1
  | 0, _, _, _, h, _ => absurd h (Nat.not_lt_zero _)
  | n + 1, i, st, h, hn, hc => by
    unfold walk
    split
    · rename_i hi
      have hb : ∀ x ∈ R (st.1.getD i 0), x < (m : Int) := by
        rw [getD_lt hi]
        exact hR _ (h.rng _ (List.getElem_mem hi)).1 (h.rng _ (List.getElem_mem hi)).2
      have hle := h.le
      refine walk_closed hR n (i + 1) (h.meets hb) (by omega) ?_
      intro j hj hji x hx h0
      have hp := meets_pre (l := R (st.1.getD i 0)) (st := st)
      rcases Nat.lt_or_ge j i with hlt | hge
      · have hj' : j < st.1.length := by omega
        have e : ((R (st.1.getD i 0)).foldl meet st).1[j] = st.1[j] := (hp.getElem hj').symm
        rw [e] at hx
        exact hp.subset (hc j hj' hlt x hx h0)
      · have : j = i := by omega
        subst this
        have e : ((R (st.1.getD j 0)).foldl meet st).1[j] = st.1[j] := (hp.getElem hi).symm
        rw [e] at hx
        exact meets_mem h hb x (by rw [getD_lt hi]; exact hx) h0
    · rename_i hi
      intro r hr x hx h0
      obtain ⟨j, hj, rfl⟩ := List.getElem_of_mem hr
      exact hc j hj (by omega) x hx h0

/-- Whatever holds of the first ones and is handed on, holds of all. -/
theorem walk_ind {R : Int → List Int} {P : Int → Prop} (hP : ∀ r, P r → ∀ x ∈ R r, 0 ≤ x → P x) : ∀ (n i : Nat) {st : Mst}, (∀ r ∈ st.1, P r) → ∀ r ∈ (walk R n i st).1, P r
  | 0, _, _, h => h
  | n + 1, i, st, h => by
    unfold walk
    split
    · rename_i hi
      refine walk_ind hP n (i + 1) fun r hr => ?_
      rcases meets_sub hr with h1 | ⟨h1, h0⟩
      · exact h r h1
      · rw [getD_lt hi] at h1
        exact hP _ (h _ (List.getElem_mem hi)) r h1 h0
    · exact h

def begin0 (g : Gr) : Mst := g.2.2.1.foldl meet (g.2.1.foldl (fun s l => l.foldl meet s) (met0 g.1.length))

/-- The nodes that are reached, as they are met. -/
def order (g : Gr) : List Int := (walk (refsOf g) (g.1.length + 1) 0 (begin0 g)).1

theorem refs_rng {g : Gr} (h : okG g = true) (r : Int) : ∀ x ∈ refsOf g r, x < (g.1.length : Int) := by
  obtain ⟨_, _, _, h4, _⟩ := okG_iff.1 h
  intro x hx
  unfold refsOf at hx
  by_cases hr : r.toNat < g.1.length
  · rw [getD_lt hr] at hx
    exact (okR_iff.1 (h4 _ (List.getElem_mem hr)).2.2 x hx).2
  · rw [List.getD_eq_getElem?_getD, List.getElem?_eq_none (by omega)] at hx
    simp at hx

theorem roots_met {m : Nat} {ls : List (List Int)} : ∀ {st : Mst}, Met m st → (∀ l ∈ ls, ∀ x ∈ l, x < (m : Int)) → Met m (ls.foldl (fun s l => l.foldl meet s) st) := by
  induction ls with
  | nil => intro st h _; exact h
  | cons l ls ih => intro st h hl; exact ih (h.meets (hl l (by simp))) fun x hx => hl x (by simp [hx])

theorem roots_pre {ls : List (List Int)} : ∀ {st : Mst}, st.1 <+: (ls.foldl (fun s l => l.foldl meet s) st).1 := by
  induction ls with
  | nil => intro st; exact List.prefix_refl _
  | cons r l ih => intro st; exact meets_pre.trans ih

theorem roots_mem {m : Nat} {ls : List (List Int)} : ∀ {st : Mst}, Met m st → (∀ l ∈ ls, ∀ x ∈ l, x < (m : Int)) → ∀ l ∈ ls, ∀ r ∈ l, 0 ≤ r → r ∈ (ls.foldl (fun s l => l.foldl meet s) st).1 := by
  induction ls with
  | nil => intro st _ _ r hr; simp at hr
  | cons x ls ih =>
    intro st h hl l hm r hr h0
    have h1 := h.meets (hl x (by simp))
    simp only [List.mem_cons] at hm
    rcases hm with rfl | hm
    · exact (roots_pre (ls := ls)).subset (meets_mem h (hl l (by simp)) r hr h0)
    · exact ih h1 (fun y hy => hl y (by simp [hy])) l hm r hr h0

theorem roots_sub {ls : List (List Int)} : ∀ {st : Mst} {x : Int}, x ∈ (ls.foldl (fun s l => l.foldl meet s) st).1 → x ∈ st.1 ∨ ∃ l ∈ ls, x ∈ l ∧ 0 ≤ x := by
  induction ls with
  | nil => intro st x hx; exact .inl hx
  | cons r l ih =>
    intro st x hx
    rcases ih hx with h | ⟨l', h, h0⟩
    · rcases meets_sub h with h | h
      · exact .inl h
      · exact .inr ⟨r, by simp, h⟩
    · exact .inr ⟨l', by simp [h], h0⟩

theorem rootsrng {g : Gr} (h : okG g = true) : ∀ l ∈ g.2.1, ∀ x ∈ l, x < (g.1.length : Int) := fun l hl x hx => by
  obtain ⟨_, _, _, _, h5, _⟩ := okG_iff.1 h
  exact (okR_iff.1 (h5 l hl).2 x hx).2

theorem pinsrng {g : Gr} (h : okG g = true) : ∀ x ∈ g.2.2.1, x < (g.1.length : Int) := fun x hx => by
  obtain ⟨_, _, _, _, _, _, _, h8⟩ := okG_iff.1 h
  exact (okR_iff.1 h8 x hx).2

theorem begin0_ok {g : Gr} (h : okG g = true) : Met g.1.length (begin0 g) :=
  (roots_met (met0_ok _) (rootsrng h)).meets (pinsrng h)

theorem order_met {g : Gr} (h : okG g = true) : Met g.1.length (walk (refsOf g) (g.1.length + 1) 0 (begin0 g)) :=
  walk_met (fun r _ _ => refs_rng h r) _ _ (begin0_ok h)

theorem order_rng {g : Gr} (h : okG g = true) : ∀ r ∈ order g, 0 ≤ r ∧ r < (g.1.length : Int) := (order_met h).rng

theorem order_nodup {g : Gr} (h : okG g = true) : (order g).Nodup := (order_met h).nd

theorem order_le {g : Gr} (h : okG g = true) : (order g).length ≤ g.1.length := (order_met h).le

theorem order_closed {g : Gr} (h : okG g = true) : ∀ r ∈ order g, ∀ x ∈ refsOf g r, 0 ≤ x → x ∈ order g :=
  walk_closed (fun r _ _ => refs_rng h r) _ _ (begin0_ok h) (by omega) fun j _ hj => absurd hj (Nat.not_lt_zero _)

theorem order_roots {g : Gr} (h : okG g = true) : ∀ l ∈ g.2.1, ∀ x ∈ l, 0 ≤ x → x ∈ order g := fun l hl x hx h0 =>
  (walk_pre _ _).subset (meets_pre.subset (roots_mem (met0_ok _) (rootsrng h) l hl x hx h0))

theorem order_pins {g : Gr} (h : okG g = true) : ∀ x ∈ g.2.2.1, x ∈ order g := fun x hx => by
  obtain ⟨_, _, _, _, _, _, h7, _⟩ := okG_iff.1 h
  exact (walk_pre _ _).subset (meets_mem (roots_met (met0_ok _) (rootsrng h)) (pinsrng h) x hx (h7 x hx))

/-- The reached are the least that holds what is begun with and is closed. -/
theorem order_ind {g : Gr} {P : Int → Prop} (hr : ∀ l ∈ g.2.1, ∀ x ∈ l, 0 ≤ x → P x) (hp : ∀ x ∈ g.2.2.1, 0 ≤ x → P x) (hP : ∀ r, P r → ∀ x ∈ refsOf g r, 0 ≤ x → P x) : ∀ r ∈ order g, P r :=
  walk_ind hP _ _ fun r h => by
    rcases meets_sub h with h | ⟨h, h0⟩
    · rcases roots_sub h with h | ⟨l, hl, h, h0⟩
      · simp [met0] at h
      · exact hr l hl r h h0
    · exact hp r h h0


section
variable {N : Nat} (hN : lim < N)
include hN

theorem okG_small {g : Gr} (h : okG g = true) : smG g := by
  obtain ⟨h1, h2, h3, h4, h5, h6, h7, h8⟩ := okG_iff.1 h
  simp only [smG, smN, sm]
  refine ⟨by omega, fun x hx => ?_, by omega, fun x hx => ?_, by omega⟩
  · have := h4 x hx; omega
  · have := h5 x hx; omega

/-- One list of references, by the places. -/
theorem meets_loop {m : Nat} {xs : List Int} (hx : ∀ x ∈ xs, x < (m : Int)) (hm : m ≤ 200) (hl : xs.length ≤ lim) {ρ : Type} {L : Nat → Nat → Mst → Option ρ} {fin : Mst → ρ}
    (h1 : ∀ n i st (h : i < xs.length), w64 ((i : Int) + 1) = ((i + 1 : Nat) : Int) → Met m st → (0 ≤ xs[i] → xs[i].toNat < st.2.length) → st.1.length + 1 ≤ lim → L (n + 1) i st = L n (i + 1) (meet st xs[i]))
    (h3 : ∀ n st, Met m st → L (n + 1) xs.length st = some (fin st)) {st : Mst} (hst : Met m st) : L N 0 st = some (fin (xs.foldl meet st)) :=
  (fold_loop (xs := xs) (n := N) meet (fun _ st => Met m st) (L := L) (fin := fin) hl
    (fun n i st h hw hI => by
      have hr := hx _ (List.getElem_mem h)
      refine ⟨h1 n i st h hw hI (fun h0 => by have := hI.len; omega) ?_, hI.meet hr⟩
      have := hI.le; rw [lim_eq]; omega)
    (fun n st hI => h3 n st hI) (by omega) hst).1

theorem roots_loop {m : Nat} {ls : List (List Int)} (hx : ∀ l ∈ ls, ∀ x ∈ l, x < (m : Int)) (hl : ls.length ≤ lim) {ρ : Type} {L : Nat → Nat → Mst → Option ρ} {fin : Mst → ρ}
    (h1 : ∀ n i st (h : i < ls.length), w64 ((i : Int) + 1) = ((i + 1 : Nat) : Int) → Met m st → L (n + 1) i st = L n (i + 1) (ls[i].foldl meet st))
    (h3 : ∀ n st, Met m st → L (n + 1) ls.length st = some (fin st)) {st : Mst} (hst : Met m st) : L N 0 st = some (fin (ls.foldl (fun s l => l.foldl meet s) st)) :=
  (fold_loop (xs := ls) (n := N) (fun s l => l.foldl meet s) (fun _ st => Met m st) (L := L) (fin := fin) hl
    (fun n i st h hw hI => ⟨h1 n i st h hw hI, hI.meets (hx _ (List.getElem_mem h))⟩)
    (fun n st hI => h3 n st hI) (by omega) hst).1

theorem walk_loop {m : Nat} {R : Int → List Int} (hR : ∀ r, 0 ≤ r → r < (m : Int) → ∀ x ∈ R r, x < (m : Int)) (hm : m ≤ 200) {ρ : Type} {L : Nat → Nat → Mst → Option ρ} {fin : Mst → ρ}
    (h1 : ∀ n (i : Nat) st (h : i < st.1.length), w64 ((i : Int) + 1) = ((i + 1 : Nat) : Int) → Met m st → L (n + 1) i st = L n (i + 1) ((R st.1[i]).foldl meet st))
    (h3 : ∀ n i st, ¬ i < st.1.length → Met m st → L (n + 1) i st = some (fin st)) {st : Mst} (hst : Met m st) : L N 0 st = some (fin (walk R (m + 1) 0 st)) := by
  have key : ∀ n i st, Met m st → i ≤ st.1.length → m - i < n → L n i st = some (fin (walk R (m + 1 - i) i st)) := by
    intro n
    induction n with
    | zero => intro i st _ _ h; exact absurd h (Nat.not_lt_zero _)
    | succ n ih =>
      intro i st hI hi hn
      have hle := hI.le
      by_cases h : i < st.1.length
      · have e : m + 1 - i = (m + 1 - (i + 1)) + 1 := by omega
        rw [h1 n i st h (w64_succ (by omega)) hI, e]
        have hb := hI.meets (hR _ (hI.rng _ (List.getElem_mem h)).1 (hI.rng _ (List.getElem_mem h)).2)
        have hp := (meets_pre (l := R st.1[i]) (st := st)).length_le
        rw [ih (i + 1) _ hb (by omega) (by omega)]
        simp only [walk, h, if_true, getD_lt h]
      · rw [h3 n i st h hI]
        cases hk : m + 1 - i with
        | zero => rfl
        | succ k => simp only [walk, h, if_false]
  have := key N 0 st hst (by omega) (by rw [lim_eq] at hN; omega)
  simpa using this

end

/-- What a list of references leads to, not through one node. -/
inductive Rch (R : Int → List Int) (skip : Int) (l : List Int) : Int → Prop
  | root {r : Int} : r ∈ l → 0 ≤ r → r ≠ skip → Rch R skip l r
  | step {a r : Int} : Rch R skip l a → r ∈ R a → 0 ≤ r → r ≠ skip → Rch R skip l r

theorem Rch.mono {R : Int → List Int} {skip : Int} {l l' : List Int} (h : ∀ x ∈ l, x ∈ l') {k : Int} (hk : Rch R skip l k) : Rch R skip l' k := by
  induction hk with
  | root h1 h2 h3 => exact .root (h _ h1) h2 h3
  | step _ h1 h2 h3 ih => exact .step ih h1 h2 h3

theorem Rch.trans {R : Int → List Int} {skip : Int} {l : List Int} {r k : Int} (hr : Rch R skip l r) (hk : Rch R skip (R r) k) : Rch R skip l k := by
  induction hk with
  | root h1 h2 h3 => exact .step hr h1 h2 h3
  | step _ h1 h2 h3 ih => exact .step ih h1 h2 h3

abbrev Sn := List (Int × Bool)
abbrev keys (s : Sn) : List Int := s.map Prod.fst

structure Seen (m : Nat) (s : Sn) : Prop where
  nd : (keys s).Nodup
  tr : ∀ p ∈ s, p.2 = true
  rng : ∀ k ∈ keys s, 0 ≤ k ∧ k < (m : Int)

theorem pigeon : ∀ {m : Nat} {l : List Int}, l.Nodup → (∀ k ∈ l, 0 ≤ k ∧ k < (m : Int)) → l.length ≤ m
  | 0, [], _, _ => Nat.le_refl _
  | 0, x :: l, _, h => by have := h x (by simp); omega
  | m + 1, l, hn, h => by
    by_cases hm : (m : Int) ∈ l
    · have h1 := pigeon (m := m) (l := l.erase (m : Int)) (hn.erase _) (fun k hk => by
        have h2 := (hn.mem_erase_iff).1 hk
        have := h k h2.2
        have := h2.1
        omega)
      rw [List.length_erase_of_mem hm] at h1
      omega
    · have h1 := pigeon (m := m) hn (fun k hk => by
        have := h k hk
        have : k ≠ m := fun e => hm (e ▸ hk)
        omega)
      omega

theorem Seen.le {m : Nat} {s : Sn} (h : Seen m s) : s.length ≤ m := by
  have := pigeon h.nd h.rng
  simpa using this

theorem mget_keys : ∀ {s : Sn} {k : Int}, (∀ p ∈ s, p.2 = true) → ((mget s k).getD false = true ↔ k ∈ keys s)
  | [], k, _ => by simp [mget]
  | (q, b) :: s, k, h => by
    have hb : b = true := h (q, b) (by simp)
    subst hb
    have ih := mget_keys (s := s) (k := k) (fun p hp => h p (by simp [hp]))
    by_cases e : k = q
    · simp [mget, e]
    · simp only [mget, e, decide_false, cond_false, ih]
      simp [e]

theorem mset_fresh : ∀ {s : Sn} {k : Int} {b : Bool}, k ∉ keys s → mset s k b = s ++ [(k, b)]
  | [], _, _, _ => rfl
  | (q, c) :: s, k, b, h => by
    have h1 : k ≠ q := fun e => h (by simp [e])
    have h2 : k ∉ keys s := fun e => h (by simp only [keys, List.map_cons, List.mem_cons]; exact .inr e)
    simp only [mset, h1, decide_false, cond_false, mset_fresh h2, List.cons_append]

theorem Seen.add {m : Nat} {s : Sn} (h : Seen m s) {k : Int} (h0 : 0 ≤ k) (h1 : k < (m : Int)) (h2 : k ∉ keys s) : Seen m (s ++ [(k, true)]) := by
  refine ⟨?_, ?_, ?_⟩
  · simp only [keys, List.map_append, List.map_cons, List.map_nil]
    rw [List.nodup_append]
    refine ⟨h.nd, by simp, ?_⟩
    intro a ha b hb e
    simp only [List.mem_singleton] at hb
    subst hb; subst e
    exact h2 ha
  · intro p hp
    simp only [List.mem_append, List.mem_singleton] at hp
    rcases hp with hp | rfl
    · exact h.tr p hp
    · rfl
  · intro p hp
    simp only [keys, List.map_append, List.mem_append, List.map_cons, List.map_nil, List.mem_singleton] at hp
    rcases hp with hp | rfl
    · exact h.rng p hp
    · exact ⟨h0, h1⟩

/-- From one seen to the next. -/
structure Dfs (g : Gr) (skip : Int) (l : List Int) (s s' : Sn) : Prop where
  ok : Seen g.1.length s'
  le : s.length ≤ s'.length
  sub : ∀ k ∈ keys s, k ∈ keys s'
  new : ∀ k ∈ keys s', k ∈ keys s ∨ Rch (refsOf g) skip l k
  roots : ∀ r ∈ l, 0 ≤ r → r ≠ skip → r ∈ keys s'
  closed : ∀ k ∈ keys s', k ∉ keys s → ∀ r ∈ refsOf g k, 0 ≤ r → r ≠ skip → r ∈ keys s'

theorem Dfs.nil {g : Gr} {skip : Int} {s : Sn} (h : Seen g.1.length s) : Dfs g skip [] s s :=
  ⟨h, Nat.le_refl _, fun _ h => h, fun _ h => .inl h, fun _ h => by simp at h, fun _ h h' => absurd h h'⟩

theorem Dfs.skip {g : Gr} {skip r : Int} {l : List Int} {s s' : Sn} (h : Dfs g skip l s s') (hr : 0 ≤ r → r ≠ skip → r ∈ keys s') : Dfs g skip (l ++ [r]) s s' :=
  ⟨h.ok, h.le, h.sub, fun k hk => (h.new k hk).imp_right (Rch.mono fun x hx => by simp [hx]), fun x hx h0 h1 => by
    simp only [List.mem_append, List.mem_singleton] at hx
    rcases hx with hx | rfl
    · exact h.roots x hx h0 h1
    · exact hr h0 h1, h.closed⟩

theorem keys_push {s : Sn} {r k : Int} : k ∈ keys (s ++ [(r, true)]) ↔ k ∈ keys s ∨ k = r := by
  simp only [keys, List.map_append, List.mem_append, List.map_cons, List.map_nil, List.mem_singleton]

theorem Dfs.go {g : Gr} {skip r : Int} {l : List Int} {s s1 s2 : Sn} (h : Dfs g skip l s s1) (h0 : 0 ≤ r) (hs : r ≠ skip) (hn : r ∉ keys s1)
    (h2 : Dfs g skip (refsOf g r) (s1 ++ [(r, true)]) s2) : Dfs g skip (l ++ [r]) s s2 := by
  have hr : Rch (refsOf g) skip (l ++ [r]) r := .root (by simp) h0 hs
  have hsub : ∀ k ∈ keys s1, k ∈ keys s2 := fun k hk => h2.sub k (keys_push.2 (.inl hk))
  have hrm : r ∈ keys s2 := h2.sub r (keys_push.2 (.inr rfl))
  refine ⟨h2.ok, ?_, fun k hk => hsub k (h.sub k hk), ?_, ?_, ?_⟩
  · have := h2.le; have := h.le; simp only [List.length_append, List.length_singleton] at *; omega
  · intro k hk
    rcases h2.new k hk with h3 | h3
    · rcases keys_push.1 h3 with h4 | rfl
      · exact (h.new k h4).imp_right (Rch.mono fun x hx => by simp [hx])
      · exact .inr hr
    · exact .inr (hr.trans h3)
  · intro x hx h3 h4
    simp only [List.mem_append, List.mem_singleton] at hx
    rcases hx with hx | rfl
    · exact hsub x (h.roots x hx h3 h4)
    · exact hrm
  · intro k hk hks x hx h3 h4
    by_cases hk2 : k ∈ keys (s1 ++ [(r, true)])
    · rcases keys_push.1 hk2 with h5 | rfl
      · exact hsub x (h.closed k h5 hks x hx h3 h4)
      · exact h2.roots x hx h3 h4
    · exact h2.closed k hk hk2 x hx h3 h4

/-- From nothing: just what is reached. -/
theorem Dfs.all {g : Gr} {skip : Int} {l : List Int} {s : Sn} (h : Dfs g skip l [] s) (k : Int) : k ∈ keys s ↔ Rch (refsOf g) skip l k := by
  constructor
  · intro hk
    rcases h.new k hk with h1 | h1
    · simp at h1
    · exact h1
  · intro hk
    induction hk with
    | root h1 h2 h3 => exact h.roots _ h1 h2 h3
    | step _ h1 h2 h3 ih => exact h.closed _ ih (by simp) _ h1 h2 h3

/-- The order's members. -/
theorem order_rch {g : Gr} {l : List Int} (h : okG (g.1, [l], [], ()) = true) (k : Int) : k ∈ order (g.1, [l], [], ()) ↔ Rch (refsOf g) (-1) l k := by
  constructor
  · intro hk
    refine order_ind (g := (g.1, [l], [], ())) (P := fun k => Rch (refsOf g) (-1) l k) ?_ ?_ ?_ k hk
    · intro l' hl x hx h0
      simp only [List.mem_singleton] at hl
      subst hl
      exact .root hx h0 (by omega)
    · intro x hx; simp at hx
    · intro r hr x hx h0
      exact .step hr hx h0 (by omega)
  · intro hk
    induction hk with
    | root h1 h2 h3 => exact order_roots h _ (by simp) _ h1 h2
    | step _ h1 h2 h3 ih => exact order_closed h _ ih _ h1 h2

def mark (out : List Bool) (l : List Int) : List Bool := l.foldl (fun o r => o.set r.toNat true) out
def reachL (g : Gr) : List Bool := mark (List.replicate g.1.length false) (order g)

theorem mark_len {l : List Int} : ∀ {out : List Bool}, (mark out l).length = out.length := by
  induction l with
  | nil => intro out; rfl
  | cons r l ih => intro out; simp only [mark, List.foldl_cons]; exact (ih (out := out.set r.toNat true)).trans (by simp)

theorem mark_get {l : List Int} : ∀ {out : List Bool} {k : Nat}, (∀ r ∈ l, 0 ≤ r ∧ r < (out.length : Int)) → ((mark out l).getD k false = true ↔ out.getD k false = true ∨ (k : Int) ∈ l) := by
  induction l with
  | nil => intro out k _; simp [mark]
  | cons r l ih =>
    intro out k h
    have hr := h r (by simp)
    have := ih (out := out.set r.toNat true) (k := k) (fun x hx => by simpa using h x (by simp [hx]))
    simp only [mark, List.foldl_cons] at this ⊢
    rw [this]
    simp only [List.getD_eq_getElem?_getD, List.getElem?_set, List.mem_cons]
    by_cases e : r.toNat = k
    · have e' : (k : Int) = r := by omega
      have hlt : r.toNat < out.length := by omega
      simp only [e, if_true, e', true_or, or_true, iff_true]
      rw [if_pos (by omega)]
      simp
    · have e' : ¬ (k : Int) = r := by omega
      simp only [e, if_false, e', false_or]

theorem count_mark : ∀ {l : List Bool} {i : Nat}, i < l.length → l.getD i false = false → (l.set i true).count true = l.count true + 1
  | [], _, h, _ => by simp at h
  | b :: l, 0, _, h => by simp at h; subst h; simp
  | b :: l, i + 1, h, h2 => by
    have ih := count_mark (l := l) (i := i) (by simpa using h) (by simpa using h2)
    simp only [List.set_cons_succ, List.count_cons]
    omega

theorem mark_count {l : List Int} : ∀ {out : List Bool}, l.Nodup → (∀ r ∈ l, 0 ≤ r ∧ r < (out.length : Int)) → (∀ r ∈ l, out.getD r.toNat false = false) → (mark out l).count true = out.count true + l.length := by
  induction l with
  | nil => intro out _ _ _; simp [mark]
  | cons r l ih =>
    intro out hn h hf
    have hr := h r (by simp)
    have hn' := List.nodup_cons.1 hn
    have := ih (out := out.set r.toNat true) hn'.2 (fun x hx => by simpa using h x (by simp [hx])) (fun x hx => by
      have hx0 := h x (by simp [hx])
      have : r.toNat ≠ x.toNat := fun e => hn'.1 (by have : r = x := by omega
                                                     rw [this]; exact hx)
      simp only [List.getD_eq_getElem?_getD, List.getElem?_set, this, if_false]
      simpa using hf x (by simp [hx]))
    simp only [mark, List.foldl_cons] at this ⊢
    rw [this, count_mark (by omega) (hf r (by simp)), List.length_cons]
    omega

theorem reachL_len (g : Gr) : (reachL g).length = g.1.length := by simp [reachL, mark_len]

theorem reachL_get {g : Gr} (h : okG g = true) {k : Nat} : (reachL g).getD k false = true ↔ (k : Int) ∈ order g := by
  unfold reachL
  rw [mark_get (fun r hr => by simpa using order_rng h r hr)]
  simp only [List.getD_eq_getElem?_getD, List.getElem?_replicate]
  constructor
  · rintro (h | h)
    · split at h <;> simp at h
    · exact h
  · exact .inr

theorem reachL_count {g : Gr} (h : okG g = true) : (reachL g).count true = (order g).length := by
  unfold reachL
  rw [mark_count (order_nodup h) (fun r hr => by simpa using order_rng h r hr)]
  · simp [List.count_replicate]
  · intro r hr
    simp only [List.getD_eq_getElem?_getD, List.getElem?_replicate]
    split <;> rfl

def bump (c : List Int) (p : Nat → Bool) : List Int := (List.range c.length).map fun k => c.getD k 0 + if p k = true then 1 else 0

theorem bump_len {c : List Int} {p : Nat → Bool} : (bump c p).length = c.length := by simp [bump]

theorem bump_get {c : List Int} {p : Nat → Bool} {k : Nat} (h : k < (bump c p).length) : (bump c p)[k] = c.getD k 0 + if p k = true then 1 else 0 := by
  simp [bump]

theorem bump_congr {c : List Int} {p q : Nat → Bool} (h : ∀ k, k < c.length → p k = q k) : bump c p = bump c q := by
  apply List.ext_getElem (by simp [bump_len])
  intro k h1 h2
  rw [bump_get, bump_get, h k (by simpa [bump_len] using h1)]

theorem bump_none {c : List Int} {p : Nat → Bool} (h : ∀ k, k < c.length → p k = false) : bump c p = c := by
  apply List.ext_getElem (by simp [bump_len])
  intro k h1 h2
  rw [bump_get, h k h2, getD_lt h2]
  simp

theorem bump_set {c : List Int} {p q : Nat → Bool} {k : Nat} (hk : k < c.length) (hp : p k = true) (hq : q k = false) (h : ∀ j, j ≠ k → p j = q j) : bump (c.set k (c.getD k 0 + 1)) q = bump c p := by
  apply List.ext_getElem (by simp [bump_len])
  intro j h1 h2
  rw [bump_get, bump_get]
  simp only [bump_len, List.length_set] at h1
  by_cases e : j = k
  · subst e
    rw [getD_lt (by simpa using h1), List.getElem_set_self, hp, hq]; simp
  · rw [getD_lt (by simpa using h1), List.getElem_set_ne (by omega), h j e, getD_lt h1]

/-- The nodes that the list leads to. -/
def isRch (g : Gr) (l : List Int) (k : Nat) : Bool := (reachL (g.1, [l], [], ())).getD k false

def counts (g : Gr) : List Int := g.2.1.foldl (fun c l => bump c (isRch g l)) (List.replicate g.1.length 0)

def pushIf (c : List Int) (s : List Int) (k : Int) : List Int := if c.getD k.toNat 0 > 1 then s ++ [k] else s

def upto (n : Nat) : List Int := (List.range n).map fun k : Nat => (k : Int)

def shared (g : Gr) : List Int := (upto g.1.length).foldl (pushIf (counts g)) []

theorem upto_len {n : Nat} : (upto n).length = n := by simp [upto]
theorem upto_get {n i : Nat} (h : i < (upto n).length) : (upto n)[i] = (i : Int) := by simp [upto]

theorem okG_one {g : Gr} (h : okG g = true) {l : List Int} (hl : l.length ≤ 8) (hr : okR g.1.length l = true) : okG (g.1, [l], [], ()) = true := by
  have := okG_iff.1 h
  refine okG_iff.2 ⟨this.1, by simp, by simp, this.2.2.2.1, ?_, by simp, by simp, by simp [okR]⟩
  intro r hm
  simp only [List.mem_singleton] at hm
  subst hm
  exact ⟨hl, hr⟩

theorem okG_root {g : Gr} (h : okG g = true) {l : List Int} (hl : l ∈ g.2.1) : okG (g.1, [l], [], ()) = true := by
  have := (okG_iff.1 h).2.2.2.2.1 l hl
  exact okG_one h this.1 this.2

theorem isRch_iff {g : Gr} {l : List Int} (h : okG (g.1, [l], [], ()) = true) {k : Nat} : isRch g l k = true ↔ Rch (refsOf g) (-1) l k := by
  rw [isRch, reachL_get h, order_rch h]

/-- What is counted stays small. -/
structure Cnt (m i : Nat) (c : List Int) : Prop where
  len : c.length = m
  lo : ∀ k, 0 ≤ c.getD k 0
  hi : ∀ k, c.getD k 0 ≤ (i : Int)

theorem Cnt.zero (m : Nat) : Cnt m 0 (List.replicate m 0) := by
  refine ⟨by simp, ?_, ?_⟩ <;> intro k <;> simp only [List.getD_eq_getElem?_getD, List.getElem?_replicate] <;> split <;> simp

theorem Cnt.bump {m i : Nat} {c : List Int} (h : Cnt m i c) (p : Nat → Bool) : Cnt m (i + 1) (bump c p) := by
  have hg : ∀ k, (Fl.bump c p).getD k 0 = if k < m then c.getD k 0 + (if p k = true then 1 else 0) else 0 := by
    intro k
    by_cases hk : k < m
    · rw [getD_lt (by rw [bump_len, h.len]; exact hk), bump_get]; simp [hk]
    · rw [List.getD_eq_getElem?_getD, List.getElem?_eq_none (by rw [bump_len, h.len]; omega)]; simp [hk]
  refine ⟨by rw [bump_len, h.len], ?_, ?_⟩ <;> intro k <;> rw [hg k] <;> have := h.lo k <;> have := h.hi k <;> split <;> (try split) <;> omega

theorem counts_cnt {g : Gr} (h : okG g = true) : Cnt g.1.length g.2.1.length (counts g) := by
  have key : ∀ (ls : List (List Int)) (i : Nat) (c : List Int), Cnt g.1.length i c → Cnt g.1.length (i + ls.length) (ls.foldl (fun c l => bump c (isRch g l)) c) := by
    intro ls
    induction ls with
    | nil => intro i c hc; simpa using hc
    | cons l ls ih =>
      intro i c hc
      have := ih (i + 1) _ (hc.bump (isRch g l))
      simp only [List.foldl_cons, List.length_cons]
      rw [show i + (ls.length + 1) = i + 1 + ls.length by omega]
      exact this
  have := key g.2.1 0 _ (Cnt.zero g.1.length)
  simpa [counts] using this

theorem pushIf_one {c s : List Int} {x : Int} : (pushIf c s x).length ≤ s.length + 1 := by unfold pushIf; split <;> simp

theorem pushIf_len {c : List Int} : ∀ {xs : List Int} {s : List Int}, (xs.foldl (pushIf c) s).length ≤ s.length + xs.length
  | [], s => by simp
  | x :: xs, s => by
    have := pushIf_len (c := c) (xs := xs) (s := pushIf c s x)
    simp only [List.foldl_cons, List.length_cons]
    have h2 : (pushIf c s x).length ≤ s.length + 1 := by unfold pushIf; split <;> simp
    omega

theorem shared_len (g : Gr) : (shared g).length ≤ g.1.length := by
  have := pushIf_len (c := counts g) (xs := upto g.1.length) (s := [])
  simpa [shared, upto_len] using this

theorem Rch.split {R : Int → List Int} {skip : Int} {l : List Int} {k : Int} (h : Rch R skip l k) : ∃ f ∈ l, 0 ≤ f ∧ f ≠ skip ∧ (f = k ∨ Rch R skip (R f) k) := by
  induction h with
  | root h1 h2 h3 => exact ⟨_, h1, h2, h3, .inl rfl⟩
  | step _ h1 h2 h3 ih =>
    obtain ⟨f, hf, h0, hs, h4⟩ := ih
    refine ⟨f, hf, h0, hs, .inr ?_⟩
    rcases h4 with rfl | h4
    · exact .root h1 h2 h3
    · exact .step h4 h1 h2 h3

theorem Rch.one {R : Int → List Int} {skip : Int} {l : List Int} {k : Int} : Rch R skip l k ↔ ∃ f ∈ l, Rch R skip [f] k := by
  constructor
  · intro h
    obtain ⟨f, hf, h0, hs, h4⟩ := h.split
    refine ⟨f, hf, ?_⟩
    have h5 : Rch R skip [f] f := .root (by simp) h0 hs
    rcases h4 with rfl | h4
    · exact h5
    · exact h5.trans h4
  · rintro ⟨f, hf, h⟩
    exact h.mono fun x hx => by simp only [List.mem_singleton] at hx; exact hx ▸ hf

open Classical in
noncomputable def ringB (g : Gr) (k : Int) : Bool := decide (Rch (refsOf g) (-1) (refsOf g k) k)

noncomputable def rings (g : Gr) : List Int := (upto g.1.length).filter (ringB g)

theorem ringB_iff {g : Gr} {k : Int} : ringB g k = true ↔ Rch (refsOf g) (-1) (refsOf g k) k := by simp [ringB]

theorem foldl_filter {p : Int → Bool} {xs : List Int} : ∀ {s : List Int}, xs.foldl (fun s x => if p x = true then s ++ [x] else s) s = s ++ xs.filter p := by
  induction xs with
  | nil => intro s; simp
  | cons x xs ih =>
    intro s
    rw [List.foldl_cons, ih, List.filter_cons]
    cases p x <;> simp

theorem mem_upto {n : Nat} {k : Int} : k ∈ upto n ↔ 0 ≤ k ∧ k < (n : Int) := by
  simp only [upto, List.mem_map, List.mem_range]
  constructor
  · rintro ⟨a, h, rfl⟩; omega
  · intro h; exact ⟨k.toNat, by omega, by omega⟩

theorem shared_filter (g : Gr) : shared g = (upto g.1.length).filter (fun k => decide ((counts g).getD k.toNat 0 > 1)) := by
  have : pushIf (counts g) = fun s x => if (fun k : Int => decide ((counts g).getD k.toNat 0 > 1)) x = true then s ++ [x] else s := by
    funext s x; simp only [pushIf, decide_eq_true_eq]
  rw [shared, this, foldl_filter]; rfl

/-- Whoever is on a ring leads on to one that is. -/
theorem rings_next {g : Gr} (h : okG g = true) {a : Int} (ha : a ∈ rings g) : ∃ f ∈ refsOf g a, f ∈ rings g := by
  simp only [rings, List.mem_filter, ringB_iff, mem_upto] at ha
  obtain ⟨f, hf, h0, hs, h4⟩ := ha.2.split
  refine ⟨f, hf, ?_⟩
  simp only [rings, List.mem_filter, ringB_iff, mem_upto]
  refine ⟨⟨h0, refs_rng h a f hf⟩, ?_⟩
  rcases h4 with rfl | h4
  · exact ha.2
  · exact .step h4 hf h0 hs

theorem counts_mono {g : Gr} (h : okG g = true) {a b : Nat} (ha : a < g.1.length) (hb : b < g.1.length) (hab : (b : Int) ∈ refsOf g a) : (counts g).getD a 0 ≤ (counts g).getD b 0 := by
  have key : ∀ (ls : List (List Int)) (c : List Int), (∀ l ∈ ls, l ∈ g.2.1) → c.length = g.1.length → c.getD a 0 ≤ c.getD b 0 → (ls.foldl (fun c l => bump c (isRch g l)) c).getD a 0 ≤ (ls.foldl (fun c l => bump c (isRch g l)) c).getD b 0 := by
    intro ls
    induction ls with
    | nil => intro c _ _ hc; exact hc
    | cons l ls ih =>
      intro c hm hl hc
      refine ih _ (fun x hx => hm x (by simp [hx])) (by rw [bump_len, hl]) ?_
      rw [getD_lt (by rw [bump_len, hl]; exact ha), getD_lt (by rw [bump_len, hl]; exact hb), bump_get, bump_get]
      have hone := okG_root h (hm l (by simp))
      have : isRch g l a = true → isRch g l b = true := fun hx => (isRch_iff hone).2 (.step ((isRch_iff hone).1 hx) hab (by omega) (by omega))
      cases h1 : isRch g l a with
      | false => simp only [Bool.false_eq_true, if_false]; split <;> omega
      | true => rw [this h1]; simpa using hc
  exact key g.2.1 _ (fun _ h => h) (by simp) (by simp [ha, hb])

theorem shared_closed {g : Gr} (h : okG g = true) {a r : Int} (ha : a ∈ shared g) (hr : r ∈ refsOf g a) (h0 : 0 ≤ r) : r ∈ shared g := by
  rw [shared_filter] at ha ⊢
  simp only [List.mem_filter, mem_upto, decide_eq_true_eq] at ha ⊢
  have hr2 := refs_rng h a r hr
  have := counts_mono h (a := a.toNat) (b := r.toNat) (by omega) (by omega) (by rw [show ((a.toNat : Nat) : Int) = a by omega, show ((r.toNat : Nat) : Int) = r by omega]; exact hr)
  exact ⟨⟨h0, hr2⟩, by omega⟩

theorem upto_filter_len {n : Nat} {p : Int → Bool} : ((upto n).filter p).length ≤ n := by
  have := List.length_filter_le p (upto n)
  rwa [upto_len] at this

def orF (i : Nat) (a b : List Bool) : List Bool := (List.range a.length).map fun k => a.getD k false || (decide (i ≤ k) && b.getD k false)

theorem orF_len {i : Nat} {a b : List Bool} : (orF i a b).length = a.length := by simp [orF]
theorem orF_get {i k : Nat} {a b : List Bool} (h : k < (orF i a b).length) : (orF i a b)[k] = (a.getD k false || (decide (i ≤ k) && b.getD k false)) := by simp [orF]
theorem orF_getD {i k : Nat} {a b : List Bool} (h : k < a.length) : (orF i a b).getD k false = (a.getD k false || (decide (i ≤ k) && b.getD k false)) := by
  rw [getD_lt (by rw [orF_len]; exact h), orF_get]
theorem orF_end {i : Nat} {a b : List Bool} (h : a.length ≤ i) : orF i a b = a := by
  apply List.ext_getElem (by simp [orF_len])
  intro k h1 h2
  have : ¬ i ≤ k := by omega
  rw [orF_get, getD_lt h2, decide_eq_false this]; simp
theorem orF_set {i : Nat} {a b : List Bool} (h : i < a.length) : orF (i + 1) (a.set i (a.getD i false || b.getD i false)) b = orF i a b := by
  apply List.ext_getElem (by simp [orF_len])
  intro k h1 h2
  rw [orF_get, orF_get]
  simp only [orF_len, List.length_set] at h1
  rw [getD_lt (show k < (a.set i (a.getD i false || b.getD i false)).length by simpa using h1), getD_lt h1]
  by_cases e : k = i
  · subst e
    rw [List.getElem_set_self, getD_lt h1]
    have : ¬ k + 1 ≤ k := by omega
    rw [decide_eq_false this]; simp
  · rw [List.getElem_set_ne (by omega)]
    have : decide (i + 1 ≤ k) = decide (i ≤ k) := by simp only [decide_eq_decide]; omega
    rw [this]

def cutA (a : Int) (l : List Int) : List Int := l.map fun r => if r = a then -1 else r

def less (g : Gr) (a : Int) : Gr := (g.1.map (fun x => (cutA a x.1, x.2)), g.2.1.map (cutA a), g.2.2.1.filter (fun x => decide (x ≠ a)), ())

/-- All that a graph begins with. -/
def begins (g : Gr) : List Int := g.2.1.flatten ++ g.2.2.1

theorem mem_cutA {a x : Int} {l : List Int} (h0 : 0 ≤ x) : x ∈ cutA a l ↔ x ∈ l ∧ x ≠ a := by
  simp only [cutA, List.mem_map]
  constructor
  · rintro ⟨r, hr, e⟩
    split at e
    · omega
    · subst e; exact ⟨hr, by assumption⟩
  · rintro ⟨h, hn⟩; exact ⟨x, h, by rw [if_neg hn]⟩

theorem okR_cut {m : Nat} {a : Int} {l : List Int} (h : okR m l = true) : okR m (cutA a l) = true := by
  rw [okR_iff] at h ⊢
  intro x hx
  simp only [cutA, List.mem_map] at hx
  obtain ⟨r, hr, e⟩ := hx
  split at e
  · omega
  · subst e; exact h _ hr

theorem less_ok {g : Gr} (h : okG g = true) (a : Int) : okG (less g a) = true := by
  obtain ⟨h1, h2, h3, h4, h5, h6, h7, h8⟩ := okG_iff.1 h
  refine okG_iff.2 ⟨by simpa [less] using h1, by simpa [less] using h2, by simpa [less] using h3, ?_, ?_, ?_, ?_, ?_⟩
  · intro x hx
    simp only [less, List.mem_map] at hx
    obtain ⟨y, hy, rfl⟩ := hx
    have := h4 y hy
    exact ⟨by simpa [cutA] using this.1, this.2.1, by simpa [less] using okR_cut this.2.2⟩
  · intro r hr
    simp only [less, List.mem_map] at hr
    obtain ⟨y, hy, rfl⟩ := hr
    have := h5 y hy
    exact ⟨by simpa [cutA] using this.1, by simpa [less] using okR_cut this.2⟩
  · have := List.length_filter_le (fun x => decide (x ≠ a)) g.2.2.1
    simp only [less]; omega
  · intro x hx
    simp only [less, List.mem_filter] at hx
    exact h7 x hx.1
  · rw [okR_iff] at h8 ⊢
    intro x hx
    simp only [less, List.mem_filter] at hx
    simpa [less] using h8 x hx.1

theorem less_refs {g : Gr} {a r x : Int} (h0 : 0 ≤ x) : x ∈ refsOf (less g a) r ↔ x ∈ refsOf g r ∧ x ≠ a := by
  have e : refsOf (less g a) r = cutA a (refsOf g r) := by
    simp only [refsOf, less, List.getD_eq_getElem?_getD, List.getElem?_map]
    cases g.1[r.toNat]? <;> rfl
  rw [e, mem_cutA h0]

theorem order_all {g : Gr} (h : okG g = true) (k : Int) : k ∈ order g ↔ Rch (refsOf g) (-1) (begins g) k := by
  constructor
  · intro hk
    refine order_ind (P := fun k => Rch (refsOf g) (-1) (begins g) k) ?_ ?_ ?_ k hk
    · intro l hl x hx h0
      exact .root (List.mem_append.2 (.inl (List.mem_flatten.2 ⟨l, hl, hx⟩))) h0 (by omega)
    · intro x hx h0
      exact .root (List.mem_append.2 (.inr hx)) h0 (by omega)
    · intro r hr x hx h0
      exact .step hr hx h0 (by omega)
  · intro hk
    induction hk with
    | root h1 h2 h3 =>
      rcases List.mem_append.1 h1 with h1 | h1
      · obtain ⟨l, hl, hx⟩ := List.mem_flatten.1 h1
        exact order_roots h _ hl _ hx h2
      · exact order_pins h _ h1
    | step _ h1 h2 h3 ih => exact order_closed h _ ih _ h1 h2

theorem order_less {g : Gr} (h : okG g = true) {a : Int} (k : Int) : k ∈ order (less g a) ↔ Rch (refsOf g) a (begins g) k := by
  have hl := less_ok h a
  constructor
  · intro hk
    refine order_ind (P := fun k => Rch (refsOf g) a (begins g) k) ?_ ?_ ?_ k hk
    · intro l hl x hx h0
      simp only [less, List.mem_map] at hl
      obtain ⟨y, hy, rfl⟩ := hl
      have := (mem_cutA h0).1 hx
      exact .root (List.mem_append.2 (.inl (List.mem_flatten.2 ⟨y, hy, this.1⟩))) h0 this.2
    · intro x hx h0
      simp only [less, List.mem_filter, decide_eq_true_eq] at hx
      exact .root (List.mem_append.2 (.inr hx.1)) h0 hx.2
    · intro r hr x hx h0
      have := (less_refs h0).1 hx
      exact .step hr this.1 h0 this.2
  · intro hk
    induction hk with
    | root h1 h2 h3 =>
      rcases List.mem_append.1 h1 with h1 | h1
      · obtain ⟨l, hm, hx⟩ := List.mem_flatten.1 h1
        exact order_roots hl (cutA a l) (by simp only [less, List.mem_map]; exact ⟨l, hm, rfl⟩) _ ((mem_cutA h2).2 ⟨hx, h3⟩) h2
      · exact order_pins hl _ (by simp only [less, List.mem_filter, decide_eq_true_eq]; exact ⟨h1, h3⟩)
    | step _ h1 h2 h3 ih => exact order_closed hl _ ih _ ((less_refs h2).2 ⟨h1, h3⟩) h2

open Classical in
noncomputable def heldB (g : Gr) (a : Int) (k : Int) : Bool := decide (Rch (refsOf g) (-1) (begins g) k) && !decide (Rch (refsOf g) a (begins g) k)

theorem heldB_iff {g : Gr} {a k : Int} : heldB g a k = true ↔ Rch (refsOf g) (-1) (begins g) k ∧ ¬ Rch (refsOf g) a (begins g) k := by simp [heldB]

noncomputable def heldBy (g : Gr) (a : Int) : List Int := if okG g = true ∧ 0 ≤ a ∧ a < (g.1.length : Int) then (upto g.1.length).filter (heldB g a) else []

theorem heldBy_in {g : Gr} {a : Int} (h : okG g = true ∧ 0 ≤ a ∧ a < (g.1.length : Int)) : heldBy g a = (upto g.1.length).filter (heldB g a) := if_pos h
theorem heldBy_out {g : Gr} {a : Int} (h : ¬ (okG g = true ∧ 0 ≤ a ∧ a < (g.1.length : Int))) : heldBy g a = [] := if_neg h
theorem heldBy_len (g : Gr) (a : Int) : (heldBy g a).length ≤ g.1.length := by
  unfold heldBy
  split
  · exact upto_filter_len
  · simp
theorem heldBy_len2 (g : Gr) (a : Int) : (heldBy g a).length ≤ 200 := by
  by_cases h : okG g = true ∧ 0 ≤ a ∧ a < (g.1.length : Int)
  · have := heldBy_len g a; have := (okG_iff.1 h.1).1; omega
  · rw [heldBy_out h]; simp

theorem mem_heldBy {g : Gr} {a k : Int} (h : okG g = true ∧ 0 ≤ a ∧ a < (g.1.length : Int)) : k ∈ heldBy g a ↔ k ∈ order g ∧ k ∉ order (less g a) := by
  rw [heldBy_in h, List.mem_filter, mem_upto, heldB_iff, order_all h.1, order_less h.1]
  constructor
  · exact fun h => h.2
  · intro h2
    exact ⟨order_rng h.1 _ ((order_all h.1 k).2 h2.1), h2⟩

section
variable {N : Nat} (hN : lim < N)
include hN

theorem dfs_ok {g : Gr} (hg : okG g = true) {skip : Int} : ∀ (m : Nat) {l : List Int} {s : Sn}, (∀ x ∈ l, x < (g.1.length : Int)) → l.length ≤ lim → Seen g.1.length s → g.1.length - s.length < m →
    ∃ s', FiGraph_from_1_iGraph_from_1 N m (l, skip, g, s, skip, g, ()) = some (s', skip, g, ()) ∧ Dfs g skip l s s'
  | 0, _, _, _, _, _, h => absurd h (Nat.not_lt_zero _)
  | m + 1, l, s, hl, hlen, hs, hm => by
    have key : ∀ (d n i : Nat) (s1 : Sn), i + d = l.length → d < n → Dfs g skip (l.take i) s s1 →
        ∃ s', liGraph_from_1_iGraph_from_1_0 N (fun x_ => FiGraph_from_1_iGraph_from_1 N m x_) n (skip, g, l, (l.length : Int), (i : Int), s1, skip, g, ()) = some (s', skip, g, ()) ∧ Dfs g skip l s s' := by
      intro d
      induction d with
      | zero =>
        intro n i s1 hi hn hD
        obtain ⟨n, rfl⟩ : ∃ k, n = k + 1 := ⟨n - 1, by omega⟩
        have : i = l.length := by omega
        subst this
        rw [List.take_length] at hD
        exact ⟨s1, by simp [liGraph_from_1_iGraph_from_1_0], hD⟩
      | succ d ih =>
        intro n i s1 hi hn hD
        obtain ⟨n, rfl⟩ : ∃ k, n = k + 1 := ⟨n - 1, by omega⟩
        have hlt : i < l.length := by omega
        have hw : w64 ((i : Int) + 1) = ((i + 1 : Nat) : Int) := w64_succ (by rw [lim_eq] at hlen; omega)
        have ht : l.take (i + 1) = l.take i ++ [l[i]] := by rw [List.take_succ_eq_append_getElem hlt]
        have go := fun s2 (h : Dfs g skip (l.take i ++ [l[i]]) s s2) => ih n (i + 1) s2 (by omega) (by omega) (by rw [ht]; exact h)
        simp only [liGraph_from_1_iGraph_from_1_0, Int.ofNat_lt, hlt, decide_true, cond_true, Int.natCast_nonneg, Int.toNat_natCast, getD_lt hlt, hw]
        by_cases h0 : 0 ≤ l[i]
        · by_cases h1 : l[i] = skip
          · have e : (l[i] != skip) = false := by simp [h1]
            simp only [ge_iff_le, h0, decide_true, cond_true, e, cond_false]
            exact go s1 (hD.skip fun _ h => absurd h1 h)
          · have e : (l[i] != skip) = true := by simp [h1]
            simp only [ge_iff_le, h0, decide_true, cond_true, e]
            by_cases h2 : l[i] ∈ keys s1
            · have e2 := (mget_keys (k := l[i]) hD.ok.tr).2 h2
              simp only [e2, Bool.not_true, cond_false]
              exact go s1 (hD.skip fun _ _ => h2)
            · have e2 : (mget s1 l[i]).getD false = false := by
                cases hb : (mget s1 l[i]).getD false with
                | false => rfl
                | true => exact absurd ((mget_keys hD.ok.tr).1 hb) h2
              have hr := hl _ (List.getElem_mem hlt)
              have hr' : l[i].toNat < g.1.length := by omega
              have hs2 := hD.ok.add h0 hr h2
              have hsm := (okG_iff.1 hg).2.2.2.1 _ (List.getElem_mem hr')
              have hle := hD.le
              obtain ⟨s3, e3, h3⟩ := dfs_ok hg (skip := skip) m (l := refsOf g l[i]) (s := s1 ++ [(l[i], true)]) (refs_rng hg _)
                (by simp only [refsOf, getD_lt hr']; rw [lim_eq]; omega) hs2 (by simp only [List.length_append, List.length_singleton]; have := hs2.le; simp only [List.length_append, List.length_singleton] at this; omega)
              simp only [e2, Bool.not_false, cond_true, hr', decide_true, mset_fresh h2]
              simp only [refsOf] at e3
              rw [e3]
              exact go s3 (hD.go h0 h1 h2 h3)
        · simp only [ge_iff_le, h0, decide_false, cond_false]
          exact go s1 (hD.skip fun h => absurd h h0)
    obtain ⟨s', e, h⟩ := key l.length N 0 s (by omega) (by omega) (by simpa using Dfs.nil hs)
    simp only [Int.natCast_zero] at e
    exact ⟨s', by simp [FiGraph_from_1_iGraph_from_1, e], h⟩

theorem iGraph_from_ok {g : Gr} (hg : okG g = true) {l : List Int} (hl : ∀ x ∈ l, x < (g.1.length : Int)) (hlen : l.length ≤ lim) (skip : Int) :
    ∃ s, FiGraph_from N (g, l, skip, ()) = some (s, ()) ∧ Seen g.1.length s ∧ ∀ k, k ∈ keys s ↔ Rch (refsOf g) skip l k := by
  have h0 : Seen g.1.length [] := ⟨by simp, by simp, by simp⟩
  have := (okG_iff.1 hg).1
  obtain ⟨s, e, h⟩ := dfs_ok hN hg (skip := skip) N hl hlen h0 (by rw [lim_eq] at hN; simp; omega)
  exact ⟨s, by simp [FiGraph_from, e], h.ok, h.all⟩
end

section
variable {N : Nat} (hN : lim < N)
include hN

theorem leads_ok {g : Gr} {xs : List Int} {low : Int} (hl : xs.length ≤ lim) :
    FiGraph_leads N (g, xs, low, ()) = some (xs.all fun x => decide (low ≤ x) && decide (x < (g.1.length : Int)), ()) := by
  have hL := find_loop (xs := xs) (n := N) (fun x => decide (x < low) || decide (x ≥ (g.1.length : Int))) (L := fun n i => lkIndexFunc_Sint_int_iGraph_leads_1_0 N n (xs, low, g, (xs.length : Int), (i : Int), ()))
    (yes := fun i => .inr ((i : Int), ())) (no := .inl ()) hl
    (fun n i h hw hq => by
      simp at hq
      simp [lkIndexFunc_Sint_int_iGraph_leads_1_0, FiGraph_leads_1, h, hw, Int.not_lt.2 hq.1, Int.not_le.2 hq.2])
    (fun n i h hq => by
      by_cases h1 : xs[i] < low
      · simp [lkIndexFunc_Sint_int_iGraph_leads_1_0, FiGraph_leads_1, h, h1]
      · simp [h1] at hq
        simp [lkIndexFunc_Sint_int_iGraph_leads_1_0, FiGraph_leads_1, h, h1, hq])
    (fun n => by simp [lkIndexFunc_Sint_int_iGraph_leads_1_0]) (by omega)
  simp only [Int.natCast_zero] at hL
  simp only [FiGraph_leads, FkContainsFunc_Sint_int_iGraph_leads_1, FkIndexFunc_Sint_int_iGraph_leads_1, hL]
  cases hf : xs.findIdx? (fun x => decide (x < low) || decide (x ≥ (g.1.length : Int))) with
  | none =>
    have : (xs.all fun x => decide (low ≤ x) && decide (x < (g.1.length : Int))) = true := by
      rw [List.findIdx?_eq_none_iff] at hf
      rw [List.all_eq_true]
      intro x hx
      have := hf x hx
      simp at this ⊢
      omega
    simp [this]
  | some i =>
    have : (xs.all fun x => decide (low ≤ x) && decide (x < (g.1.length : Int))) = false := by
      rw [List.findIdx?_eq_some_iff_getElem] at hf
      obtain ⟨h, h1, _⟩ := hf
      rw [List.all_eq_false]
      refine ⟨_, List.getElem_mem h, ?_⟩
      simp at h1 ⊢
      omega
    simp [this]

theorem leads1_ok {g : Gr} {xs : List Int} (hl : xs.length ≤ lim) : FiGraph_leads N (g, xs, -1, ()) = some (okR g.1.length xs, ()) := leads_ok hN hl

theorem iGraphOk_ok {g : Gr} (hs : smG g) : FiGraphOk N (g, ()) = some (okG g, ()) := by
  obtain ⟨a1, a2, a3, a4, a5⟩ := hs
  have h1 := all_loop (xs := g.1) (n := N) (okN g.1.length) (L := fun n i => liGraphOk_0 N n (g, g.1, (g.1.length : Int), (i : Int), ())) (yes := .inl (g, ())) (no := .inr (false, ())) (sm_lim a1)
    (fun n i h hw hq => by
      simp [okN] at hq
      simp [liGraphOk_0, h, hw, leads1_ok hN (sm_lim (a2 _ (List.getElem_mem h)).1), hq, Nat.not_lt.2 hq.1, Nat.not_lt.2 hq.2.1]
      )
    (fun n i h hq => by
      simp only [liGraphOk_0, leads1_ok hN (sm_lim (a2 _ (List.getElem_mem h)).1), getD_lt h, Int.toNat_natCast]
      simp only [okN] at hq
      by_cases h1 : g.1[i].1.length ≤ 4 <;> by_cases h2 : g.1[i].2.1.length ≤ 4 <;> simp_all)
    (fun n => by simp [liGraphOk_0]) (by have := sm_lim a1; omega)
  have h2 := all_loop (xs := g.2.1) (n := N) (fun r => decide (r.length ≤ 8) && okR g.1.length r) (L := fun n i => liGraphOk_2 N n (g, g.2.1, (g.2.1.length : Int), (i : Int), ())) (yes := .inl ()) (no := .inr (false, ())) (sm_lim a3)
    (fun n i h hw hq => by
      simp at hq
      simp [liGraphOk_2, h, hw, leads1_ok hN (sm_lim (a4 _ (List.getElem_mem h))), hq, Nat.not_lt.2 hq.1])
    (fun n i h hq => by
      simp only [liGraphOk_2, leads1_ok hN (sm_lim (a4 _ (List.getElem_mem h))), getD_lt h, Int.toNat_natCast]
      by_cases h1 : g.2.1[i].length ≤ 8 <;> simp_all)
    (fun n => by simp [liGraphOk_2]) (by have := sm_lim a3; omega)
  simp only [Int.natCast_zero] at h1 h2
  simp only [FiGraphOk, okG]
  have hp : (g.2.2.1.all (fun x => decide (0 ≤ x)) && okR g.1.length g.2.2.1) = g.2.2.1.all fun x => decide (0 ≤ x) && decide (x < (g.1.length : Int)) := by
    rw [Bool.eq_iff_iff]
    simp only [okR, Bool.and_eq_true, List.all_eq_true, decide_eq_true_eq]
    constructor
    · rintro ⟨h1, h2⟩ x hx; exact ⟨h1 x hx, (h2 x hx).2⟩
    · intro h; exact ⟨fun x hx => (h x hx).1, fun x hx => ⟨by have := (h x hx).1; omega, (h x hx).2⟩⟩
  rw [hp]
  by_cases b1 : g.1.length ≤ 200
  · by_cases b2 : 1 ≤ g.2.1.length
    · by_cases b3 : g.2.1.length ≤ 3
      · by_cases b4 : g.2.2.1.length ≤ 8
        · simp only [gt_iff_lt, lit_lt200, lt_lit1, lit_lt3, lit_lt8, Nat.not_lt.2 b1, Nat.not_lt.2 b2, Nat.not_lt.2 b3, Nat.not_lt.2 b4, b1, b2, b3, b4, decide_true, decide_false, cond_false, Option.bind_some, leads_ok hN (sm_lim a5), bif_neg]
          cases g.2.2.1.all fun x => decide (0 ≤ x) && decide (x < (g.1.length : Int))
          · simp
          · simp only [cond_true, Option.bind_some, Sum.elim_inl, h1]
            cases g.1.all (okN g.1.length)
            · simp
            · simp only [cond_true, Option.bind_some, Sum.elim_inl, h2]
              cases g.2.1.all fun r => decide (r.length ≤ 8) && okR g.1.length r <;> simp
        · simp [Nat.not_lt.2 b1, Nat.not_lt.2 b2, Nat.not_lt.2 b3, Nat.not_le.1 b4, b4]
      · simp [Nat.not_lt.2 b1, Nat.not_lt.2 b2, Nat.not_le.1 b3, b3]
    · simp [Nat.not_lt.2 b1, Nat.not_le.1 b2, b2]
  · simp [Nat.not_le.1 b1, b1]

end

section
variable {N : Nat} (hN : lim < N)
include hN

omit hN in
theorem grow_ok {n : Int} (h0 : 0 ≤ n) (h1 : n ≤ 1000000) : FkGrow_Sint_int N (n, ()) = some ([], ()) := by
  have hw : w64 (n - w64 (0 - 0)) = n := by
    have : w64 (0 - 0) = 0 := w64_id (by omega) (by omega)
    rw [this]; rw [w64_id (by omega) (by omega)]; omega
  have hw' : w64 (n - w64 0) = n := hw
  have h2 : ¬ n < 0 := by omega
  have h3 : n ≤ (lim : Int) := by rw [lim_eq]; omega
  have h5 : 0 ≤ max n 0 := by omega
  by_cases h4 : n > 0
  · simp [FkGrow_Sint_int, h2, hw', h4, h0, h3, h5]
  · simp [FkGrow_Sint_int, h2, hw', h4]

theorem concat_ok {ls : List (List Int)} (hl : ls.length ≤ 8) (hx : ∀ l ∈ ls, l.length ≤ 1000) : FkConcat_Sint_int N (ls, ()) = some (ls.flatten, ()) := by
  obtain ⟨e, h⟩ := fold_loop (xs := ls) (n := N) (fun (s : Int) l => s + l.length) (fun i s => 0 ≤ s ∧ s ≤ 1000 * (i : Int)) (L := fun n i s => lkConcat_Sint_int_0 N n (ls, s, ls, (ls.length : Int), (i : Int), ())) (fin := fun s => (ls, s, ()))
    (by rw [lim_eq]; omega)
    (fun n i s hi hw hI => by
      have := hx _ (List.getElem_mem hi)
      have hw2 : w64 (s + (ls[i].length : Int)) = s + ls[i].length := w64_id (by omega) (by omega)
      have h2 : ¬ s + (ls[i].length : Int) < 0 := by omega
      refine ⟨?_, by omega, by omega⟩
      simp [lkConcat_Sint_int_0, hi, hw, hw2, h2])
    (fun n s hI => by simp [lkConcat_Sint_int_0]) (by rw [lim_eq] at hN; omega) (s := 0) (by simp)
  have e2 := (fold_loop (xs := ls) (n := N) (fun (s : List Int) l => s ++ l) (fun i s => s.length ≤ 1000 * i) (L := fun n i s => lkConcat_Sint_int_2 N n (ls, (ls.length : Int), (i : Int), s, ())) (fin := fun s => (s, ()))
    (by rw [lim_eq]; omega)
    (fun n i s hi hw hI => by
      have := hx _ (List.getElem_mem hi)
      have hlim : s.length + ls[i].length ≤ lim := by rw [lim_eq]; omega
      refine ⟨?_, by rw [List.length_append]; omega⟩
      simp [lkConcat_Sint_int_2, hi, hw, hlim])
    (fun n s hI => by simp [lkConcat_Sint_int_2]) (by rw [lim_eq] at hN; omega) (s := []) (by simp)).1
  have ef : ∀ (ls : List (List Int)) (s : List Int), ls.foldl (fun s l => s ++ l) s = s ++ ls.flatten := by
    intro ls
    induction ls with
    | nil => intro s; simp
    | cons l ls ih => intro s; rw [List.foldl_cons, ih]; simp
  rw [ef] at e2
  generalize ls.foldl (fun (s : Int) l => s + l.length) 0 = t at e h
  simp only [Int.natCast_zero] at e e2
  simp [FkConcat_Sint_int, e, grow_ok (N := N) h.1 (by omega), e2]

theorem holds_i {g : Gr} (h : okG g = true) {a : Int} {s1 s2 : Sn} (h1 : Seen g.1.length s1) (h2 : Seen g.1.length s2)
    (m1 : ∀ k, k ∈ keys s1 ↔ Rch (refsOf g) (-1) (begins g) k) (m2 : ∀ k, k ∈ keys s2 ↔ Rch (refsOf g) a (begins g) k) :
    liPathHolds_0 N N ((g.1.length : Int), 0, s1, s2, [], ()) = some ((upto g.1.length).filter (heldB g a), ()) := by
  have hg := okG_iff.1 h
  have e := (fold_loop (xs := upto g.1.length) (n := N) (fun s x => if heldB g a x = true then s ++ [x] else s) (fun i s => s.length ≤ i) (L := fun n i s => liPathHolds_0 N n ((g.1.length : Int), (i : Int), s1, s2, s, ())) (fin := fun s => (s, ()))
    (by rw [lim_eq, upto_len]; omega)
    (fun n i s hi hw hI => by
      have hi' : i < g.1.length := by simpa [upto_len] using hi
      have hlim : s.length + 1 ≤ lim := by rw [lim_eq]; omega
      have h4 : heldB g a i = ((mget s1 i).getD false && !(mget s2 i).getD false) := by
        rw [Bool.eq_iff_iff, heldB_iff, Bool.and_eq_true, mget_keys h1.tr, m1, ← m2, ← mget_keys h2.tr, Bool.not_eq_true, Bool.not_eq_true']
      rw [upto_get hi, h4]
      simp only [liPathHolds_0, Int.ofNat_lt, hi', decide_true, cond_true, hw, List.length_cons, List.length_nil, Nat.zero_add, hlim]
      cases (mget s1 i).getD false <;> cases (mget s2 i).getD false <;> exact ⟨rfl, by simp; omega⟩)
    (fun n s hI => by simp [liPathHolds_0, upto_len]) (by rw [lim_eq] at hN; rw [upto_len]; omega) (s := []) (by simp)).1
  rw [foldl_filter] at e
  simpa using e

theorem iPathHolds_ok {g : Gr} (hs : smG g) (a : Int) : FiPathHolds N (g, a, ()) = some (heldBy g a, ()) := by
  cases h : okG g with
  | false => simp [FiPathHolds, iGraphOk_ok hN hs, h, heldBy]
  | true =>
    by_cases h0 : a ≥ 0
    · by_cases h1 : a < (g.1.length : Int)
      · rw [heldBy_in ⟨h, h0, h1⟩]
        have hg := okG_iff.1 h
        have hc := concat_ok hN (ls := g.2.1) (by omega) (fun l hl => by have := (hg.2.2.2.2.1 l hl).1; omega)
        have hfl : g.2.1.flatten.length ≤ 8 * g.2.1.length := by
          have : ∀ (ls : List (List Int)), (∀ l ∈ ls, l.length ≤ 8) → ls.flatten.length ≤ 8 * ls.length := by
            intro ls
            induction ls with
            | nil => intro _; simp
            | cons l ls ih =>
              intro hl
              have := ih (fun x hx => hl x (by simp [hx]))
              have := hl l (by simp)
              simp only [List.flatten_cons, List.length_append, List.length_cons]
              omega
          exact this _ (fun l hl => (hg.2.2.2.2.1 l hl).1)
        have hb : ∀ x ∈ begins g, x < (g.1.length : Int) := fun x hx => by
          rcases List.mem_append.1 hx with hx | hx
          · obtain ⟨l, hl, hx⟩ := List.mem_flatten.1 hx
            exact rootsrng h l hl x hx
          · exact pinsrng h x hx
        have hlen : (begins g).length ≤ lim := by rw [begins, List.length_append, lim_eq]; omega
        obtain ⟨s1, e1, k1, m1⟩ := iGraph_from_ok hN h hb hlen (-1)
        obtain ⟨s2, e2, k2, m2⟩ := iGraph_from_ok hN h hb hlen a
        have hlen' : g.2.1.flatten.length + g.2.2.1.length ≤ lim := by rw [lim_eq]; omega
        simp only [begins] at e1 e2
        simp only [FiPathHolds, iGraphOk_ok hN hs, h, Option.bind_some, Bool.not_true, cond_false, FiGraph_hasNode, h0, h1, decide_true, cond_true, Sum.elim_inl, hc, hlen', e1, e2, holds_i hN h k1 k2 m1 m2]
      · rw [heldBy_out (fun hh => h1 hh.2.2)]
        simp only [FiPathHolds, iGraphOk_ok hN hs, h, Option.bind_some, Bool.not_true, cond_false, FiGraph_hasNode, h0, h1, decide_true, cond_true, decide_false, Bool.not_false, Sum.elim_inr]
    · rw [heldBy_out (fun hh => h0 hh.2.1)]
      simp only [FiPathHolds, iGraphOk_ok hN hs, h, Option.bind_some, Bool.not_true, cond_false, FiGraph_hasNode, h0, cond_true, decide_false, Bool.not_false, Sum.elim_inr]
end

section
variable {N : Nat} (hN : lim < N)
include hN

theorem sl5Refs_ok {xs : List Int} {m : Nat} (hx : sm xs.length) : Fsl5Refs N (xs, (m : Int), ()) = some (okR m xs, ()) := by
  have hl := sm_lim hx
  have hL := all_loop (xs := xs) (n := N) (fun x => decide (-1 ≤ x) && decide (x < (m : Int))) (L := fun n i => lsl5Refs_0 N n (xs, (m : Int), (i : Int), ())) (yes := .inl ()) (no := .inr (false, ())) hl
    (fun n i h hw hq => by
      simp at hq
      simp [lsl5Refs_0, h, hw, Int.not_lt.2 hq.1, Int.not_le.2 hq.2])
    (fun n i h hq => by
      simp at hq
      by_cases h1 : xs[i] < -1
      · simp [lsl5Refs_0, h, h1]
      · simp [lsl5Refs_0, h, h1, hq (by omega)])
    (fun n => by simp [lsl5Refs_0]) (by omega)
  simp only [Int.natCast_zero] at hL
  simp only [Fsl5Refs, hL, okR]
  cases xs.all (fun x => decide (-1 ≤ x) && decide (x < (m : Int))) <;> simp

theorem sGraphOk_ok {g : Gr} (hx : smG g) : FsGraphOk N (g, ()) = some (okG g, ()) := by
  obtain ⟨a1, a2, a3, a4, a5⟩ := hx
  have h1 := all_loop (xs := g.1) (n := N) (okN g.1.length) (L := fun n i => lsGraphOk_0 N n (g, (i : Int), ())) (yes := .inl (g, ())) (no := .inr (false, ())) (sm_lim a1)
    (fun n i h hw hq => by
      simp [okN] at hq
      simp [lsGraphOk_0, h, hw, sl5Refs_ok hN (a2 _ (List.getElem_mem h)).1, hq, Nat.not_lt.2 hq.1, Nat.not_lt.2 hq.2.1])
    (fun n i h hq => by
      simp [lsGraphOk_0, h, sl5Refs_ok hN (a2 _ (List.getElem_mem h)).1]
      simp [okN] at hq
      by_cases h1 : g.1[i].1.length ≤ 4 <;> by_cases h2 : g.1[i].2.1.length ≤ 4 <;> simp_all)
    (fun n => by simp [lsGraphOk_0]) (by have := sm_lim a1; omega)
  have h2 := all_loop (xs := g.2.1) (n := N) (fun r => decide (r.length ≤ 8) && okR g.1.length r) (L := fun n i => lsGraphOk_2 N n (g, (i : Int), ())) (yes := .inl (g, ())) (no := .inr (false, ())) (sm_lim a3)
    (fun n i h hw hq => by
      simp at hq
      simp [lsGraphOk_2, h, hw, sl5Refs_ok hN (a4 _ (List.getElem_mem h)), hq, Nat.not_lt.2 hq.1])
    (fun n i h hq => by
      simp [lsGraphOk_2, h, sl5Refs_ok hN (a4 _ (List.getElem_mem h))]
      simp at hq
      by_cases h1 : g.2.1[i].length ≤ 8 <;> simp_all)
    (fun n => by simp [lsGraphOk_2]) (by have := sm_lim a3; omega)
  have h3 := all_loop (xs := g.2.2.1) (n := N) (fun x => decide (0 ≤ x)) (L := fun n i => lsGraphOk_4 N n (g, (i : Int), ())) (yes := .inl (g, ())) (no := .inr (false, ())) (sm_lim a5)
    (fun n i h hw hq => by
      simp at hq
      simp [lsGraphOk_4, h, hw, Int.not_lt.2 hq])
    (fun n i h hq => by
      simp at hq
      simp [lsGraphOk_4, h, hq])
    (fun n => by simp [lsGraphOk_4]) (by have := sm_lim a5; omega)
  simp only [Int.natCast_zero] at h1 h2 h3
  simp only [FsGraphOk, okG]
  by_cases b1 : g.1.length ≤ 200
  · by_cases b2 : 1 ≤ g.2.1.length
    · by_cases b3 : g.2.1.length ≤ 3
      · have c1 : ¬ ((g.1.length : Int) > 200) := by omega
        have c2 : ¬ ((g.2.1.length : Int) < 1) := by omega
        have c3 : ¬ ((g.2.1.length : Int) > 3) := by omega
        simp only [c1, c2, c3, b1, b2, b3, decide_true, decide_false, cond_false, Option.bind_some, Sum.elim_inl, h1, Bool.true_and]
        cases g.1.all (okN g.1.length)
        · simp
        · simp only [cond_true, Option.bind_some, Sum.elim_inl, h2, Bool.true_and]
          cases g.2.1.all (fun r => decide (r.length ≤ 8) && okR g.1.length r)
          · simp
          · simp only [cond_true, Option.bind_some, Sum.elim_inl, h3, Bool.true_and, sl5Refs_ok hN a5]
            by_cases b4 : g.2.2.1.length ≤ 8
            · have c4 : ((g.2.2.1.length : Int) ≤ 8) := by omega
              cases g.2.2.1.all (fun x => decide (0 ≤ x)) <;> simp [b4, c4, sl5Refs_ok hN a5]
            · have c4 : ¬ ((g.2.2.1.length : Int) ≤ 8) := by omega
              cases g.2.2.1.all (fun x => decide (0 ≤ x)) <;> simp [b4, c4, sl5Refs_ok hN a5]
      · have c1 : ¬ ((g.1.length : Int) > 200) := by omega
        have c2 : ¬ ((g.2.1.length : Int) < 1) := by omega
        have c3 : ((g.2.1.length : Int) > 3) := by omega
        simp [c1, c2, c3, b3]
    · have c1 : ¬ ((g.1.length : Int) > 200) := by omega
      have c2 : ((g.2.1.length : Int) < 1) := by omega
      simp [c1, c2, b2]
  · have c1 : ((g.1.length : Int) > 200) := by omega
    simp [c1, b1]

end

section
variable {N : Nat} (hN : lim < N)
include hN

theorem sl5Order_roots {g : Gr} (h : okG g = true) {k : Nat} (hk : k < g.2.1.length) {st : Mst} (hst : Met g.1.length st) :
    lsl5Order_2 N N (g, (k : Int), 0, st.1, st.2, ()) = some (g, (k : Int), (g.2.1[k].foldl meet st).1, (g.2.1[k].foldl meet st).2, ()) := by
  have hg := okG_iff.1 h
  have hs := okG_small hN h
  have := meets_loop hN (xs := g.2.1[k]) (m := g.1.length) (rootsrng h _ (List.getElem_mem hk)) hg.1 (sm_lim (hs.2.2.2.1 _ (List.getElem_mem hk)))
    (L := fun n i st => lsl5Order_2 N n (g, (k : Int), (i : Int), st.1, st.2, ())) (fin := fun st => (g, (k : Int), st.1, st.2, ()))
    (fun n i st hi hw hI hb hlim => by
      by_cases h0 : 0 ≤ g.2.1[k][i]
      · have hb := hb h0
        cases hh : st.2.getD g.2.1[k][i].toNat false with
        | false => 
          have hh' := hh
          rw [getD_lt hb] at hh'
          simp [lsl5Order_2, hk, hi, hw, h0, hb, hlim, meet, hh']
        | true =>
          have hh' := hh
          rw [getD_lt hb] at hh'
          simp [lsl5Order_2, hk, hi, hw, h0, hb, hlim, meet, hh']
      · simp [lsl5Order_2, hk, hi, hw, h0, meet])
    (fun n st hI => by simp [lsl5Order_2, hk]) hst
  simpa using this

theorem sl5Order_ok {g : Gr} (h : okG g = true) : Fsl5Order N (g, ()) = some (order g, ()) := by
  have hg := okG_iff.1 h
  have hs := okG_small hN h
  have e1 := roots_loop hN (ls := g.2.1) (m := g.1.length) (rootsrng h) (sm_lim hs.2.2.1) (L := fun n i st => lsl5Order_0 N n (g, (i : Int), st.1, st.2, ())) (fin := fun st => (g, st.1, st.2, ()))
    (fun n i st hi hw hI => by simp [lsl5Order_0, hi, hw, sl5Order_roots hN h hi hI])
    (fun n st hI => by simp [lsl5Order_0]) (met0_ok _)
  have hb := roots_met (met0_ok g.1.length) (rootsrng h)
  have e2 := meets_loop hN (xs := g.2.2.1) (m := g.1.length) (pinsrng h) hg.1 (sm_lim hs.2.2.2.2)
    (L := fun n i st => lsl5Order_4 N n (g, (i : Int), st.1, st.2, ())) (fin := fun st => (g, st.1, st.2, ()))
    (fun n i st hi hw hI hb hlim => by
      have h0 := hg.2.2.2.2.2.2.1 _ (List.getElem_mem hi)
      have hb := hb h0
      cases hh : st.2.getD g.2.2.1[i].toNat false with
      | false => 
        have hh' := hh
        rw [getD_lt hb] at hh'
        simp [lsl5Order_4, hi, hw, h0, hb, hlim, meet, hh']
      | true =>
        have hh' := hh
        rw [getD_lt hb] at hh'
        simp [lsl5Order_4, hi, hw, h0, hb, hlim, meet, hh'])
    (fun n st hI => by simp [lsl5Order_4]) hb
  have e3 : ∀ k st, Met g.1.length st → ∀ (r : Int) (hr : r.toNat < g.1.length), lsl5Order_8 N N (g, k, refsOf g r, (0 : Int), st.1, st.2, ()) = some (g, k, ((refsOf g r).foldl meet st).1, ((refsOf g r).foldl meet st).2, ()) := by
    intro k st hst r hr
    have hsm : (refsOf g r).length ≤ lim := by
      unfold refsOf; rw [getD_lt hr]; exact sm_lim (hs.2.1 _ (List.getElem_mem hr)).1
    have := meets_loop hN (xs := refsOf g r) (m := g.1.length) (refs_rng h r) hg.1 hsm
      (L := fun n i st => lsl5Order_8 N n (g, k, refsOf g r, (i : Int), st.1, st.2, ())) (fin := fun st => (g, k, st.1, st.2, ()))
      (fun n i st hi hw hI hb hlim => by
        by_cases h0 : 0 ≤ (refsOf g r)[i]
        · have hb := hb h0
          cases hh : st.2.getD (refsOf g r)[i].toNat false with
          | false => 
            have hh' := hh
            rw [getD_lt hb] at hh'
            simp [lsl5Order_8, hi, hw, h0, hb, hlim, meet, hh']
          | true =>
            have hh' := hh
            rw [getD_lt hb] at hh'
            simp [lsl5Order_8, hi, hw, h0, hb, hlim, meet, hh']
        · simp [lsl5Order_8, hi, hw, h0, meet])
      (fun n st hI => by simp [lsl5Order_8]) hst
    simpa using this
  have hb2 : Met g.1.length (begin0 g) := begin0_ok h
  have e4 := walk_loop hN (R := refsOf g) (m := g.1.length) (fun r _ _ => refs_rng h r) hg.1 (L := fun n i st => lsl5Order_6 N n (g, (i : Int), st.1, st.2, ())) (fin := fun st => (st.1, ()))
    (fun n i st hi hw hI => by
      have hr := hI.rng _ (List.getElem_mem hi)
      have hr' : st.1[i].toNat < g.1.length := by omega
      have e := e3 (i : Int) st hI st.1[i] hr'
      simp only [refsOf, getD_lt hr'] at e ⊢
      simp [lsl5Order_6, hi, hw, hr.1, hr', e])
    (fun n i st hi hI => by simp [lsl5Order_6, hi]) hb2
  simp only [Int.natCast_zero] at e1 e2 e4
  have hl := sm_lim hs.1
  simp only [met0] at e1
  simp only [Fsl5Order, Int.natCast_nonneg, decide_true, cond_true, Int.toNat_natCast, hl, e1, Option.bind_some]
  simp only [met0] at e2
  rw [e2]
  simp only [Option.bind_some]
  have e5 : begin0 g = (g.2.2.1.foldl meet (g.2.1.foldl (fun s l => l.foldl meet s) ([], List.replicate g.1.length false))) := rfl
  rw [← e5, e4]
  rfl

end

section
variable {N : Nat} (hN : lim < N)
include hN

theorem sGraphReach_ok {g : Gr} (hs : smG g) : FsGraphReach N (g, ()) = some (if okG g = true then reachL g else [], ()) := by
  cases h : okG g with
  | false => simp [FsGraphReach, sGraphOk_ok hN hs, h]
  | true =>
    have hg := okG_iff.1 h
    have ho : (order g).length ≤ lim := by have := order_le h; rw [lim_eq]; omega
    have hl := sm_lim hs.1
    have e := (fold_loop (xs := order g) (n := N) (fun o r => o.set r.toNat true) (fun _ s => s.length = g.1.length)
      (L := fun n i s => lsGraphReach_0 N n ((i : Int), s, order g, ())) (fin := fun s => (s, ())) ho
      (fun n i s hi hw hI => by
        have hr := order_rng h _ (List.getElem_mem hi)
        have hr' : (order g)[i].toNat < s.length := by omega
        refine ⟨?_, by simpa using hI⟩
        simp [lsGraphReach_0, hi, hw, hr.1, hr'])
      (fun n s hI => by simp [lsGraphReach_0]) (by omega) (s := List.replicate g.1.length false) (by simp)).1
    simp only [Int.natCast_zero] at e
    simp [FsGraphReach, sGraphOk_ok hN hs, h, hl, sl5Order_ok hN h, e, reachL, mark]
end

section
variable {N : Nat} (hN : lim < N)
include hN

theorem sl5Ints_ok {xs : List Int} (hl : xs.length ≤ lim) : Fsl5Ints N (xs, ()) = some (xs, ()) := by
  simp [Fsl5Ints, hl]

end

section
variable {N : Nat} (hN : lim < N)
include hN

theorem sl5Copy_ok {g : Gr} (hs : smG g) : Fsl5Copy N (g, ()) = some g := by
  obtain ⟨a1, a2, a3, a4, a5⟩ := hs
  have l1 := sm_lim a1
  have l3 := sm_lim a3
  have e1 := fun Q => (fold_loop (xs := g.1) (n := N) (fun s x => s ++ [x]) (fun i s => s.length = i)
    (L := fun n i s => lsl5Copy_0 N n (g, (i : Int), s, ([] : List (List Int)), Q, ())) (fin := fun s => (g, s, ([] : List (List Int)), Q, ())) l1
    (fun n i s h hw hI => by
      subst hI
      have hlim : s.length + 1 ≤ lim := by omega
      have hx := a2 _ (List.getElem_mem h)
      simp [lsl5Copy_0, h, hw, sl5Ints_ok hN (sm_lim hx.1), sl5Ints_ok hN (sm_lim hx.2), hlim])
    (fun n s hI => by simp [lsl5Copy_0]) (by omega) (s := []) rfl).1
  have e2 := fun S Q => (fold_loop (xs := g.2.1) (n := N) (fun s x => s ++ [x]) (fun i s => s.length = i)
    (L := fun n i s => lsl5Copy_2 N n (g, (i : Int), S, s, Q, ())) (fin := fun s => (S, s, Q, ())) l3
    (fun n i s h hw hI => by
      subst hI
      have hlim : s.length + 1 ≤ lim := by omega
      have hx := a4 _ (List.getElem_mem h)
      simp [lsl5Copy_2, h, hw, sl5Ints_ok hN (sm_lim hx), hlim])
    (fun n s hI => by simp [lsl5Copy_2]) (by omega) (s := []) rfl).1
  have f1 := foldl_push (fun x : Nd => x) g.1 []
  have f2 := foldl_push (fun x : List Int => x) g.2.1 []
  simp only [Int.natCast_zero, f1, f2, List.nil_append, List.map_id'] at e1 e2
  simp [Fsl5Copy, sl5Ints_ok hN (sm_lim a5), e1, e2]
end

section
variable {N : Nat} (hN : lim < N)
include hN

theorem less0 {a : Int} {ns : List Nd} {rs : List (List Int)} {ps : List Int} (hl : ns.length ≤ lim) (hx : ∀ x ∈ ns, x.1.length ≤ lim) :
    lsl17Less_0 N N (a, 0, ns, rs, ps, ()) = some (a, ns.map (fun x => (cutA a x.1, x.2)), rs, ps, ()) := by
  have e := turn_loop (xs := ns) (n := N) (fun x => (cutA a x.1, x.2)) (L := fun n i s => lsl17Less_0 N n (a, (i : Int), s, rs, ps, ())) (fin := fun s => (a, s, rs, ps, ())) hl
    (fun n i s h h' hw hs he => by
      have hlen := hx _ (List.getElem_mem h)
      have e := turn_loop (xs := ns[i].1) (n := N) (fun r => if r = a then -1 else r) (L := fun n k x => lsl17Less_2 N n (a, (i : Int), (k : Int), s.set i (x, ns[i].2), rs, ps, ())) (fin := fun x => (a, (i : Int), s.set i (x, ns[i].2), rs, ps, ())) hlen
        (fun n k x hk hk' hw2 hx2 he2 => by
          by_cases hq : ns[i].1[k] = a
          · simp [lsl17Less_2, h', hk, hk', hw2, he2, hq]
          · have e2 : x.set k ns[i].1[k] = x := by rw [← he2]; exact List.set_getElem_self _
            simp [lsl17Less_2, h', hk, hk', hw2, he2, hq, e2])
        (fun n x hx2 => by simp [lsl17Less_2, h', hx2]) (by omega)
      have e0 : s.set i (ns[i].1, ns[i].2) = s := by
        have : (ns[i].1, ns[i].2) = s[i] := by rw [he]
        rw [this]; exact List.set_getElem_self _
      simp only [Int.natCast_zero, e0] at e
      simp only [lsl17Less_0, hs, Int.ofNat_lt, h, decide_true, cond_true, e, Option.bind_some, hw]
      rfl)
    (fun n s hs => by simp [lsl17Less_0, hs]) (by omega)
  simpa only [Int.natCast_zero] using e

theorem less4 {a : Int} {ns : List Nd} {rs : List (List Int)} {ps : List Int} (hl : rs.length ≤ lim) (hx : ∀ x ∈ rs, x.length ≤ lim) :
    lsl17Less_4 N N (a, 0, ns, rs, ps, ()) = some (a, ns, rs.map (cutA a), ps, ()) := by
  have e := turn_loop (xs := rs) (n := N) (cutA a) (L := fun n i s => lsl17Less_4 N n (a, (i : Int), ns, s, ps, ())) (fin := fun s => (a, ns, s, ps, ())) hl
    (fun n i s h h' hw hs he => by
      have hlen := hx _ (List.getElem_mem h)
      have e := turn_loop (xs := rs[i]) (n := N) (fun r => if r = a then -1 else r) (L := fun n k x => lsl17Less_6 N n (a, (i : Int), (k : Int), ns, s.set i x, ps, ())) (fin := fun x => (a, (i : Int), ns, s.set i x, ps, ())) hlen
        (fun n k x hk hk' hw2 hx2 he2 => by
          by_cases hq : rs[i][k] = a
          · simp [lsl17Less_6, h', hk, hk', hw2, he2, hq]
          · have e2 : x.set k rs[i][k] = x := by rw [← he2]; exact List.set_getElem_self _
            simp [lsl17Less_6, h', hk, hk', hw2, he2, hq, e2])
        (fun n x hx2 => by simp [lsl17Less_6, h', hx2]) (by omega)
      have e0 : s.set i rs[i] = s := by rw [← he]; exact List.set_getElem_self _
      simp only [Int.natCast_zero, e0] at e
      simp only [lsl17Less_4, hs, Int.ofNat_lt, h, decide_true, cond_true, e, Option.bind_some, hw]
      rfl)
    (fun n s hs => by simp [lsl17Less_4, hs]) (by omega)
  simpa only [Int.natCast_zero] using e

theorem less8 {a : Int} {ns : List Nd} {rs : List (List Int)} {ps : List Int} (hl : ps.length ≤ lim) :
    lsl17Less_8 N N (a, 0, ns, rs, ps, [], ()) = some (ns, rs, ps, ps.filter (fun x => decide (x ≠ a)), ()) := by
  have e := (fold_loop (xs := ps) (n := N) (fun s x => if decide (x ≠ a) = true then s ++ [x] else s) (fun i s => s.length ≤ i) (L := fun n i s => lsl17Less_8 N n (a, (i : Int), ns, rs, ps, s, ()))
    (fin := fun s => (ns, rs, ps, s, ())) hl
    (fun n i s hi hw hI => by
      have hlim : s.length + 1 ≤ lim := by omega
      by_cases hq : ps[i] = a
      · exact ⟨by simp [lsl17Less_8, hi, hw, hq], by simp [hq]; omega⟩
      · have e : (ps[i] != a) = true := by simp [hq]
        exact ⟨by simp [lsl17Less_8, hi, hw, hq, hlim, e], by simp [hq]; omega⟩)
    (fun n s hI => by simp [lsl17Less_8]) (by omega) (s := []) (by simp)).1
  rw [foldl_filter (p := fun x => decide (x ≠ a))] at e
  simpa only [Int.natCast_zero, List.nil_append] using e

theorem sl17Less_ok {g : Gr} (hs : smG g) (a : Int) : Fsl17Less N (g, a, ()) = some (less g a) := by
  have h0 := less0 hN (a := a) (ns := g.1) (rs := g.2.1) (ps := g.2.2.1) (sm_lim hs.1) (fun x hx => sm_lim (hs.2.1 x hx).1)
  have h4 := less4 hN (a := a) (ns := g.1.map (fun x => (cutA a x.1, x.2))) (rs := g.2.1) (ps := g.2.2.1) (sm_lim hs.2.2.1) (fun x hx => sm_lim (hs.2.2.2.1 x hx))
  have h8 := less8 hN (a := a) (ns := g.1.map (fun x => (cutA a x.1, x.2))) (rs := g.2.1.map (cutA a)) (ps := g.2.2.1) (sm_lim hs.2.2.2.2)
  simp only [Fsl17Less, sl5Copy_ok hN hs, Option.bind_some, h0, h4, h8, less]

theorem holds_s {g : Gr} (h : okG g = true) (a : Int) : lsPathHolds_0 N N (0, reachL g, reachL (less g a), [], ()) = some ((upto g.1.length).filter (heldB g a), ()) := by
  have hg := okG_iff.1 h
  have hl := less_ok h a
  have r1 := reachL_len g
  have r2 := reachL_len (less g a)
  have r3 : (less g a).1.length = g.1.length := by simp [less]
  have e := (fold_loop (xs := upto g.1.length) (n := N) (fun s x => if heldB g a x = true then s ++ [x] else s) (fun i s => s.length ≤ i) (L := fun n i s => lsPathHolds_0 N n ((i : Int), reachL g, reachL (less g a), s, ())) (fin := fun s => (s, ()))
    (by rw [lim_eq, upto_len]; omega)
    (fun n i s hi hw hI => by
      have hi' : i < g.1.length := by simpa [upto_len] using hi
      have hlim : s.length + 1 ≤ lim := by rw [lim_eq]; omega
      have k1 : i < (reachL g).length := by omega
      have k2 : i < (reachL (less g a)).length := by omega
      have b1 : (reachL g).getD i false = true ↔ Rch (refsOf g) (-1) (begins g) i := by rw [reachL_get h, order_all h]
      have b2 : (reachL (less g a)).getD i false = true ↔ Rch (refsOf g) a (begins g) i := by rw [reachL_get hl, order_less h]
      have h4 : heldB g a i = ((reachL g).getD i false && !(reachL (less g a)).getD i false) := by
        rw [Bool.eq_iff_iff, heldB_iff, Bool.and_eq_true, b1, ← b2, Bool.not_eq_true, Bool.not_eq_true']
      rw [upto_get hi, h4]
      simp only [lsPathHolds_0, Int.ofNat_lt, k1, k2, decide_true, cond_true, Int.natCast_nonneg, Int.toNat_natCast, hw, List.length_cons, List.length_nil, Nat.zero_add, hlim]
      cases (reachL g).getD i false <;> cases (reachL (less g a)).getD i false <;> exact ⟨rfl, by simp; omega⟩)
    (fun n s hI => by simp [lsPathHolds_0, upto_len, r1]) (by rw [lim_eq] at hN; rw [upto_len]; omega) (s := []) (by simp)).1
  rw [foldl_filter] at e
  simpa using e

theorem sPathHolds_ok {g : Gr} (hs : smG g) (a : Int) : FsPathHolds N (g, a, ()) = some (heldBy g a, ()) := by
  cases h : okG g with
  | false => simp [FsPathHolds, sGraphOk_ok hN hs, h, heldBy]
  | true =>
    by_cases h0 : a < 0
    · have : ¬ 0 ≤ a := by omega
      simp [FsPathHolds, sGraphOk_ok hN hs, h, h0, heldBy, this]
    · by_cases h1 : a ≥ (g.1.length : Int)
      · have : ¬ a < (g.1.length : Int) := by omega
        rw [heldBy_out (fun hh => this hh.2.2)]
        simp only [FsPathHolds, sGraphOk_ok hN hs, h, Option.bind_some, Bool.not_true, cond_false, h0, decide_false, h1, decide_true, cond_true, Sum.elim_inr]
      · rw [heldBy_in ⟨h, by omega, by omega⟩]
        have hl := less_ok h a
        have e1 := sGraphReach_ok hN hs
        have e2 := sGraphReach_ok hN (okG_small hN hl)
        simp only [h, hl, if_true] at e1 e2
        have e3 : (less g a) = ((less g a).1, (less g a).2.1, (less g a).2.2.1, ()) := rfl
        rw [e3] at e2
        simp only [FsPathHolds, sGraphOk_ok hN hs, h, Option.bind_some, Bool.not_true, cond_false, h0, decide_false, h1, Sum.elim_inl, e1, sl17Less_ok hN hs, e2, holds_s hN h a]
end

/-- Numbers one behind the other. -/
def markI (k : Int) : Nat → List Int
  | 0 => []
  | n + 1 => k :: markI (k + 1) n

theorem markI_len : ∀ (n : Nat) (k : Int), (markI k n).length = n
  | 0, _ => rfl
  | n + 1, k => by simp [markI, markI_len n]

theorem markI_get : ∀ (n : Nat) (k : Int) (i : Nat) (h : i < (markI k n).length), (markI k n)[i] = k + i
  | 0, _, _, h => absurd h (Nat.not_lt_zero _)
  | n + 1, k, 0, _ => by simp [markI]
  | n + 1, k, i + 1, h => by
    simp only [markI, List.getElem_cons_succ]
    rw [markI_get n (k + 1) i]
    omega

theorem set_take {α : Type} {s : List α} {i : Nat} {x : α} (h : i < s.length) : (s.set i x).take (i + 1) = s.take i ++ [x] := by
  rw [List.take_succ_eq_append_getElem (by simpa using h)]
  simp [List.take_set_of_le]

section
variable {N : Nat} (hN : lim < N)
include hN

theorem vmarkIntS_ok {k : Int} {xs : List Int} (hl : xs.length ≤ lim) (h0 : 0 ≤ k) (h1 : k < 2305843009213693952) : FvmarkIntS N (k, xs, ()) = some (k + xs.length, markI k xs.length, ()) := by
  have hlim : lim = 2147483648 := rfl
  have key : ∀ (n i : Nat) (k : Int) (s : List Int), i ≤ s.length → s.length - i < n → s.length ≤ lim → 0 ≤ k → k < 2305843009213693952 + i → lvmarkIntS_0 N n (k, (i : Int), s, ()) = some (k + (s.length - i : Nat), s.take i ++ markI k (s.length - i), ()) := by
    intro n
    induction n with
    | zero => intro i k s _ h; exact absurd h (Nat.not_lt_zero _)
    | succ n ih =>
      intro i k s hi hn hs hk hk'
      by_cases h : i < s.length
      · have w1 : w64 ((i : Int) + 1) = ((i + 1 : Nat) : Int) := w64_succ (by omega)
        have w2 : w64 (k + 1) = k + 1 := w64_id (by omega) (by omega)
        have := ih (i + 1) (k + 1) (s.set i k) (by simp; omega) (by simp; omega) (by simpa using hs) (by omega) (by omega)
        simp only [lvmarkIntS_0, w1, w2]
        simp only [Int.ofNat_lt, h, decide_true, cond_true, Int.natCast_nonneg, Int.toNat_natCast, this, List.length_set, set_take h]
        have e : s.length - i = (s.length - (i + 1)) + 1 := by omega
        rw [e]
        simp only [markI, List.append_assoc, List.cons_append, List.nil_append]
        congr 2
        omega
      · have : i = s.length := by omega
        subst this
        simp [lvmarkIntS_0, markI]
  have := key N 0 k xs (by omega) (by omega) hl h0 (by omega)
  simp only [Int.natCast_zero, Nat.sub_zero, List.take_zero, List.nil_append] at this
  simp [FvmarkIntS, this]
end

def markNs : Int → List Nd → Int × List Nd
  | k, [] => (k, [])
  | k, x :: r => ((markNs (k + x.1.length + x.2.1.length) r).1, (markI k x.1.length, markI (k + x.1.length) x.2.1.length, ()) :: (markNs (k + x.1.length + x.2.1.length) r).2)
def markIs : Int → List (List Int) → Int × List (List Int)
  | k, [] => (k, [])
  | k, x :: r => ((markIs (k + x.length) r).1, markI k x.length :: (markIs (k + x.length) r).2)
def markGr (k : Int) (g : Gr) : Int × Gr :=
  ((markIs (markNs k g.1).1 g.2.1).1 + g.2.2.1.length, (markNs k g.1).2, (markIs (markNs k g.1).1 g.2.1).2, markI (markIs (markNs k g.1).1 g.2.1).1 g.2.2.1.length, ())

theorem markNs_rng : ∀ {xs : List Nd} (k : Int), (∀ x ∈ xs, smN x) → k ≤ (markNs k xs).1 ∧ (markNs k xs).1 ≤ k + 2097152 * xs.length
  | [], k, _ => by simp [markNs]
  | x :: r, k, h => by
    have hx := h x (by simp)
    simp only [smN, sm] at hx
    have := markNs_rng (xs := r) (k + x.1.length + x.2.1.length) (fun y hy => h y (by simp [hy]))
    simp only [markNs, List.length_cons]
    omega

theorem markIs_rng : ∀ {xs : List (List Int)} (k : Int), (∀ x ∈ xs, sm x.length) → k ≤ (markIs k xs).1 ∧ (markIs k xs).1 ≤ k + 1048576 * xs.length
  | [], k, _ => by simp [markIs]
  | x :: r, k, h => by
    have hx := h x (by simp)
    simp only [sm] at hx
    have := markIs_rng (xs := r) (k + x.length) (fun y hy => h y (by simp [hy]))
    simp only [markIs, List.length_cons]
    omega

theorem markNs_len : ∀ {xs : List Nd} (k : Int), (markNs k xs).2.length = xs.length
  | [], _ => rfl
  | x :: r, k => by simp [markNs, markNs_len]
theorem markIs_len : ∀ {xs : List (List Int)} (k : Int), (markIs k xs).2.length = xs.length
  | [], _ => rfl
  | x :: r, k => by simp [markIs, markIs_len]

section
variable {N : Nat} (hN : lim < N)
include hN

theorem vmarkNodeS_ok {k : Int} {xs : List Nd} (hl : xs.length ≤ 1048576) (hx : ∀ x ∈ xs, smN x) (h0 : 0 ≤ k) (h1 : k < 1000000000000) : FvmarkNodeS N (k, xs, ()) = some ((markNs k xs).1, (markNs k xs).2, ()) := by
  have hlim : lim = 2147483648 := rfl
  have key : ∀ (n i : Nat) (k : Int) (s : List Nd), i ≤ s.length → s.length - i < n → s.length ≤ 1048576 → (∀ x ∈ s.drop i, smN x) → 0 ≤ k → k < 1000000000000 + 2097152 * i →
      lvmarkNodeS_0 N n (k, (i : Int), s, ()) = some ((markNs k (s.drop i)).1, s.take i ++ (markNs k (s.drop i)).2, ()) := by
    intro n
    induction n with
    | zero => intro i k s _ h; exact absurd h (Nat.not_lt_zero _)
    | succ n ih =>
      intro i k s hi hn hs hx hk hk'
      by_cases h : i < s.length
      · have w1 : w64 ((i : Int) + 1) = ((i + 1 : Nat) : Int) := w64_succ (by omega)
        rw [drop_at h] at hx
        have hxi := hx s[i] List.mem_cons_self
        simp only [smN, sm] at hxi
        have e1 := vmarkIntS_ok hN (k := k) (xs := s[i].1) (by omega) hk (by omega)
        have e2 := vmarkIntS_ok hN (k := k + s[i].1.length) (xs := s[i].2.1) (by omega) (by omega) (by omega)
        have := ih (i + 1) (k + s[i].1.length + s[i].2.1.length) ((s.set i (markI k s[i].1.length, s[i].2)).set i (markI k s[i].1.length, markI (k + s[i].1.length) s[i].2.1.length, ())) (by simp; omega) (by simp; omega) (by simpa using hs)
          (by
            rw [List.drop_set_of_lt (by omega), List.drop_set_of_lt (by omega)]
            exact fun x hx' => hx x (List.mem_cons_of_mem _ hx')) (by omega) (by omega)
        have hset : i < (s.set i (markI k s[i].1.length, s[i].2)).length := by simpa using h
        rw [List.drop_set_of_lt (by omega), List.drop_set_of_lt (by omega), set_take hset, List.take_set_of_le (Nat.le_refl _)] at this
        rw [drop_at h]
        simp only [markNs]
        simp only [lvmarkNodeS_0, w1]
        simp only [Int.ofNat_lt, h, decide_true, cond_true, Int.natCast_nonneg, Int.toNat_natCast, getD_lt h, e1, Option.bind_some, hset, getD_lt hset, List.getElem_set_self, e2, this]
        simp
      · have : i = s.length := by omega
        subst this
        simp [lvmarkNodeS_0, markNs]
  have := key N 0 k xs (by omega) (by omega) hl (by simpa using hx) h0 (by omega)
  simp only [Int.natCast_zero, List.drop_zero, List.take_zero, List.nil_append] at this
  simp [FvmarkNodeS, this]

theorem vmarkIntSS_ok {k : Int} {xs : List (List Int)} (hl : xs.length ≤ 1048576) (hx : ∀ x ∈ xs, sm x.length) (h0 : 0 ≤ k) (h1 : k < 10000000000000) : FvmarkIntSS N (k, xs, ()) = some ((markIs k xs).1, (markIs k xs).2, ()) := by
  have hlim : lim = 2147483648 := rfl
  have key : ∀ (n i : Nat) (k : Int) (s : List (List Int)), i ≤ s.length → s.length - i < n → s.length ≤ 1048576 → (∀ x ∈ s.drop i, sm x.length) → 0 ≤ k → k < 10000000000000 + 1048576 * i →
      lvmarkIntSS_0 N n (k, (i : Int), s, ()) = some ((markIs k (s.drop i)).1, s.take i ++ (markIs k (s.drop i)).2, ()) := by
    intro n
    induction n with
    | zero => intro i k s _ h; exact absurd h (Nat.not_lt_zero _)
    | succ n ih =>
      intro i k s hi hn hs hx hk hk'
      by_cases h : i < s.length
      · have w1 : w64 ((i : Int) + 1) = ((i + 1 : Nat) : Int) := w64_succ (by omega)
        rw [drop_at h] at hx
        have hxi := hx s[i] List.mem_cons_self
        simp only [sm] at hxi
        have e1 := vmarkIntS_ok hN (k := k) (xs := s[i]) (by omega) hk (by omega)
        have := ih (i + 1) (k + s[i].length) (s.set i (markI k s[i].length)) (by simp; omega) (by simp; omega) (by simpa using hs)
          (by
            rw [List.drop_set_of_lt (by omega)]
            exact fun x hx' => hx x (List.mem_cons_of_mem _ hx')) (by omega) (by omega)
        rw [List.drop_set_of_lt (by omega), set_take h] at this
        rw [drop_at h]
        simp only [markIs]
        simp only [lvmarkIntSS_0, w1]
        simp only [Int.ofNat_lt, h, decide_true, cond_true, Int.natCast_nonneg, Int.toNat_natCast, getD_lt h, e1, Option.bind_some, this]
        simp
      · have : i = s.length := by omega
        subst this
        simp [lvmarkIntSS_0, markIs]
  have := key N 0 k xs (by omega) (by omega) hl (by simpa using hx) h0 (by omega)
  simp only [Int.natCast_zero, List.drop_zero, List.take_zero, List.nil_append] at this
  simp [FvmarkIntSS, this]

theorem vmarkGraph_ok {k : Int} {g : Gr} (hs : smG g) (h0 : 0 ≤ k) (h1 : k < 1000) : FvmarkGraph N (k, g.1, g.2.1, g.2.2.1, ()) = some ((markGr k g).1, (markGr k g).2) := by
  obtain ⟨a1, a2, a3, a4, a5⟩ := hs
  have b1 := markNs_rng (xs := g.1) k a2
  simp only [sm] at a1 a3 a5
  have b2 := markIs_rng (xs := g.2.1) (markNs k g.1).1 a4
  have c1 : (2097152 : Int) * g.1.length ≤ 2097152 * 1048576 := by omega
  have c2 : (1048576 : Int) * g.2.1.length ≤ 1048576 * 1048576 := by omega
  simp [FvmarkGraph, markGr, vmarkNodeS_ok hN a1 a2 h0 (by omega), vmarkIntSS_ok hN a3 a4 (k := (markNs k g.1).1) (by omega) (by omega), vmarkIntS_ok hN (k := (markIs (markNs k g.1).1 g.2.1).1) (xs := g.2.2.1) (by rw [lim_eq]; omega) (by omega) (by omega)]
end

section
variable {N : Nat} (hN : lim < N)
include hN

theorem vheldIntS_ok {k : Int} {n : Nat} (hl : n ≤ lim) (h0 : 0 ≤ k) (h1 : k < 2305843009213693952) : FvheldIntS N (markI k n, k, ()) = some (k + n, ()) := by
  have hlim : lim = 2147483648 := rfl
  have hlen := markI_len n k
  have key : ∀ (m i : Nat), i ≤ n → n - i < m → lvheldIntS_0 N m (markI k n, k + i, (i : Int), ()) = some (.inl (k + n, ())) := by
    intro m
    induction m with
    | zero => intro i _ h; exact absurd h (Nat.not_lt_zero _)
    | succ m ih =>
      intro i hi hm
      by_cases h : i < n
      · have w1 : w64 ((i : Int) + 1) = ((i + 1 : Nat) : Int) := w64_succ (by omega)
        have w2 : w64 (k + i + 1) = k + ((i + 1 : Nat) : Int) := by rw [w64_id (by omega) (by omega)]; omega
        have h' : i < (markI k n).length := by omega
        have := ih (i + 1) (by omega) (by omega)
        simp only [lvheldIntS_0, w1, w2]
        simp only [Int.ofNat_lt, h', decide_true, cond_true, Int.natCast_nonneg, Int.toNat_natCast, getD_lt h', markI_get n k i h', bif_bne, if_true, this]
      · have : i = n := by omega
        subst this
        simp [lvheldIntS_0, hlen]
  have := key N 0 (by omega) (by omega)
  simp only [Int.natCast_zero, Int.add_zero] at this
  simp [FvheldIntS, this]
end

section
variable {N : Nat} (hN : lim < N)
include hN

omit hN in
theorem markGr_pos {k : Int} {g : Gr} (hs : smG g) (h0 : 0 ≤ k) : 0 ≤ (markGr k g).1 := by
  obtain ⟨a1, a2, a3, a4, a5⟩ := hs
  have b1 := markNs_rng (xs := g.1) k a2
  have b2 := markIs_rng (xs := g.2.1) (markNs k g.1).1 a4
  simp only [markGr]; omega

theorem heldBy_sm (g : Gr) (a : Int) : sm (heldBy g a).length := by
  have := heldBy_len2 g a
  simp only [sm]; omega

theorem FnExactPathHolds_ok {a : Gr} {b : Int} (ha : mlG a) : FvFnExactPathHolds N (a, b, ()) = some (true, ()) := by
  obtain ⟨r1, e1, h1⟩ := vszGraph_ok hN (left := 1048576) ha (by omega) (by omega)
  simp only [FvFnExactPathHolds, e1, Option.bind_some]
  rcases h1 with h1 | ⟨h1, h2, sa⟩
  · simp [h1]
  · have et := heldBy_sm hN a b
    have es := sPathHolds_ok hN sa b
    have ei := iPathHolds_ok hN sa b
    generalize heldBy a b = t at et es ei
    have em1 := vmarkGraph_ok hN (k := 1) sa (by omega) (by omega)
    have hh0 := markGr_pos (k := 1) sa (by omega)
    have em2 := vmarkIntS_ok hN (k := 1) (xs := t) (sm_lim et) (by omega) (by omega)
    have eh := vheldIntS_ok hN (k := 1) (n := t.length) (sm_lim et) (by omega) (by omega)
    generalize markGr 1 a = m1 at em1 hh0
    obtain ⟨k1, g1⟩ := m1
    dsimp only at em1 hh0
    obtain ⟨p, q, r, ⟨⟩⟩ := a
    dsimp only at em1
    have n1 : ¬ k1 < 0 := by omega
    have n2 : ¬ (1 + (t.length : Int)) < 0 := by omega
    simp only [Int.not_lt.2 h1, decide_false, cond_false, vtoGraph_ok hN sa, Option.bind_some, es, ei, veqIntS_ok hN et, veqGraph_ok hN sa, decide_true, Bool.not_true, em1, n1, Sum.elim_inl, em2, eh, n2, bif_bne, if_true]
end
end Go.Fl
