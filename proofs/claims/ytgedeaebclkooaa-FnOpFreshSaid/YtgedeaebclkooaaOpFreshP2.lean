/- Proved: for every input the law FnOpFresh returns true and leaves its arguments as they were. Part 2: the functions that the law reaches, as plain functions, and plain laws about them; no conditions. -/
import Derived.Test.YtgedeaebclkooaaOpFreshP1
set_option linter.all false
set_option linter.all false
set_option maxRecDepth 10000
namespace Go.Fl
open Go
/-- A law's inputs are at most so large. -/
abbrev sm (n : Nat) : Prop := n ≤ 1048576

abbrev Nd := List Int × List Int × Unit

abbrev Gr := List Nd × List (List Int) × List Int × Unit

def smN (x : Nd) : Prop := sm x.1.length ∧ sm x.2.1.length

def smG (g : Gr) : Prop := sm g.1.length ∧ (∀ x ∈ g.1, smN x) ∧ sm g.2.1.length ∧ (∀ x ∈ g.2.1, sm x.length) ∧ sm g.2.2.1.length

abbrev ml (n : Nat) : Prop := n ≤ 9223372036854775807

def mlN (x : Nd) : Prop := ml x.1.length ∧ ml x.2.1.length

def mlG (g : Gr) : Prop := ml g.1.length ∧ (∀ x ∈ g.1, mlN x) ∧ ml g.2.1.length ∧ (∀ x ∈ g.2.1, ml x.length) ∧ ml g.2.2.1.length

/-- A loop that tells what is left, or stops. -/
theorem size_loop {α : Type} {xs : List α} (P : α → Prop) {L : Nat → Nat → Int → Option ((Int × Unit) ⊕ (Int × Unit))} (hl : xs.length ≤ lim)
    (h1 : ∀ n i (h : i < xs.length) (left : Int), 0 ≤ left → left ≤ 1048576 → w64 ((i : Int) + 1) = ((i + 1 : Nat) : Int) →
      L (n + 1) i left = some (.inr (-1, ())) ∨ ∃ r, 0 ≤ r ∧ r ≤ left ∧ P xs[i] ∧ L (n + 1) i left = L n (i + 1) r)
    (h3 : ∀ n left, L (n + 1) xs.length left = some (.inl (left, ()))) {n : Nat} (hn : xs.length < n) {left : Int} (h0 : 0 ≤ left) (h1' : left ≤ 1048576) :
    L n 0 left = some (.inr (-1, ())) ∨ ∃ r, 0 ≤ r ∧ r ≤ left ∧ (∀ x ∈ xs, P x) ∧ L n 0 left = some (.inl (r, ())) := by
  have key : ∀ n i left, 0 ≤ left → left ≤ 1048576 → i ≤ xs.length → xs.length - i < n → L n i left = some (.inr (-1, ())) ∨ ∃ r, 0 ≤ r ∧ r ≤ left ∧ (∀ x ∈ xs.drop i, P x) ∧ L n i left = some (.inl (r, ())) := by
    intro n
    induction n with
    | zero => intro i left _ _ _ h; exact absurd h (Nat.not_lt_zero _)
    | succ n ih =>
      intro i left h0 h2 hi hn
      by_cases h : i < xs.length
      · rcases h1 n i h left h0 h2 (w64_succ (by have : lim = 2147483648 := rfl; omega)) with h4 | ⟨r, h4, h5, h6, h7⟩
        · exact .inl h4
        · rw [h7]
          rcases ih (i + 1) r h4 (by omega) (by omega) (by omega) with h8 | ⟨q, h8, h9, h10, h11⟩
          · exact .inl h8
          · refine .inr ⟨q, h8, by omega, ?_, h11⟩
            rw [drop_at h]
            exact List.forall_mem_cons.2 ⟨h6, h10⟩
      · have : i = xs.length := by omega
        subst this
        exact .inr ⟨left, h0, Int.le_refl _, by simp, h3 _ _⟩
  simpa using key n 0 left h0 h1' (by omega) (by omega)

theorem sm_lim {n : Nat} (h : sm n) : n ≤ lim := by simp only [sm] at h; rw [lim_eq]; omega

theorem wf_u8 {n : Int} (h : (Lit.int .u8 n).wf = true) : 0 ≤ n ∧ n < 256 := by
  simp only [Lit.wf, IntKind.min, IntKind.max, IntKind.signed, IntKind.bits] at h
  simp at h
  omega
theorem wf_i64 {n : Int} (h : (Lit.int .i64 n).wf = true) : -9223372036854775808 ≤ n ∧ n < 9223372036854775808 := by
  simp only [Lit.wf, IntKind.min, IntKind.max, IntKind.signed, IntKind.bits] at h
  simp at h
  omega
section
variable {N : Nat} (hN : lim < N)
include hN

theorem vflInts_ok {xs ys : List Int} (hl : xs.length ≤ lim) : FvflInts N (xs, ys, ()) = some (decide (xs = ys), ()) := by
  by_cases hlen : xs.length = ys.length
  · have hL := eq_loop (xs := xs) (ys := ys) (n := N) (L := fun n i => lvflInts_0 N n (xs, ys, (i : Int), ())) (yes := .inl ()) (no := .inr (false, ())) hl hlen
      (fun n i h1 h2 hw hq => by simp [lvflInts_0, h1, h2, hw, hq])
      (fun n i h1 h2 hq => by simp [lvflInts_0, h1, h2, hq])
      (fun n => by simp [lvflInts_0, hlen]) (by omega)
    simp only [Int.natCast_zero] at hL
    rcases Decidable.em (xs = ys) with rfl | h
    · simp [FvflInts, hL]
    · simp [FvflInts, hL, h, hlen]
  · have h : xs ≠ ys := fun h => hlen (by rw [h])
    have h2 : (xs.length : Int) ≠ ys.length := by omega
    simp [FvflInts, h, h2]
end
section
variable {N : Nat} (hN : lim < N)
include hN

theorem vflNode_ok {x y : Nd} (hx : smN x) : FvflNode N (x, y, ()) = some (decide (x = y), ()) := by
  obtain ⟨a, b, ⟨⟩⟩ := x
  obtain ⟨c, d, ⟨⟩⟩ := y
  have e1 := vflInts_ok hN (xs := a) (ys := c) (sm_lim hx.1)
  have e2 := vflInts_ok hN (xs := b) (ys := d) (sm_lim hx.2)
  simp only [FvflNode, e1, e2, Option.bind_some]
  by_cases h1 : a = c <;> by_cases h2 : b = d <;> simp [h1, h2]

theorem vflGraph_ok {g h : Gr} (hs : smG g) : FvflGraph N (g, h, ()) = some (decide (g = h), ()) := by
  obtain ⟨a1, a2, a3, a4, a5⟩ := hs
  obtain ⟨p, q, r, ⟨⟩⟩ := g
  obtain ⟨p', q', r', ⟨⟩⟩ := h
  dsimp only at a1 a2 a3 a4 a5
  have w1 := vflInts_ok hN (ys := r') (sm_lim a5)
  unfold FvflGraph
  dsimp only
  by_cases l1 : p.length = p'.length
  · by_cases l2 : q.length = q'.length
    · have b1 : ((p.length : Int) != (p'.length : Int)) = false := by simp [l1]
      have b2 : ((q.length : Int) != (q'.length : Int)) = false := by simp [l2]
      have e1 := eq_loop (xs := p) (ys := p') (n := N) (L := fun n i => lvflGraph_0 N n ((p, q, r, ()), (p', q', r', ()), (i : Int), ())) (yes := .inl ((p, q, r, ()), (p', q', r', ()), ())) (no := .inr (false, ())) (sm_lim a1) l1
        (fun n i h1 h2 hw hq => by
          have := vflNode_ok hN (x := p[i]) (y := p'[i]) (a2 _ (List.getElem_mem h1))
          simp only [hq, decide_true] at this
          simp [lvflGraph_0, h1, h2, hw, this, hq])
        (fun n i h1 h2 hq => by
          have := vflNode_ok hN (x := p[i]) (y := p'[i]) (a2 _ (List.getElem_mem h1))
          simp [lvflGraph_0, h1, h2, this, hq])
        (fun n => by simp [lvflGraph_0, l1]) (by rw [lim_eq] at hN; simp only [sm] at a1; omega)
      have e2 := eq_loop (xs := q) (ys := q') (n := N) (L := fun n i => lvflGraph_2 N n ((p, q, r, ()), (p', q', r', ()), (i : Int), ())) (yes := .inl ()) (no := .inr (false, ())) (sm_lim a3) l2
        (fun n i h1 h2 hw hq => by
          have := vflInts_ok hN (xs := q[i]) (ys := q'[i]) (sm_lim (a4 _ (List.getElem_mem h1)))
          simp only [hq, decide_true] at this
          simp [lvflGraph_2, h1, h2, hw, this, hq])
        (fun n i h1 h2 hq => by
          have := vflInts_ok hN (xs := q[i]) (ys := q'[i]) (sm_lim (a4 _ (List.getElem_mem h1)))
          simp [lvflGraph_2, h1, h2, this, hq])
        (fun n => by simp [lvflGraph_2, l2]) (by rw [lim_eq] at hN; simp only [sm] at a3; omega)
      simp only [Int.natCast_zero] at e1 e2
      simp only [b1, b2, cond_false, w1, Option.bind_some]
      by_cases h3 : r = r'
      · simp only [h3, decide_true, Bool.not_true, cond_false, Option.bind_some, Sum.elim_inl]
        subst h3
        rw [e1]
        by_cases h1 : p = p'
        · subst h1
          simp only [decide_true, cond_true, Option.bind_some, Sum.elim_inl, e2]
          by_cases h2 : q = q'
          · subst h2; simp
          · simp [h2]
        · simp [h1]
      · simp [h3]
    · have hne : q ≠ q' := fun h => l2 (by rw [h])
      have b1 : ((p.length : Int) != (p'.length : Int)) = false := by simp [l1]
      have b2 : ((q.length : Int) != (q'.length : Int)) = true := by simp; omega
      simp [b1, b2, hne]
  · have hne : p ≠ p' := fun h => l1 (by rw [h])
    have b1 : ((p.length : Int) != (p'.length : Int)) = true := by simp; omega
    simp [b1, hne]
end
/-- It comes to an end, and what it comes to is so. -/
def Ret {α : Type} (o : Option α) (P : α → Prop) : Prop := ∃ r, o = some r ∧ P r

theorem Ret.pure {α : Type} {a : α} {P : α → Prop} (h : P a) : Ret (some a) P := ⟨a, rfl, h⟩
theorem Ret.bind {α β : Type} {o : Option α} {k : α → Option β} {P : β → Prop} (Q : α → Prop) (h : Ret o Q) (hk : ∀ r, Q r → Ret (k r) P) : Ret (o.bind k) P := by
  obtain ⟨r, e, hr⟩ := h
  rw [e]
  exact hk r hr
theorem Ret.bindE {α β : Type} {o : Option α} {k : α → Option β} {P : β → Prop} {r : α} (e : o = some r) (hk : Ret (k r) P) : Ret (o.bind k) P := by
  rw [e]; exact hk
theorem Ret.mono {α : Type} {o : Option α} {P Q : α → Prop} (h : Ret o P) (hm : ∀ r, P r → Q r) : Ret o Q := by
  obtain ⟨r, e, hr⟩ := h; exact ⟨r, e, hm r hr⟩
theorem Ret.bif {α : Type} {c : Bool} {a b : Option α} {P : α → Prop} (h1 : c = true → Ret a P) (h2 : c = false → Ret b P) : Ret (bif c then a else b) P := by
  cases c with
  | true => exact h1 rfl
  | false => exact h2 rfl
theorem Ret.dec {α : Type} {p : Prop} [Decidable p] {a b : Option α} {P : α → Prop} (h1 : p → Ret a P) (h2 : ¬ p → Ret b P) : Ret (_root_.cond (decide p) a b) P := by
  by_cases h : p
  · simpa [h] using h1 h
  · simpa [h] using h2 h
theorem Ret.guard {α : Type} {p : Prop} [Decidable p] {a : Option α} {P : α → Prop} (hp : p) (h : Ret a P) : Ret (_root_.cond (decide p) a none) P := by
  simpa [hp] using h
theorem Ret.guardN {α : Type} {p : Prop} [Decidable p] {a : Option α} {P : α → Prop} (hp : ¬ p) (h : Ret a P) : Ret (_root_.cond (decide p) none a) P := by
  simpa [hp] using h
theorem Ret.beq {α β : Type} [DecidableEq β] {x y : β} {a b : Option α} {P : α → Prop} (h1 : x = y → Ret a P) (h2 : ¬ x = y → Ret b P) : Ret (_root_.cond (x == y) a b) P := by
  rw [bif_beq]
  by_cases h : x = y
  · simpa [h] using h1 h
  · simpa [h] using h2 h
theorem obind_eq {α β : Type} {o : Option α} {r : α} {k : α → Option β} {z : Option β} (e : o = some r) (h : k r = z) : o.bind k = z := by
  rw [e]; exact h
/-- What a code is: bytes. -/
def byteL (b : List Int) : Prop := b.length ≤ 2000 ∧ ∀ x ∈ b, 0 ≤ x ∧ x < 256

theorem xor_rng {x y : Int} (hx : 0 ≤ x) (hx' : x < 9223372036854775808) (hy : 0 ≤ y) (hy' : y < 9223372036854775808) :
    0 ≤ w64 (((bitsOf .i64 x ^^^ bitsOf .i64 y).toNat : Int)) := by
  have h1 : (bitsOf .i64 x).toNat < 2 ^ 63 := by
    simp only [bitsOf, IntKind.bits, BitVec.toNat_ofInt]; omega
  have h2 : (bitsOf .i64 y).toNat < 2 ^ 63 := by
    simp only [bitsOf, IntKind.bits, BitVec.toNat_ofInt]; omega
  have h3 : (bitsOf .i64 x ^^^ bitsOf .i64 y).toNat < 2 ^ 63 := by
    rw [BitVec.toNat_xor]
    exact Nat.xor_lt_two_pow h1 h2
  rw [w64_id (by omega) (by omega)]
  omega

theorem tmod_rng {x n : Int} (hx : 0 ≤ x) (hn : 1 ≤ n) : 0 ≤ Int.tmod x n ∧ Int.tmod x n < n := by
  rw [Int.tmod_eq_emod_of_nonneg hx]
  exact ⟨Int.emod_nonneg _ (by omega), Int.emod_lt_of_pos _ (by omega)⟩

section
variable {N : Nat}

theorem pick_ok {b : List Int} {p n : Int} (hb : byteL b) (hp : 0 ≤ p) (hp' : p < 1099511627776) :
    ∃ v, Fsl1Rd_pick N (n, b, p, ()) = some (v, b, p + 1, ()) ∧ 0 ≤ v ∧ (v < n ∨ v = 0) := by
  obtain ⟨hl, hx⟩ := hb
  have e1 : w64 (p + 1) = p + 1 := w64_id (by omega) (by omega)
  have e2 : w64 (p + 1 - 1) = p := by rw [w64_id (by omega) (by omega)]; omega
  simp only [Fsl1Rd_pick, e1]
  by_cases hn : n < 1
  · exact ⟨0, by simp [hn], by omega, .inr rfl⟩
  · have hn' : ¬ n = 0 := by omega
    by_cases h0 : b.length = 0
    · have : (b.length : Int) = 0 := by omega
      exact ⟨0, by simp [hn, this], by omega, .inr rfl⟩
    · have h0' : ¬ (b.length : Int) = 0 := by omega
      simp only [hn, decide_false, cond_false, bif_beq, h0', if_false, Option.bind_some, Sum.elim_inl, e2]
      by_cases hk : p < (b.length : Int)
      · have hk' : p.toNat < b.length := by omega
        have := hx _ (List.getElem_mem hk')
        simp only [hk, decide_true, cond_true, hp, hk', getD_lt hk', hn', decide_false, cond_false]
        rw [w64_id (by omega) (by omega)]
        exact ⟨_, rfl, (tmod_rng this.1 (by omega)).1, .inl (tmod_rng this.1 (by omega)).2⟩
      · obtain ⟨a1, a2⟩ := tmod_rng hp (n := (b.length : Int)) (by omega)
        have a3 : (Int.tmod p b.length).toNat < b.length := by omega
        have a4 := hx _ (List.getElem_mem a3)
        have e3 : w64 (p * 7) = p * 7 := w64_id (by omega) (by omega)
        have e4 : w64 (p * 7 + 3) = p * 7 + 3 := w64_id (by omega) (by omega)
        obtain ⟨c1, c2⟩ := tmod_rng (x := p * 7 + 3) (by omega) (n := (b.length : Int)) (by omega)
        have c3 : (Int.tmod (p * 7 + 3) b.length).toNat < b.length := by omega
        have c4 := hx _ (List.getElem_mem c3)
        have e5 : w64 (p * 29) = p * 29 := w64_id (by omega) (by omega)
        have d0 : 0 ≤ Int.tdiv p b.length ∧ Int.tdiv p b.length ≤ p := by
          rw [Int.tdiv_eq_ediv_of_nonneg hp]
          exact ⟨Int.ediv_nonneg hp (by omega), Int.ediv_le_self _ hp⟩
        have e6 : w64 (Int.tdiv p b.length) = Int.tdiv p b.length := w64_id (by omega) (by omega)
        simp only [hk, decide_false, cond_false, h0', a1, a3, decide_true, cond_true, getD_lt a3, e3, e4, c1, c3, getD_lt c3, e5, e6]
        generalize b[(Int.tmod p b.length).toNat] = u at a4 ⊢
        generalize b[(Int.tmod (p * 7 + 3) b.length).toNat] = v at c4 ⊢
        generalize Int.tdiv p b.length = q at d0 ⊢
        have f1 : w64 u = u := w64_id (by omega) (by omega)
        have f2 : w64 v = v := w64_id (by omega) (by omega)
        have f3 : w64 (u * 131) = u * 131 := w64_id (by omega) (by omega)
        have f4 : w64 (v * 1117) = v * 1117 := w64_id (by omega) (by omega)
        have f5 : w64 (u * 131 + v * 1117) = u * 131 + v * 1117 := w64_id (by omega) (by omega)
        have f6 : w64 (u * 131 + v * 1117 + p * 29) = u * 131 + v * 1117 + p * 29 := w64_id (by omega) (by omega)
        have f7 : w64 (q * 53) = q * 53 := w64_id (by omega) (by omega)
        have f8 : w64 (u * 131 + v * 1117 + p * 29 + q * 53) = u * 131 + v * 1117 + p * 29 + q * 53 := w64_id (by omega) (by omega)
        simp only [f1, f2, f3, f4, f5, f6, f7, f8]
        generalize hz : u * 131 + v * 1117 + p * 29 + q * 53 = z
        have z0 : 0 ≤ z ∧ z < 9223372036854775808 := by omega
        have g0 : 0 ≤ Int.tdiv z 64 ∧ Int.tdiv z 64 ≤ z := by
          rw [Int.tdiv_eq_ediv_of_nonneg z0.1]
          exact ⟨Int.ediv_nonneg z0.1 (by omega), Int.ediv_le_self _ z0.1⟩
        have g1 : w64 (Int.tdiv z 64) = Int.tdiv z 64 := w64_id (by omega) (by omega)
        have hxr := xor_rng z0.1 z0.2 g0.1 (by omega : Int.tdiv z 64 < 9223372036854775808)
        rw [g1]
        have h64 : ¬ (64 : Int) = 0 := by omega
        simp only [h64, decide_false, cond_false, hn']
        exact ⟨_, rfl, (tmod_rng hxr (by omega)).1, .inl (tmod_rng hxr (by omega)).2⟩

theorem pick_bind {β : Type} {b : List Int} {p n : Int} {k : Int × List Int × Int × Unit → Option β} {P : β → Prop} (hb : byteL b) (hp : 0 ≤ p) (hp' : p < 1099511627776)
    (hk : ∀ v, 0 ≤ v → (v < n ∨ v = 0) → Ret (k (v, b, p + 1, ())) P) : Ret ((Fsl1Rd_pick N (n, b, p, ())).bind k) P := by
  obtain ⟨v, e, h1, h2⟩ := pick_ok (N := N) (n := n) hb hp hp'
  exact Ret.bindE e (hk v h1 h2)
end
section
variable {N : Nat}

theorem l20Shape_ok {b : List Int} {p : Int} (hb : byteL b) (hp : 0 ≤ p) (hp' : p < 1099511627700) :
    Ret (Fsl20Shape N (b, p, ())) (fun r => r.2.2.1 = b ∧ p ≤ r.2.2.2.1 ∧ r.2.2.2.1 ≤ p + 3) := by
  unfold Fsl20Shape
  repeat' (first
    | refine pick_bind hb (by omega) (by omega) (fun v a c => ?_)
    | refine Ret.guard (by first | omega | (simp; omega)) ?_
    | refine Ret.beq (fun e => ?_) (fun e => ?_)
    | refine Ret.pure ?_
    | dsimp only)
  all_goals exact ⟨rfl, by omega, by omega⟩

theorem l20Op_ok {n : Int} {b : List Int} {p : Int} (hb : byteL b) (hp : 0 ≤ p) (hp' : p < 1099511627600) :
    Ret (Fsl20Op N (n, b, p, ())) (fun r => r.2.2.2.2.2.2.2.2.1 = b ∧ p ≤ r.2.2.2.2.2.2.2.2.2.1 ∧ r.2.2.2.2.2.2.2.2.2.1 ≤ p + 30) := by
  unfold Fsl20Op
  dsimp only
  refine pick_bind hb (by omega) (by omega) (fun v1 a1 c1 => ?_)
  dsimp only
  refine pick_bind hb (by omega) (by omega) (fun v2 a2 c2 => ?_)
  dsimp only
  refine pick_bind hb (by omega) (by omega) (fun v3 a3 c3 => ?_)
  dsimp only
  refine pick_bind hb (by omega) (by omega) (fun v4 a4 c4 => ?_)
  dsimp only
  refine pick_bind hb (by omega) (by omega) (fun v5 a5 c5 => ?_)
  dsimp only
  refine Ret.bind (fun o => o.1 = b ∧ p ≤ o.2.1 ∧ o.2.1 ≤ p + 9) ?_ (fun o ho => ?_)
  · repeat' (first
      | refine pick_bind hb (by omega) (by omega) (fun v a c => ?_)
      | refine Ret.dec (fun e => ?_) (fun e => ?_)
      | refine Ret.pure ?_
      | dsimp only)
    all_goals exact ⟨rfl, by omega, by omega⟩
  obtain ⟨b', p1, o⟩ := o
  simp only at ho
  obtain ⟨rfl, h1, h2⟩ := ho
  dsimp only
  refine pick_bind hb (by omega) (by omega) (fun v6 a6 c6 => ?_)
  dsimp only
  refine Ret.bind (fun o => o.1 = b' ∧ p ≤ o.2.1 ∧ o.2.1 ≤ p + 15) ?_ (fun o ho => ?_)
  · repeat' (first
      | refine pick_bind hb (by omega) (by omega) (fun v a c => ?_)
      | refine Ret.bind _ (l20Shape_ok hb (by omega) (by omega)) (fun r hr => ?_)
      | refine Ret.guard (by first | omega | (simp; omega)) ?_
      | refine Ret.dec (fun e => ?_) (fun e => ?_)
      | refine Ret.beq (fun e => ?_) (fun e => ?_)
      | refine Ret.pure ?_
      | dsimp only)
    · exact ⟨hr.1, by have := hr.2; omega, by have := hr.2; omega⟩
    all_goals exact ⟨rfl, by omega, by omega⟩
  obtain ⟨b'', p2, o⟩ := o
  simp only at ho
  obtain ⟨rfl, h3, h4⟩ := ho
  dsimp only
  refine Ret.bind (fun o => o.1 = b'' ∧ p ≤ o.2.1 ∧ o.2.1 ≤ p + 16) ?_ (fun o ho => ?_)
  · repeat' (first
      | refine pick_bind hb (by omega) (by omega) (fun v a c => ?_)
      | refine Ret.beq (fun e => ?_) (fun e => ?_)
      | refine Ret.pure ?_
      | dsimp only)
    all_goals exact ⟨rfl, by omega, by omega⟩
  obtain ⟨b3, p3, o⟩ := o
  simp only at ho
  obtain ⟨rfl, h5, h6⟩ := ho
  dsimp only
  repeat' (first
      | refine pick_bind hb (by omega) (by omega) (fun v a c => ?_)
      | refine Ret.guard (by first | omega | (simp; omega)) ?_
      | refine Ret.beq (fun e => ?_) (fun e => ?_)
      | refine Ret.pure ?_
      | dsimp only)
  all_goals exact ⟨rfl, by omega, by omega⟩
end
def okR (m : Nat) (l : List Int) : Bool := l.all fun x => decide (-1 ≤ x) && decide (x < (m : Int))

def okN (m : Nat) (x : Nd) : Bool := decide (x.1.length ≤ 4) && (decide (x.2.1.length ≤ 4) && okR m x.1)

def okG (g : Gr) : Bool :=
  decide (g.1.length ≤ 200) && (decide (1 ≤ g.2.1.length) && (decide (g.2.1.length ≤ 3) && (g.1.all (okN g.1.length) && (g.2.1.all (fun r => decide (r.length ≤ 8) && okR g.1.length r) &&
    (decide (g.2.2.1.length ≤ 8) && (g.2.2.1.all (fun x => decide (0 ≤ x)) && okR g.1.length g.2.2.1))))))

theorem okG_iff {g : Gr} : okG g = true ↔ g.1.length ≤ 200 ∧ 1 ≤ g.2.1.length ∧ g.2.1.length ≤ 3 ∧ (∀ x ∈ g.1, x.1.length ≤ 4 ∧ x.2.1.length ≤ 4 ∧ okR g.1.length x.1 = true) ∧
    (∀ r ∈ g.2.1, r.length ≤ 8 ∧ okR g.1.length r = true) ∧ g.2.2.1.length ≤ 8 ∧ (∀ x ∈ g.2.2.1, 0 ≤ x) ∧ okR g.1.length g.2.2.1 = true := by
  simp only [okG, okN, Bool.and_eq_true, decide_eq_true_eq, List.all_eq_true]

theorem okR_iff {m : Nat} {l : List Int} : okR m l = true ↔ ∀ x ∈ l, -1 ≤ x ∧ x < (m : Int) := by
  simp only [okR, List.all_eq_true, Bool.and_eq_true, decide_eq_true_eq]

abbrev Mst := List Int × List Bool

/-- A reference is met. -/
def meet (st : Mst) (r : Int) : Mst := if 0 ≤ r ∧ st.2.getD r.toNat false = false then (st.1 ++ [r], st.2.set r.toNat true) else st

structure Met (m : Nat) (st : Mst) : Prop where
  len : st.2.length = m
  cnt : st.1.length + st.2.count false = m
  rng : ∀ r ∈ st.1, 0 ≤ r ∧ r < (m : Int)
  had : ∀ r : Int, 0 ≤ r → (st.2.getD r.toNat false = true ↔ r ∈ st.1)
  nd : st.1.Nodup

theorem count_set_true : ∀ {l : List Bool} {i : Nat}, i < l.length → l.getD i false = false → (l.set i true).count false + 1 = l.count false
  | [], _, h, _ => by simp at h
  | b :: l, 0, _, h => by simp at h; subst h; simp
  | b :: l, i + 1, h, h2 => by
    have ih := count_set_true (l := l) (i := i) (by simpa using h) (by simpa using h2)
    simp only [List.set_cons_succ, List.count_cons]
    omega

theorem Met.le {m : Nat} {st : Mst} (h : Met m st) : st.1.length ≤ m := by have := h.cnt; omega

theorem Met.meet {m : Nat} {st : Mst} (h : Met m st) {r : Int} (hr : r < (m : Int)) : Met m (meet st r) := by
  unfold Fl.meet
  split
  · rename_i hc
    have hl : r.toNat < st.2.length := by rw [h.len]; omega
    have hn : ¬ r ∈ st.1 := fun hm => by
      have := (h.had r hc.1).2 hm
      rw [hc.2] at this
      cases this
    refine ⟨by simp [h.len], ?_, ?_, ?_, ?_⟩
    · have := count_set_true hl hc.2
      have := h.cnt
      simp only [List.length_append, List.length_singleton]
      omega
    · intro x hx
      simp only [List.mem_append, List.mem_singleton] at hx
      rcases hx with hx | rfl
      · exact h.rng x hx
      · exact ⟨hc.1, hr⟩
    · intro x hx
      simp only [List.mem_append, List.mem_singleton]
      rw [← h.had x hx]
      simp only [List.getD_eq_getElem?_getD, List.getElem?_set]
      by_cases e : r.toNat = x.toNat
      · have : x = r := by omega
        subst this
        simp [hl]
      · have : ¬ x = r := fun e' => e (by rw [e'])
        simp [e, this]
    · rw [List.nodup_append]
      refine ⟨h.nd, by simp, ?_⟩
      intro a ha b hb e
      simp at hb
      subst hb
      subst e
      exact hn ha
  · exact h

theorem Met.meets {m : Nat} {l : List Int} : ∀ {st : Mst}, Met m st → (∀ r ∈ l, r < (m : Int)) → Met m (l.foldl Fl.meet st) := by
  induction l with
  | nil => intro st h _; exact h
  | cons r l ih => intro st h hl; exact ih (h.meet (hl r (by simp))) fun x hx => hl x (by simp [hx])

/-- Met is only more and more. -/
theorem meet_pre (st : Mst) (r : Int) : st.1 <+: (meet st r).1 := by
  unfold meet
  split
  · exact List.prefix_append _ _
  · exact List.prefix_refl _

theorem meets_pre {l : List Int} : ∀ {st : Mst}, st.1 <+: (l.foldl meet st).1 := by
  induction l with
  | nil => intro st; exact List.prefix_refl _
  | cons r l ih => intro st; exact (meet_pre st r).trans ih

theorem meet_mem {m : Nat} {st : Mst} (h : Met m st) {r : Int} (h0 : 0 ≤ r) : r ∈ (meet st r).1 := by
  unfold meet
  split
  · simp
  · rename_i hc
    exact (h.had r h0).1 (by
      cases hb : st.2.getD r.toNat false with
      | true => rfl
      | false => exact absurd ⟨h0, hb⟩ hc)

theorem meets_mem {m : Nat} {l : List Int} : ∀ {st : Mst}, Met m st → (∀ r ∈ l, r < (m : Int)) → ∀ r ∈ l, 0 ≤ r → r ∈ (l.foldl meet st).1 := by
  induction l with
  | nil => intro st _ _ r hr; simp at hr
  | cons x l ih =>
    intro st h hl r hr h0
    have h1 := h.meet (hl x (by simp))
    simp only [List.mem_cons] at hr
    rcases hr with rfl | hr
    · exact (meets_pre (l := l)).subset (meet_mem h h0)
    · exact ih h1 (fun y hy => hl y (by simp [hy])) r hr h0

theorem meet_sub {st : Mst} {r x : Int} (hx : x ∈ (meet st r).1) : x ∈ st.1 ∨ (x = r ∧ 0 ≤ r) := by
  unfold meet at hx
  split at hx
  · rename_i hc
    simp only [List.mem_append, List.mem_singleton] at hx
    rcases hx with hx | hx
    · exact .inl hx
    · exact .inr ⟨hx, hc.1⟩
  · exact .inl hx

theorem meets_sub {l : List Int} : ∀ {st : Mst} {x : Int}, x ∈ (l.foldl meet st).1 → x ∈ st.1 ∨ (x ∈ l ∧ 0 ≤ x) := by
  induction l with
  | nil => intro st x hx; exact .inl hx
  | cons r l ih =>
    intro st x hx
    rcases ih hx with h | ⟨h, h0⟩
    · rcases meet_sub h with h | ⟨rfl, h0⟩
      · exact .inl h
      · exact .inr ⟨by simp, h0⟩
    · exact .inr ⟨by simp [h], h0⟩

/-- What a node leads to. -/
def refsOf (g : Gr) (r : Int) : List Int := (g.1.getD r.toNat ([], [], ())).1

/-- The met are gone through. -/
def walk (R : Int → List Int) : Nat → Nat → Mst → Mst
  | 0, _, st => st
  | n + 1, i, st => if i < st.1.length then walk R n (i + 1) ((R (st.1.getD i 0)).foldl meet st) else st

def met0 (m : Nat) : Mst := ([], List.replicate m false)

theorem met0_ok (m : Nat) : Met m (met0 m) := by
  refine ⟨by simp [met0], by simp [met0], by simp [met0], ?_, by simp [met0]⟩
  intro r _
  simp only [met0, List.getD_eq_getElem?_getD, List.getElem?_replicate]
  split <;> simp

theorem walk_met {m : Nat} {R : Int → List Int} (hR : ∀ r, 0 ≤ r → r < (m : Int) → ∀ x ∈ R r, x < (m : Int)) : ∀ (n i : Nat) {st : Mst}, Met m st → Met m (walk R n i st)
  | 0, _, _, h => h
  | n + 1, i, st, h => by
    unfold walk
    split
    · rename_i hi
      refine walk_met hR n (i + 1) (h.meets ?_)
      rw [getD_lt hi]
      exact hR _ (h.rng _ (List.getElem_mem hi)).1 (h.rng _ (List.getElem_mem hi)).2
    · exact h

theorem walk_pre {R : Int → List Int} : ∀ (n i : Nat) {st : Mst}, st.1 <+: (walk R n i st).1
  | 0, _, st => List.prefix_refl _
  | n + 1, i, st => by
    unfold walk
    split
    · exact (meets_pre (l := R (st.1.getD i 0))).trans (walk_pre n (i + 1))
    · exact List.prefix_refl _

/-- What is behind the places that were gone through, was met. -/
theorem walk_closed {m : Nat} {R : Int → List Int} (hR : ∀ r, 0 ≤ r → r < (m : Int) → ∀ x ∈ R r, x < (m : Int)) : ∀ (n i : Nat) {st : Mst}, Met m st → m - i < n →
    (∀ j (hj : j < st.1.length), j < i → ∀ x ∈ R st.1[j], 0 ≤ x → x ∈ st.1) → ∀ r ∈ (walk R n i st).1, ∀ x ∈ R r, 0 ≤ x → x ∈ (walk R n i st).1
  | 0, _, _, _, h, _ => absurd h (Nat.not_lt_zero _)
  | n + 1, i, st, h, hn, hc => by
    unfold walk
    split
    · rename_i hi
      have hb : ∀ x ∈ R (st.1.getD i 0), x < (m : Int) := by
        rw [getD_lt hi]
        exact hR _ (h.rng _ (List.getElem_mem hi)).1 (h.rng _ (List.getElem_mem hi)).2
      have hle := h.le
      refine walk_closed hR n (i + 1) (h.meets hb) (by omega) ?_
      intro j hj hji x hx h0
      have hp := meets_pre (l := R (st.1.getD i 0)) (st := st)
      rcases Nat.lt_or_ge j i with hlt | hge
      · have hj' : j < st.1.length := by omega
        have e : ((R (st.1.getD i 0)).foldl meet st).1[j] = st.1[j] := (hp.getElem hj').symm
        rw [e] at hx
        exact hp.subset (hc j hj' hlt x hx h0)
      · have : j = i := by omega
        subst this
        have e : ((R (st.1.getD j 0)).foldl meet st).1[j] = st.1[j] := (hp.getElem hi).symm
        rw [e] at hx
        exact meets_mem h hb x (by rw [getD_lt hi]; exact hx) h0
    · rename_i hi
      intro r hr x hx h0
      obtain ⟨j, hj, rfl⟩ := List.getElem_of_mem hr
      exact hc j hj (by omega) x hx h0

/-- Whatever holds of the first ones and is handed on, holds of all. -/
theorem walk_ind {R : Int → List Int} {P : Int → Prop} (hP : ∀ r, P r → ∀ x ∈ R r, 0 ≤ x → P x) : ∀ (n i : Nat) {st : Mst}, (∀ r ∈ st.1, P r) → ∀ r ∈ (walk R n i st).1, P r
  | 0, _, _, h => h
  | n + 1, i, st, h => by
    unfold walk
    split
    · rename_i hi
      refine walk_ind hP n (i + 1) fun r hr => ?_
      rcases meets_sub hr with h1 | ⟨h1, h0⟩
      · exact h r h1
      · rw [getD_lt hi] at h1
        exact hP _ (h _ (List.getElem_mem hi)) r h1 h0
    · exact h

def begin0 (g : Gr) : Mst := g.2.2.1.foldl meet (g.2.1.foldl (fun s l => l.foldl meet s) (met0 g.1.length))

/-- The nodes that are reached, as they are met. -/
def order (g : Gr) : List Int := (walk (refsOf g) (g.1.length + 1) 0 (begin0 g)).1

theorem refs_rng {g : Gr} (h : okG g = true) (r : Int) : ∀ x ∈ refsOf g r, x < (g.1.length : Int) := by
  obtain ⟨_, _, _, h4, _⟩ := okG_iff.1 h
  intro x hx
  unfold refsOf at hx
  by_cases hr : r.toNat < g.1.length
  · rw [getD_lt hr] at hx
    exact (okR_iff.1 (h4 _ (List.getElem_mem hr)).2.2 x hx).2
  · rw [List.getD_eq_getElem?_getD, List.getElem?_eq_none (by omega)] at hx
    simp at hx

theorem roots_met {m : Nat} {ls : List (List Int)} : ∀ {st : Mst}, Met m st → (∀ l ∈ ls, ∀ x ∈ l, x < (m : Int)) → Met m (ls.foldl (fun s l => l.foldl meet s) st) := by
  induction ls with
  | nil => intro st h _; exact h
  | cons l ls ih => intro st h hl; exact ih (h.meets (hl l (by simp))) fun x hx => hl x (by simp [hx])

theorem roots_pre {ls : List (List Int)} : ∀ {st : Mst}, st.1 <+: (ls.foldl (fun s l => l.foldl meet s) st).1 := by
  induction ls with
  | nil => intro st; exact List.prefix_refl _
  | cons r l ih => intro st; exact meets_pre.trans ih

theorem roots_mem {m : Nat} {ls : List (List Int)} : ∀ {st : Mst}, Met m st → (∀ l ∈ ls, ∀ x ∈ l, x < (m : Int)) → ∀ l ∈ ls, ∀ r ∈ l, 0 ≤ r → r ∈ (ls.foldl (fun s l => l.foldl meet s) st).1 := by
  induction ls with
  | nil => intro st _ _ r hr; simp at hr
  | cons x ls ih =>
    intro st h hl l hm r hr h0
    have h1 := h.meets (hl x (by simp))
    simp only [List.mem_cons] at hm
    rcases hm with rfl | hm
    · exact (roots_pre (ls := ls)).subset (meets_mem h (hl l (by simp)) r hr h0)
    · exact ih h1 (fun y hy => hl y (by simp [hy])) l hm r hr h0

theorem roots_sub {ls : List (List Int)} : ∀ {st : Mst} {x : Int}, x ∈ (ls.foldl (fun s l => l.foldl meet s) st).1 → x ∈ st.1 ∨ ∃ l ∈ ls, x ∈ l ∧ 0 ≤ x := by
  induction ls with
  | nil => intro st x hx; exact .inl hx
  | cons r l ih =>
    intro st x hx
    rcases ih hx with h | ⟨l', h, h0⟩
    · rcases meets_sub h with h | h
      · exact .inl h
      · exact .inr ⟨r, by simp, h⟩
    · exact .inr ⟨l', by simp [h], h0⟩

theorem rootsrng {g : Gr} (h : okG g = true) : ∀ l ∈ g.2.1, ∀ x ∈ l, x < (g.1.length : Int) := fun l hl x hx => by
  obtain ⟨_, _, _, _, h5, _⟩ := okG_iff.1 h
  exact (okR_iff.1 (h5 l hl).2 x hx).2

theorem pinsrng {g : Gr} (h : okG g = true) : ∀ x ∈ g.2.2.1, x < (g.1.length : Int) := fun x hx => by
  obtain ⟨_, _, _, _, _, _, _, h8⟩ := okG_iff.1 h
  exact (okR_iff.1 h8 x hx).2

theorem begin0_ok {g : Gr} (h : okG g = true) : Met g.1.length (begin0 g) :=
  (roots_met (met0_ok _) (rootsrng h)).meets (pinsrng h)

theorem order_met {g : Gr} (h : okG g = true) : Met g.1.length (walk (refsOf g) (g.1.length + 1) 0 (begin0 g)) :=
  walk_met (fun r _ _ => refs_rng h r) _ _ (begin0_ok h)

theorem order_rng {g : Gr} (h : okG g = true) : ∀ r ∈ order g, 0 ≤ r ∧ r < (g.1.length : Int) := (order_met h).rng

theorem order_nodup {g : Gr} (h : okG g = true) : (order g).Nodup := (order_met h).nd

theorem order_le {g : Gr} (h : okG g = true) : (order g).length ≤ g.1.length := (order_met h).le

theorem order_closed {g : Gr} (h : okG g = true) : ∀ r ∈ order g, ∀ x ∈ refsOf g r, 0 ≤ x → x ∈ order g :=
  walk_closed (fun r _ _ => refs_rng h r) _ _ (begin0_ok h) (by omega) fun j _ hj => absurd hj (Nat.not_lt_zero _)

theorem order_roots {g : Gr} (h : okG g = true) : ∀ l ∈ g.2.1, ∀ x ∈ l, 0 ≤ x → x ∈ order g := fun l hl x hx h0 =>
  (walk_pre _ _).subset (meets_pre.subset (roots_mem (met0_ok _) (rootsrng h) l hl x hx h0))

theorem order_pins {g : Gr} (h : okG g = true) : ∀ x ∈ g.2.2.1, x ∈ order g := fun x hx => by
  obtain ⟨_, _, _, _, _, _, h7, _⟩ := okG_iff.1 h
  exact (walk_pre _ _).subset (meets_mem (roots_met (met0_ok _) (rootsrng h)) (pinsrng h) x hx (h7 x hx))

/-- The reached are the least that holds what is begun with and is closed. -/
theorem order_ind {g : Gr} {P : Int → Prop} (hr : ∀ l ∈ g.2.1, ∀ x ∈ l, 0 ≤ x → P x) (hp : ∀ x ∈ g.2.2.1, 0 ≤ x → P x) (hP : ∀ r, P r → ∀ x ∈ refsOf g r, 0 ≤ x → P x) : ∀ r ∈ order g, P r :=
  walk_ind hP _ _ fun r h => by
    rcases meets_sub h with h | ⟨h, h0⟩
    · rcases roots_sub h with h | ⟨l, hl, h, h0⟩
      · simp [met0] at h
      · exact hr l hl r h h0
    · exact hp r h h0

abbrev Opx := Int × Int × Int × Int × Int × Int × (Int × Int × Unit) × Unit
def shOk (s : Int × Int × Unit) : Bool := decide (0 ≤ s.1) && (decide (s.1 ≤ 4) && (decide (0 ≤ s.2.1) && decide (s.2.1 ≤ 4)))
def opOk (o : Opx) : Bool := decide (1 ≤ o.1) && (decide (o.1 ≤ 11) && (!(decide (o.1 = 1)) || shOk o.2.2.2.2.2.2.1))
/-- A place of a list. -/
def inB (i : Int) (n : Nat) : Prop := 0 ≤ i ∧ i < (n : Int)
instance (i : Int) (n : Nat) : Decidable (inB i n) := by unfold inB; infer_instance
/-- The code told ahead of an operation. -/
def beginC (o : Opx) (rs : List Int) (nil : Int) : Int :=
  if (o.1 = 8 ∧ rs.length = 0) ∨ (o.1 ≠ 1 ∧ o.1 ≠ 8 ∧ ¬ inB o.2.1 rs.length) ∨ ((o.1 = 3 ∨ o.1 = 6 ∨ o.1 = 7) ∧ ¬ inB o.2.2.1 rs.length) ∨ (o.1 = 7 ∧ ¬ inB o.2.2.2.1 rs.length) then 2
  else if o.1 ≠ 1 ∧ o.1 ≠ 6 ∧ o.1 ≠ 8 ∧ o.1 ≠ 9 ∧ rs.getD o.2.1.toNat 0 = nil then 3
  else if (o.1 = 1 ∨ o.1 = 2 ∨ o.1 = 9) ∧ rs.length = 8 then 5
  else 0
/-- The last place of a number. -/
def lastFrom : List Int → Int → Int → Int → Int
  | [], _, _, at' => at'
  | x :: l, a, i, at' => lastFrom l a (i + 1) (if x = a then i else at')
def lastP (l : List Int) (a : Int) : Int := lastFrom l a 0 (-1)

abbrev nd0 : Nd := ([], [], ())
/-- What an operation does when no code was told ahead. -/
def actG (g : Gr) (t : Int) (o : Opx) (rs : List Int) : Int × Int × Gr :=
  let ra := rs.getD o.2.1.toNat 0
  let rb := rs.getD o.2.2.1.toNat 0
  let rc := rs.getD o.2.2.2.1.toNat 0
  let n := g.1.getD ra.toNat nd0
  let f := o.2.2.2.2.1
  if o.1 = 1 then if g.1.length = 200 then (0, 6, g) else (0, 0, g.1 ++ [(List.replicate o.2.2.2.2.2.2.1.1.toNat (-1), List.replicate o.2.2.2.2.2.2.1.2.1.toNat 0, ())], g.2.1.set t.toNat (rs ++ [(g.1.length : Int)]), g.2.2.1, ())
  else if o.1 = 2 then if inB f n.1.length then (0, 0, g.1, g.2.1.set t.toNat (rs ++ [n.1.getD f.toNat 0]), g.2.2.1, ()) else (0, 4, g)
  else if o.1 = 3 then if inB f n.1.length then (0, 0, g.1.set ra.toNat (n.1.set f.toNat rb, n.2), g.2.1, g.2.2.1, ()) else (0, 4, g)
  else if o.1 = 4 then if inB f n.2.1.length then (0, 0, g.1.set ra.toNat (n.1, n.2.1.set f.toNat o.2.2.2.2.2.1, ()), g.2.1, g.2.2.1, ()) else (0, 4, g)
  else if o.1 = 5 then if inB f n.2.1.length then (n.2.1.getD f.toNat 0, 0, g) else (0, 4, g)
  else if o.1 = 6 then (if ra = rb then 1 else 0, 0, g)
  else if o.1 = 7 then if inB f n.1.length then (if n.1.getD f.toNat 0 = rb then (1, 0, g.1.set ra.toNat (n.1.set f.toNat rc, n.2), g.2.1, g.2.2.1, ()) else (0, 0, g)) else (0, 4, g)
  else if o.1 = 8 then (0, 0, g.1, g.2.1.set t.toNat (rs.take (rs.length - 1)), g.2.2.1, ())
  else if o.1 = 9 then (0, 0, g.1, g.2.1.set t.toNat (rs ++ [ra]), g.2.2.1, ())
  else if o.1 = 10 then if g.2.2.1.length = 8 then (0, 7, g) else (0, 0, g.1, g.2.1, g.2.2.1 ++ [ra], ())
  else if lastP g.2.2.1 ra < 0 then (0, 7, g) else (0, 0, g.1, g.2.1, g.2.2.1.take (lastP g.2.2.1 ra).toNat ++ g.2.2.1.drop ((lastP g.2.2.1 ra).toNat + 1), ())

/-- An operation on a graph: the answer, the code, the graph behind it. -/
def doG (g : Gr) (t : Int) (o : Opx) : Int × Int × Gr :=
  if okG g = true ∧ inB t g.2.1.length ∧ opOk o = true then
    (if beginC o (g.2.1.getD t.toNat []) (-1) = 0 then actG g t o (g.2.1.getD t.toNat []) else (0, beginC o (g.2.1.getD t.toNat []) (-1), g))
  else (0, 1, [], [], [], ())

theorem lastFrom_rng : ∀ (l : List Int) (a i at' : Int), -1 ≤ at' → at' < i → -1 ≤ lastFrom l a i at' ∧ lastFrom l a i at' < i + l.length
  | [], _, _, _, h, h' => by simp only [lastFrom, List.length_nil]; omega
  | x :: l, a, i, at', h, h' => by
    simp only [lastFrom]
    have := lastFrom_rng l a (i + 1) (if x = a then i else at') (by split <;> omega) (by split <;> omega)
    simp only [List.length_cons]
    omega

theorem opOk_kind {o : Opx} (h : opOk o = true) : 1 ≤ o.1 ∧ o.1 ≤ 11 := by
  simp only [opOk, Bool.and_eq_true, decide_eq_true_eq] at h
  exact ⟨h.1, h.2.1⟩

theorem kind_cases {k : Int} (h1 : 1 ≤ k) (h2 : k ≤ 11) : k = 1 ∨ k = 2 ∨ k = 3 ∨ k = 4 ∨ k = 5 ∨ k = 6 ∨ k = 7 ∨ k = 8 ∨ k = 9 ∨ k = 10 ∨ k = 11 := by omega
section
variable {N : Nat} (hN : lim < N)
include hN

theorem sl5Ints_ok {xs : List Int} (hl : xs.length ≤ lim) : Fsl5Ints N (xs, ()) = some (xs, ()) := by
  simp [Fsl5Ints, hl]

end
section
variable {N : Nat}

theorem sShapeOk_ok (s : Int × Int × Unit) : FsShapeOk N (s, ()) = some (shOk s, ()) := by
  simp only [FsShapeOk, shOk, ge_iff_le]
  by_cases h1 : 0 ≤ s.1 <;> by_cases h2 : s.1 ≤ 4 <;> by_cases h3 : 0 ≤ s.2.1 <;> simp [h1, h2, h3]

theorem sOpOk_ok (o : Opx) : FsOpOk N (o, ()) = some (opOk o, ()) := by
  simp only [FsOpOk, opOk, sShapeOk_ok, ge_iff_le]
  by_cases h1 : 1 ≤ o.1 <;> by_cases h2 : o.1 ≤ 11 <;> by_cases h3 : o.1 = 1 <;> simp [h1, h2, h3]

theorem sl5Fields_ok (k : Int) : Fsl5Fields N (k, ()) = some (decide (k = 2 ∨ k = 3 ∨ k = 4 ∨ k = 5 ∨ k = 7), ()) := by
  simp only [Fsl5Fields]
  by_cases h1 : k = 2
  · simp [h1]
  by_cases h2 : k = 3
  · simp [h2]
  by_cases h3 : k = 4
  · simp [h3]
  by_cases h4 : k = 5
  · simp [h4]
  by_cases h5 : k = 7 <;> simp [h1, h2, h3, h4, h5]

set_option maxHeartbeats 1000000 in
theorem sl5Begin_ok {o : Opx} {rs : List Int} {nil : Int} (h1 : 1 ≤ o.1) (h2 : o.1 ≤ 11) : Fsl5Begin N (o, rs, nil, ()) = some (beginC o rs nil, ()) := by
  obtain ⟨k, A, B, C, F, V, S, ⟨⟩⟩ := o
  simp only at h1 h2
  unfold Fsl5Begin
  dsimp only
  refine obind_eq (r := (rs, nil, (k, A, B, C, F, V, S, ()), (rs.length : Int), decide (inB A rs.length), ())) (by by_cases a0 : 0 ≤ A <;> simp [a0, inB]) ?_
  dsimp only
  refine obind_eq (r := (rs, nil, (k, A, B, C, F, V, S, ()), (rs.length : Int), decide (inB A rs.length), decide (inB B rs.length), ())) (by by_cases a0 : 0 ≤ B <;> simp [a0, inB]) ?_
  dsimp only
  refine obind_eq (r := (rs, nil, (k, A, B, C, F, V, S, ()), (rs.length : Int), decide (inB A rs.length), decide (inB B rs.length), decide (inB C rs.length), ())) (by by_cases a0 : 0 ≤ C <;> simp [a0, inB]) ?_
  dsimp only
  have l8 : ((rs.length : Int) = 8) ↔ rs.length = 8 := by omega
  have l0 : (0 < rs.length) ↔ ¬ rs.length = 0 := by omega
  have key : ∀ {i : Int}, inB i rs.length → 0 ≤ i ∧ i.toNat < rs.length := fun h => by unfold inB at h; omega
  have pe := Classical.propComplete (rs.length = 8)
  have pe0 := Classical.propComplete (rs.length = 0)
  rcases kind_cases h1 h2 with h | h | h | h | h | h | h | h | h | h | h <;> subst h
  · rcases pe with e | e <;> simp [beginC, sl5Fields_ok, l8, e]
  · by_cases a : inB A rs.length
    · obtain ⟨a1, a2⟩ := key a
      rcases pe with e | e <;> by_cases n : rs[A.toNat] = nil <;> simp [beginC, sl5Fields_ok, l8, e, a, a1, a2, n]
    · simp [beginC, a]
  · by_cases a : inB A rs.length
    · obtain ⟨a1, a2⟩ := key a
      by_cases b : inB B rs.length
      · by_cases n : rs[A.toNat] = nil <;> simp [beginC, sl5Fields_ok, a, b, a1, a2, n]
      · simp [beginC, a, b]
    · simp [beginC, a]
  · by_cases a : inB A rs.length
    · obtain ⟨a1, a2⟩ := key a
      by_cases n : rs[A.toNat] = nil <;> simp [beginC, sl5Fields_ok, a, a1, a2, n]
    · simp [beginC, a]
  · by_cases a : inB A rs.length
    · obtain ⟨a1, a2⟩ := key a
      by_cases n : rs[A.toNat] = nil <;> simp [beginC, sl5Fields_ok, a, a1, a2, n]
    · simp [beginC, a]
  · by_cases a : inB A rs.length
    · obtain ⟨a1, a2⟩ := key a
      by_cases b : inB B rs.length
      · by_cases n : rs[A.toNat] = nil <;> simp [beginC, sl5Fields_ok, a, b, a1, a2, n]
      · simp [beginC, a, b]
    · simp [beginC, a]
  · by_cases a : inB A rs.length
    · obtain ⟨a1, a2⟩ := key a
      by_cases b : inB B rs.length
      · by_cases c : inB C rs.length
        · by_cases n : rs[A.toNat] = nil <;> simp [beginC, sl5Fields_ok, a, b, c, a1, a2, n]
        · simp [beginC, a, b, c]
      · simp [beginC, a, b]
    · simp [beginC, a]
  · rcases pe0 with e0 | e0 <;> simp [beginC, sl5Fields_ok, e0, l0]
  · by_cases a : inB A rs.length
    · obtain ⟨a1, a2⟩ := key a
      rcases pe with e | e <;> by_cases n : rs[A.toNat] = nil <;> simp [beginC, sl5Fields_ok, l8, e, a, a1, a2, n]
    · simp [beginC, a]
  · by_cases a : inB A rs.length
    · obtain ⟨a1, a2⟩ := key a
      by_cases n : rs[A.toNat] = nil <;> simp [beginC, sl5Fields_ok, a, a1, a2, n]
    · simp [beginC, a]
  · by_cases a : inB A rs.length
    · obtain ⟨a1, a2⟩ := key a
      by_cases n : rs[A.toNat] = nil <;> simp [beginC, sl5Fields_ok, a, a1, a2, n]
    · simp [beginC, a]
end
section
variable {N : Nat}

theorem sl5Field_ok {o : Opx} {r m : Nat} : Fsl5Field N (o, (r : Int), (m : Int), ()) = some (decide (inB o.2.2.2.2.1 (if o.1 = 4 ∨ o.1 = 5 then m else r)), ()) := by
  obtain ⟨k, A, B, C, F, V, S, ⟨⟩⟩ := o
  simp only [Fsl5Field, inB]
  by_cases h1 : k = 4
  · by_cases h : 0 ≤ F <;> simp [h1, h]
  by_cases h2 : k = 5
  · by_cases h : 0 ≤ F <;> simp [h2, h]
  by_cases h : 0 ≤ F <;> simp [h1, h2, h]

theorem sl5One_ok (b : Bool) : Fsl5One N (b, ()) = some (if b = true then 1 else 0, ()) := by
  cases b <;> simp [Fsl5One]

variable (hN : lim < N)
include hN

theorem sl5Pins_loop {xs : List Int} {a : Int} (hl : xs.length ≤ lim) : lsl5Pins_0 N N (xs, a, -1, 0, ()) = some (xs, lastP xs a, ()) := by
  have key : ∀ n i at', i ≤ xs.length → xs.length - i < n → lsl5Pins_0 N n (xs, a, at', (i : Int), ()) = some (xs, lastFrom (xs.drop i) a i at', ()) := by
    intro n
    induction n with
    | zero => intro i at' _ h; exact absurd h (Nat.not_lt_zero _)
    | succ n ih =>
      intro i at' hi hn
      by_cases h : i < xs.length
      · have hw : w64 ((i : Int) + 1) = ((i + 1 : Nat) : Int) := w64_succ (by have : lim = 2147483648 := rfl; omega)
        rw [drop_at h]
        by_cases e : xs[i] = a
        · have := ih (i + 1) (i : Int) (by omega) (by omega)
          simp only [lsl5Pins_0, hw]
          simp [h, e, lastFrom]
          simpa using this
        · have := ih (i + 1) at' (by omega) (by omega)
          simp only [lsl5Pins_0, hw]
          simp [h, e, lastFrom]
          simpa using this
      · have : i = xs.length := by omega
        subst this
        simp [lsl5Pins_0, lastFrom]
  have := key N 0 (-1) (by omega) (by omega)
  simpa [lastP] using this

theorem sl5Pins_pin {xs : List Int} {a : Int} (hl : xs.length + 1 ≤ lim) : Fsl5Pins N (xs, 10, a, ()) = some (if xs.length = 8 then (false, [], ()) else (true, xs ++ [a], ())) := by
  have l8 : ((xs.length : Int) = 8) ↔ xs.length = 8 := by omega
  rcases Classical.propComplete (xs.length = 8) with e | e <;> simp [Fsl5Pins, l8, e, sl5Ints_ok hN (show xs.length ≤ lim by omega), hl]

theorem sl5Pins_unpin {xs : List Int} {a : Int} (hl : xs.length ≤ lim) : Fsl5Pins N (xs, 11, a, ()) = some (if lastP xs a < 0 then (false, [], ()) else (true, xs.take (lastP xs a).toNat ++ xs.drop ((lastP xs a).toNat + 1), ())) := by
  have hr := lastFrom_rng xs a 0 (-1) (by omega) (by omega)
  have e0 : lastFrom xs a 0 (-1) = lastP xs a := rfl
  rw [e0] at hr
  have hw : w64 (lastP xs a + 1) = lastP xs a + 1 := w64_id (by omega) (by have : lim = 2147483648 := rfl; omega)
  unfold Fsl5Pins
  simp only [show ((11 : Int) == 10) = false from rfl, cond_false, sl5Pins_loop hN hl, Option.bind_some]
  by_cases h : lastP xs a < 0
  · simp [h]
  · have h0 : 0 ≤ lastP xs a := by omega
    have h1 : lastP xs a ≤ (xs.length : Int) := by omega
    have h2 : 0 ≤ lastP xs a + 1 := by omega
    have h3 : lastP xs a + 1 ≤ (xs.length : Int) := by omega
    have h4 : (lastP xs a + 1).toNat = (lastP xs a).toNat + 1 := by omega
    have h5 : ((xs.drop 0).take (lastP xs a).toNat).length ≤ lim := by simp; omega
    have h6 : (xs.drop ((lastP xs a).toNat + 1)).take (xs.length - ((lastP xs a).toNat + 1)) = xs.drop ((lastP xs a).toNat + 1) := by
      apply List.take_of_length_le; simp
    have h7 : (xs.take (lastP xs a).toNat).length + (xs.drop ((lastP xs a).toNat + 1)).length ≤ lim := by simp; omega
    have h8 : (0 : Int).toNat = 0 := rfl
    simp only [h, decide_false, cond_false, h0, h1, h2, h3, decide_true, cond_true, Int.le_refl, Int.natCast_nonneg, hw, h4, h8, Nat.sub_zero, Int.toNat_natCast, h6, if_false, List.drop_zero]
    rw [sl5Ints_ok hN (by simpa using h5)]
    simp only [Option.bind_some, h7, decide_true, cond_true]
end
section
variable {N : Nat} (hN : lim < N)
include hN

theorem sl5Copy_ok {g : Gr} (hs : smG g) : Fsl5Copy N (g, ()) = some g := by
  obtain ⟨a1, a2, a3, a4, a5⟩ := hs
  have l1 := sm_lim a1
  have l3 := sm_lim a3
  have e1 := fun Q => (fold_loop (xs := g.1) (n := N) (fun s x => s ++ [x]) (fun i s => s.length = i)
    (L := fun n i s => lsl5Copy_0 N n (g, (i : Int), s, ([] : List (List Int)), Q, ())) (fin := fun s => (g, s, ([] : List (List Int)), Q, ())) l1
    (fun n i s h hw hI => by
      subst hI
      have hlim : s.length + 1 ≤ lim := by omega
      have hx := a2 _ (List.getElem_mem h)
      simp [lsl5Copy_0, h, hw, sl5Ints_ok hN (sm_lim hx.1), sl5Ints_ok hN (sm_lim hx.2), hlim])
    (fun n s hI => by simp [lsl5Copy_0]) (by omega) (s := []) rfl).1
  have e2 := fun S Q => (fold_loop (xs := g.2.1) (n := N) (fun s x => s ++ [x]) (fun i s => s.length = i)
    (L := fun n i s => lsl5Copy_2 N n (g, (i : Int), S, s, Q, ())) (fin := fun s => (S, s, Q, ())) l3
    (fun n i s h hw hI => by
      subst hI
      have hlim : s.length + 1 ≤ lim := by omega
      have hx := a4 _ (List.getElem_mem h)
      simp [lsl5Copy_2, h, hw, sl5Ints_ok hN (sm_lim hx), hlim])
    (fun n s hI => by simp [lsl5Copy_2]) (by omega) (s := []) rfl).1
  have f1 := foldl_push (fun x : Nd => x) g.1 []
  have f2 := foldl_push (fun x : List Int => x) g.2.1 []
  simp only [Int.natCast_zero, f1, f2, List.nil_append, List.map_id'] at e1 e2
  simp [Fsl5Copy, sl5Ints_ok hN (sm_lim a5), e1, e2]
end
section
variable {N : Nat} (hN : lim < N)
include hN

theorem sl5Refs_ok {xs : List Int} {m : Nat} (hx : sm xs.length) : Fsl5Refs N (xs, (m : Int), ()) = some (okR m xs, ()) := by
  have hl := sm_lim hx
  have hL := all_loop (xs := xs) (n := N) (fun x => decide (-1 ≤ x) && decide (x < (m : Int))) (L := fun n i => lsl5Refs_0 N n (xs, (m : Int), (i : Int), ())) (yes := .inl ()) (no := .inr (false, ())) hl
    (fun n i h hw hq => by
      simp at hq
      simp [lsl5Refs_0, h, hw, Int.not_lt.2 hq.1, Int.not_le.2 hq.2])
    (fun n i h hq => by
      simp at hq
      by_cases h1 : xs[i] < -1
      · simp [lsl5Refs_0, h, h1]
      · simp [lsl5Refs_0, h, h1, hq (by omega)])
    (fun n => by simp [lsl5Refs_0]) (by omega)
  simp only [Int.natCast_zero] at hL
  simp only [Fsl5Refs, hL, okR]
  cases xs.all (fun x => decide (-1 ≤ x) && decide (x < (m : Int))) <;> simp

theorem sGraphOk_ok {g : Gr} (hx : smG g) : FsGraphOk N (g, ()) = some (okG g, ()) := by
  obtain ⟨a1, a2, a3, a4, a5⟩ := hx
  have h1 := all_loop (xs := g.1) (n := N) (okN g.1.length) (L := fun n i => lsGraphOk_0 N n (g, (i : Int), ())) (yes := .inl (g, ())) (no := .inr (false, ())) (sm_lim a1)
    (fun n i h hw hq => by
      simp [okN] at hq
      simp [lsGraphOk_0, h, hw, sl5Refs_ok hN (a2 _ (List.getElem_mem h)).1, hq, Nat.not_lt.2 hq.1, Nat.not_lt.2 hq.2.1])
    (fun n i h hq => by
      simp [lsGraphOk_0, h, sl5Refs_ok hN (a2 _ (List.getElem_mem h)).1]
      simp [okN] at hq
      by_cases h1 : g.1[i].1.length ≤ 4 <;> by_cases h2 : g.1[i].2.1.length ≤ 4 <;> simp_all)
    (fun n => by simp [lsGraphOk_0]) (by have := sm_lim a1; omega)
  have h2 := all_loop (xs := g.2.1) (n := N) (fun r => decide (r.length ≤ 8) && okR g.1.length r) (L := fun n i => lsGraphOk_2 N n (g, (i : Int), ())) (yes := .inl (g, ())) (no := .inr (false, ())) (sm_lim a3)
    (fun n i h hw hq => by
      simp at hq
      simp [lsGraphOk_2, h, hw, sl5Refs_ok hN (a4 _ (List.getElem_mem h)), hq, Nat.not_lt.2 hq.1])
    (fun n i h hq => by
      simp [lsGraphOk_2, h, sl5Refs_ok hN (a4 _ (List.getElem_mem h))]
      simp at hq
      by_cases h1 : g.2.1[i].length ≤ 8 <;> simp_all)
    (fun n => by simp [lsGraphOk_2]) (by have := sm_lim a3; omega)
  have h3 := all_loop (xs := g.2.2.1) (n := N) (fun x => decide (0 ≤ x)) (L := fun n i => lsGraphOk_4 N n (g, (i : Int), ())) (yes := .inl (g, ())) (no := .inr (false, ())) (sm_lim a5)
    (fun n i h hw hq => by
      simp at hq
      simp [lsGraphOk_4, h, hw, Int.not_lt.2 hq])
    (fun n i h hq => by
      simp at hq
      simp [lsGraphOk_4, h, hq])
    (fun n => by simp [lsGraphOk_4]) (by have := sm_lim a5; omega)
  simp only [Int.natCast_zero] at h1 h2 h3
  simp only [FsGraphOk, okG]
  by_cases b1 : g.1.length ≤ 200
  · by_cases b2 : 1 ≤ g.2.1.length
    · by_cases b3 : g.2.1.length ≤ 3
      · have c1 : ¬ ((g.1.length : Int) > 200) := by omega
        have c2 : ¬ ((g.2.1.length : Int) < 1) := by omega
        have c3 : ¬ ((g.2.1.length : Int) > 3) := by omega
        simp only [c1, c2, c3, b1, b2, b3, decide_true, decide_false, cond_false, Option.bind_some, Sum.elim_inl, h1, Bool.true_and]
        cases g.1.all (okN g.1.length)
        · simp
        · simp only [cond_true, Option.bind_some, Sum.elim_inl, h2, Bool.true_and]
          cases g.2.1.all (fun r => decide (r.length ≤ 8) && okR g.1.length r)
          · simp
          · simp only [cond_true, Option.bind_some, Sum.elim_inl, h3, Bool.true_and, sl5Refs_ok hN a5]
            by_cases b4 : g.2.2.1.length ≤ 8
            · have c4 : ((g.2.2.1.length : Int) ≤ 8) := by omega
              cases g.2.2.1.all (fun x => decide (0 ≤ x)) <;> simp [b4, c4, sl5Refs_ok hN a5]
            · have c4 : ¬ ((g.2.2.1.length : Int) ≤ 8) := by omega
              cases g.2.2.1.all (fun x => decide (0 ≤ x)) <;> simp [b4, c4, sl5Refs_ok hN a5]
      · have c1 : ¬ ((g.1.length : Int) > 200) := by omega
        have c2 : ¬ ((g.2.1.length : Int) < 1) := by omega
        have c3 : ((g.2.1.length : Int) > 3) := by omega
        simp [c1, c2, c3, b3]
    · have c1 : ¬ ((g.1.length : Int) > 200) := by omega
      have c2 : ((g.2.1.length : Int) < 1) := by omega
      simp [c1, c2, b2]
  · have c1 : ((g.1.length : Int) > 200) := by omega
    simp [c1, b1]

end
section
variable {N : Nat} (hN : lim < N)
include hN

theorem okG_small {g : Gr} (h : okG g = true) : smG g := by
  obtain ⟨h1, h2, h3, h4, h5, h6, h7, h8⟩ := okG_iff.1 h
  simp only [smG, smN, sm]
  refine ⟨by omega, fun x hx => ?_, by omega, fun x hx => ?_, by omega⟩
  · have := h4 x hx; omega
  · have := h5 x hx; omega

/-- One list of references, by the places. -/
theorem meets_loop {m : Nat} {xs : List Int} (hx : ∀ x ∈ xs, x < (m : Int)) (hm : m ≤ 200) (hl : xs.length ≤ lim) {ρ : Type} {L : Nat → Nat → Mst → Option ρ} {fin : Mst → ρ}
    (h1 : ∀ n i st (h : i < xs.length), w64 ((i : Int) + 1) = ((i + 1 : Nat) : Int) → Met m st → (0 ≤ xs[i] → xs[i].toNat < st.2.length) → st.1.length + 1 ≤ lim → L (n + 1) i st = L n (i + 1) (meet st xs[i]))
    (h3 : ∀ n st, Met m st → L (n + 1) xs.length st = some (fin st)) {st : Mst} (hst : Met m st) : L N 0 st = some (fin (xs.foldl meet st)) :=
  (fold_loop (xs := xs) (n := N) meet (fun _ st => Met m st) (L := L) (fin := fin) hl
    (fun n i st h hw hI => by
      have hr := hx _ (List.getElem_mem h)
      refine ⟨h1 n i st h hw hI (fun h0 => by have := hI.len; omega) ?_, hI.meet hr⟩
      have := hI.le; rw [lim_eq]; omega)
    (fun n st hI => h3 n st hI) (by omega) hst).1

theorem roots_loop {m : Nat} {ls : List (List Int)} (hx : ∀ l ∈ ls, ∀ x ∈ l, x < (m : Int)) (hl : ls.length ≤ lim) {ρ : Type} {L : Nat → Nat → Mst → Option ρ} {fin : Mst → ρ}
    (h1 : ∀ n i st (h : i < ls.length), w64 ((i : Int) + 1) = ((i + 1 : Nat) : Int) → Met m st → L (n + 1) i st = L n (i + 1) (ls[i].foldl meet st))
    (h3 : ∀ n st, Met m st → L (n + 1) ls.length st = some (fin st)) {st : Mst} (hst : Met m st) : L N 0 st = some (fin (ls.foldl (fun s l => l.foldl meet s) st)) :=
  (fold_loop (xs := ls) (n := N) (fun s l => l.foldl meet s) (fun _ st => Met m st) (L := L) (fin := fin) hl
    (fun n i st h hw hI => ⟨h1 n i st h hw hI, hI.meets (hx _ (List.getElem_mem h))⟩)
    (fun n st hI => h3 n st hI) (by omega) hst).1

theorem walk_loop {m : Nat} {R : Int → List Int} (hR : ∀ r, 0 ≤ r → r < (m : Int) → ∀ x ∈ R r, x < (m : Int)) (hm : m ≤ 200) {ρ : Type} {L : Nat → Nat → Mst → Option ρ} {fin : Mst → ρ}
    (h1 : ∀ n (i : Nat) st (h : i < st.1.length), w64 ((i : Int) + 1) = ((i + 1 : Nat) : Int) → Met m st → L (n + 1) i st = L n (i + 1) ((R st.1[i]).foldl meet st))
    (h3 : ∀ n i st, ¬ i < st.1.length → Met m st → L (n + 1) i st = some (fin st)) {st : Mst} (hst : Met m st) : L N 0 st = some (fin (walk R (m + 1) 0 st)) := by
  have key : ∀ n i st, Met m st → i ≤ st.1.length → m - i < n → L n i st = some (fin (walk R (m + 1 - i) i st)) := by
    intro n
    induction n with
    | zero => intro i st _ _ h; exact absurd h (Nat.not_lt_zero _)
    | succ n ih =>
      intro i st hI hi hn
      have hle := hI.le
      by_cases h : i < st.1.length
      · have e : m + 1 - i = (m + 1 - (i + 1)) + 1 := by omega
        rw [h1 n i st h (w64_succ (by omega)) hI, e]
        have hb := hI.meets (hR _ (hI.rng _ (List.getElem_mem h)).1 (hI.rng _ (List.getElem_mem h)).2)
        have hp := (meets_pre (l := R st.1[i]) (st := st)).length_le
        rw [ih (i + 1) _ hb (by omega) (by omega)]
        simp only [walk, h, if_true, getD_lt h]
      · rw [h3 n i st h hI]
        cases hk : m + 1 - i with
        | zero => rfl
        | succ k => simp only [walk, h, if_false]
  have := key N 0 st hst (by omega) (by rw [lim_eq] at hN; omega)
  simpa using this

end
theorem cguard {α : Type} {p : Prop} [Decidable p] {a z : Option α} (hp : p) (h : a = z) : (_root_.cond (decide p) a none) = z := by
  simpa [hp] using h

theorem begin_zero {o : Opx} {rs : List Int} {nil : Int} (h : beginC o rs nil = 0) : (o.1 = 8 → rs.length ≠ 0) ∧ (o.1 ≠ 1 → o.1 ≠ 8 → inB o.2.1 rs.length) ∧ (o.1 = 3 ∨ o.1 = 6 ∨ o.1 = 7 → inB o.2.2.1 rs.length) ∧ (o.1 = 7 → inB o.2.2.2.1 rs.length) ∧
    (o.1 ≠ 1 → o.1 ≠ 6 → o.1 ≠ 8 → o.1 ≠ 9 → rs.getD o.2.1.toNat 0 ≠ nil) ∧ (o.1 = 1 ∨ o.1 = 2 ∨ o.1 = 9 → rs.length ≠ 8) := by
  unfold beginC at h
  split at h
  · cases h
  · rename_i h1
    split at h
    · cases h
    · rename_i h2
      split at h
      · cases h
      · rename_i h3
        simp only [not_or, not_and, Decidable.not_not] at h1
        refine ⟨fun e => h1.1 e, fun e1 e2 => h1.2.1 e1 e2, fun e => h1.2.2.1 e, fun e => h1.2.2.2 e, fun e1 e2 e3 e4 e5 => h2 ⟨e1, e2, e3, e4, e5⟩, fun e1 e2 => h3 ⟨e1, e2⟩⟩

theorem inB_nat {i : Int} {n : Nat} (h : inB i n) : 0 ≤ i ∧ i.toNat < n := by unfold inB at h; omega
theorem inB_all {i : Int} {n : Nat} (h : inB i n) : 0 ≤ i ∧ i.toNat < n ∧ i < (n : Int) := by unfold inB at h; omega

section
variable {N : Nat} (hN : lim < N)
include hN

theorem sGraphDo_new {v : Int × Opx × Int × Int × Int × List Nd × List (List Int) × List Int × List Int × List Int × Unit} (hR : v.2.1.2.2.2.2.2.2.1.1 ≤ 4) (hR0 : 0 ≤ v.2.1.2.2.2.2.2.2.1.1) (hi : v.2.2.2.2.1 = 0) (hl : v.2.2.2.2.2.2.2.2.1 = []) (ht : 0 ≤ v.2.2.1) :
    lsGraphDo_1 N N v = some (v.1, v.2.2.1, v.2.2.2.1, v.2.2.2.2.2.1, v.2.2.2.2.2.2.1, v.2.2.2.2.2.2.2.1, List.replicate v.2.1.2.2.2.2.2.2.1.1.toNat (-1), v.2.2.2.2.2.2.2.2.2.1, ()) := by
  obtain ⟨t, o, u1, c, i, ns, rs, ps, l, m, ⟨⟩⟩ := v
  simp only at hR hR0 hi hl ht
  subst hi hl
  have hu : ((u1.toNat : Nat) : Int) = u1 := by omega
  have key : ∀ (n i : Nat), (i : Int) ≤ o.2.2.2.2.2.2.1.1 → o.2.2.2.2.2.2.1.1.toNat - i < n →
      lsGraphDo_1 N n (t, o, u1, c, (i : Int), ns, rs, ps, List.replicate i (-1), m, ()) = some (t, u1, c, ns, rs, ps, List.replicate o.2.2.2.2.2.2.1.1.toNat (-1), m, ()) := by
    intro n
    induction n with
    | zero => intro i _ h; exact absurd h (Nat.not_lt_zero _)
    | succ n ih =>
      intro i hi hn
      by_cases h : (i : Int) < o.2.2.2.2.2.2.1.1
      · have hw : w64 ((i : Int) + 1) = ((i + 1 : Nat) : Int) := w64_succ (by omega)
        have hlim : i + 1 ≤ lim := by rw [lim_eq]; omega
        have := ih (i + 1) (by omega) (by omega)
        simp only [lsGraphDo_1, hw]
        simp only [h, decide_true, cond_true, List.length_replicate, List.length_singleton, hlim, ← List.replicate_succ', Int.ofNat_eq_natCast, hu]
        exact this
      · have e : o.2.2.2.2.2.2.1.1.toNat = i := by omega
        simp [lsGraphDo_1, h, e, hu]
  have := key N 0 (by omega) (by rw [lim_eq] at hN; omega)
  simpa using this

theorem sGraphDo_act {g : Gr} {t : Int} {o : Opx} (hg : okG g = true) (ht : inB t g.2.1.length) (ho : opOk o = true) (hz : beginC o (g.2.1.getD t.toNat []) (-1) = 0) :
    FsGraphDo N (g, t, o, ()) = some (actG g t o (g.2.1.getD t.toNat [])) := by
  have hs := okG_small hN hg
  obtain ⟨k1, k11⟩ := opOk_kind ho
  obtain ⟨t0, t1⟩ := inB_nat ht
  have t1' : ¬ t < 0 := by omega
  have t2' : ¬ t ≥ (g.2.1.length : Int) := by unfold inB at ht; omega
  obtain ⟨z1, z2, z3, z4, z5, z6⟩ := begin_zero hz
  have hok := okG_iff.1 hg
  have hrs : okR g.1.length (g.2.1.getD t.toNat []) = true ∧ (g.2.1.getD t.toNat []).length ≤ 8 := by
    rw [getD_lt t1]
    have := hok.2.2.2.2.1 _ (List.getElem_mem t1)
    exact ⟨this.2, this.1⟩
  unfold FsGraphDo
  dsimp only
  refine obind_eq (r := .inl (t, g, o, ())) (by simp [sGraphOk_ok hN hs, hg, sOpOk_ok, ho, t1', t2']) ?_
  dsimp only [Sum.elim_inl]
  refine obind_eq (sl5Copy_ok hN hs) (cguard t0 (cguard t1 (obind_eq (sl5Begin_ok k1 k11) ?_)))
  dsimp only
  rw [hz]
  generalize hrse : g.2.1.getD t.toNat [] = rs at *
  have hra : ∀ {i : Int}, inB i rs.length → rs.getD i.toNat 0 ≠ -1 → 0 ≤ rs.getD i.toNat 0 ∧ (rs.getD i.toNat 0).toNat < g.1.length ∧ rs.getD i.toNat 0 < (g.1.length : Int) := by
    intro i hi hne
    obtain ⟨a, b⟩ := inB_nat hi
    rw [getD_lt b] at hne ⊢
    have := okR_iff.1 hrs.1 _ (List.getElem_mem b)
    omega
  obtain ⟨k, A, B, C, F, V, ⟨R, M, ⟨⟩⟩, ⟨⟩⟩ := o
  simp only at k1 k11 z1 z2 z3 z4 z5 z6
  have hmx : max t 0 = t := by omega
  rcases kind_cases k1 k11 with h | h | h | h | h | h | h | h | h | h | h <;> subst h
  · -- new
    simp only [opOk, shOk, Bool.and_eq_true, decide_eq_true_eq, Bool.or_eq_true, Bool.not_eq_true', decide_eq_false_iff_not] at ho
    have hsh := (ho.2.2.resolve_left (by simp))
    obtain ⟨r0, r4, m0, m4⟩ := hsh
    have m4' : M.toNat ≤ lim := by rw [lim_eq]; omega
    have l200 : ((g.1.length : Int) = 200) ↔ g.1.length = 200 := by omega
    rcases Classical.propComplete (g.1.length = 200) with e | e
    · simp [-List.getD_eq_getElem?_getD, l200, e, actG, sl5Fields_ok]
    · have hl1 : g.1.length + 1 ≤ lim := by rw [lim_eq]; omega
      have hl2 : rs.length + 1 ≤ lim := by rw [lim_eq]; omega
      have hw : w64 ((g.1.length : Int) + 1 - 1) = g.1.length := by rw [w64_id (by omega) (by omega)]; omega
      have hw2 : w64 (g.1.length : Int) = g.1.length := w64_id (by omega) (by omega)
      have m5 : M ≤ (lim : Int) := by have : (lim : Int) = 2147483648 := rfl; omega
      simp [-List.getD_eq_getElem?_getD, l200, e, actG, m0, m4', m5, hmx, hw2, sGraphDo_new hN, r0, r4, t0, t1, hl1, hl2, hw, hrse, sl5Fields_ok]
  · -- load
    obtain ⟨a1, a2, a3⟩ := inB_all (z2 (by omega) (by omega))
    obtain ⟨n1, n2, n3⟩ := hra (z2 (by omega) (by omega)) (z5 (by omega) (by omega) (by omega) (by omega))
    have hl2 : rs.length + 1 ≤ lim := by rw [lim_eq]; omega
    by_cases f : inB F (g.1.getD (rs.getD A.toNat 0).toNat nd0).1.length
    · obtain ⟨f1, f2, f3⟩ := inB_all f
      simp [-List.getD_eq_getElem?_getD, actG, sl5Fields_ok, a1, a2, a3, n1, n2, n3, hmx, sl5Field_ok, f, f1, f2, f3, t0, t1, hl2, hrse]
    · simp [-List.getD_eq_getElem?_getD, actG, sl5Fields_ok, a1, a2, a3, n1, n2, n3, hmx, sl5Field_ok, f]
  · -- store
    obtain ⟨a1, a2, a3⟩ := inB_all (z2 (by omega) (by omega))
    obtain ⟨b1, b2, b3⟩ := inB_all (z3 (by omega))
    obtain ⟨n1, n2, n3⟩ := hra (z2 (by omega) (by omega)) (z5 (by omega) (by omega) (by omega) (by omega))
    by_cases f : inB F (g.1.getD (rs.getD A.toNat 0).toNat nd0).1.length
    · obtain ⟨f1, f2, f3⟩ := inB_all f
      simp [-List.getD_eq_getElem?_getD, actG, sl5Fields_ok, a1, a2, a3, b1, b2, b3, n1, n2, n3, hmx, sl5Field_ok, f, f1, f2, f3, hrse]
    · simp [-List.getD_eq_getElem?_getD, actG, sl5Fields_ok, a1, a2, a3, n1, n2, n3, hmx, sl5Field_ok, f]
  · -- put
    obtain ⟨a1, a2, a3⟩ := inB_all (z2 (by omega) (by omega))
    obtain ⟨n1, n2, n3⟩ := hra (z2 (by omega) (by omega)) (z5 (by omega) (by omega) (by omega) (by omega))
    by_cases f : inB F (g.1.getD (rs.getD A.toNat 0).toNat nd0).2.1.length
    · obtain ⟨f1, f2, f3⟩ := inB_all f
      simp [-List.getD_eq_getElem?_getD, actG, sl5Fields_ok, a1, a2, a3, n1, n2, n3, hmx, sl5Field_ok, f, f1, f2, f3, hrse]
    · simp [-List.getD_eq_getElem?_getD, actG, sl5Fields_ok, a1, a2, a3, n1, n2, n3, hmx, sl5Field_ok, f]
  · -- get
    obtain ⟨a1, a2, a3⟩ := inB_all (z2 (by omega) (by omega))
    obtain ⟨n1, n2, n3⟩ := hra (z2 (by omega) (by omega)) (z5 (by omega) (by omega) (by omega) (by omega))
    by_cases f : inB F (g.1.getD (rs.getD A.toNat 0).toNat nd0).2.1.length
    · obtain ⟨f1, f2, f3⟩ := inB_all f
      simp [-List.getD_eq_getElem?_getD, actG, sl5Fields_ok, a1, a2, a3, n1, n2, n3, hmx, sl5Field_ok, f, f1, f2, f3, hrse]
    · simp [-List.getD_eq_getElem?_getD, actG, sl5Fields_ok, a1, a2, a3, n1, n2, n3, hmx, sl5Field_ok, f]
  · -- same
    obtain ⟨a1, a2, a3⟩ := inB_all (z2 (by omega) (by omega))
    obtain ⟨b1, b2, b3⟩ := inB_all (z3 (by omega))
    simp [-List.getD_eq_getElem?_getD, actG, sl5Fields_ok, a1, a2, a3, b1, b2, b3, hrse, hmx, sl5One_ok]
  · -- cas
    obtain ⟨a1, a2, a3⟩ := inB_all (z2 (by omega) (by omega))
    obtain ⟨b1, b2, b3⟩ := inB_all (z3 (by omega))
    obtain ⟨c1, c2, c3⟩ := inB_all (z4 (by omega))
    obtain ⟨n1, n2, n3⟩ := hra (z2 (by omega) (by omega)) (z5 (by omega) (by omega) (by omega) (by omega))
    by_cases f : inB F (g.1.getD (rs.getD A.toNat 0).toNat nd0).1.length
    · obtain ⟨f1, f2, f3⟩ := inB_all f
      by_cases e : (g.1.getD (rs.getD A.toNat 0).toNat nd0).1.getD F.toNat 0 = rs.getD B.toNat 0
      · simp [-List.getD_eq_getElem?_getD, actG, sl5Fields_ok, a1, a2, a3, b1, b2, b3, c1, c2, c3, n1, n2, n3, hmx, sl5Field_ok, f, f1, f2, f3, hrse, e]
      · simp [-List.getD_eq_getElem?_getD, actG, sl5Fields_ok, a1, a2, a3, b1, b2, b3, c1, c2, c3, n1, n2, n3, hmx, sl5Field_ok, f, f1, f2, f3, hrse, e]
    · simp [-List.getD_eq_getElem?_getD, actG, sl5Fields_ok, a1, a2, a3, n1, n2, n3, hmx, sl5Field_ok, f]
  · -- drop
    have hl := z1 rfl
    have hw : w64 ((rs.length : Int) - 1) = ((rs.length - 1 : Nat) : Int) := by rw [w64_id (by omega) (by omega)]; omega
    have h1 : ((rs.length - 1 : Nat) : Int) ≤ (rs.length : Int) := by omega
    simp [-List.getD_eq_getElem?_getD, actG, sl5Fields_ok, t0, t1, hw, hrse, hmx, h1]
  · -- dup
    obtain ⟨a1, a2, a3⟩ := inB_all (z2 (by omega) (by omega))
    have hl2 : rs.length + 1 ≤ lim := by rw [lim_eq]; omega
    simp [-List.getD_eq_getElem?_getD, actG, sl5Fields_ok, a1, a2, a3, t0, t1, hrse, hmx, hl2]
  · -- pin
    obtain ⟨a1, a2, a3⟩ := inB_all (z2 (by omega) (by omega))
    have hl2 : g.2.2.1.length + 1 ≤ lim := by rw [lim_eq]; omega
    by_cases e : g.2.2.1.length = 8
    · simp [-List.getD_eq_getElem?_getD, actG, sl5Fields_ok, a1, a2, a3, hrse, hmx, sl5Pins_pin hN hl2, e]
    · simp [-List.getD_eq_getElem?_getD, actG, sl5Fields_ok, a1, a2, a3, hrse, hmx, sl5Pins_pin hN hl2, e]
  · -- unpin
    obtain ⟨a1, a2, a3⟩ := inB_all (z2 (by omega) (by omega))
    have hl2 : g.2.2.1.length ≤ lim := by rw [lim_eq]; omega
    by_cases e : lastP g.2.2.1 (rs.getD A.toNat 0) < 0
    · simp [-List.getD_eq_getElem?_getD, actG, sl5Fields_ok, a1, a2, a3, hrse, hmx, sl5Pins_unpin hN hl2, e]
    · simp [-List.getD_eq_getElem?_getD, actG, sl5Fields_ok, a1, a2, a3, hrse, hmx, sl5Pins_unpin hN hl2, e]

theorem sGraphDo_ok {g : Gr} {t : Int} {o : Opx} (hs : smG g) : FsGraphDo N (g, t, o, ()) = some (doG g t o) := by
  by_cases hc : okG g = true ∧ inB t g.2.1.length ∧ opOk o = true
  · obtain ⟨hg, ht, ho⟩ := hc
    by_cases hz : beginC o (g.2.1.getD t.toNat []) (-1) = 0
    · rw [sGraphDo_act hN hg ht ho hz]
      simp only [doG, hg, ht, ho, hz, and_self, if_true]
    · obtain ⟨k1, k11⟩ := opOk_kind ho
      obtain ⟨t0, t1⟩ := inB_nat ht
      have t1' : ¬ t < 0 := by omega
      have t2' : ¬ t ≥ (g.2.1.length : Int) := by unfold inB at ht; omega
      unfold FsGraphDo
      dsimp only
      refine obind_eq (r := .inl (t, g, o, ())) (by simp [sGraphOk_ok hN hs, hg, sOpOk_ok, ho, t1', t2']) ?_
      dsimp only [Sum.elim_inl]
      refine obind_eq (sl5Copy_ok hN hs) (cguard t0 (cguard t1 (obind_eq (sl5Begin_ok k1 k11) ?_)))
      simp only [doG, hg, ht, ho, hz, and_self, if_true, if_false]
      generalize beginC o (g.2.1.getD t.toNat []) (-1) = c at hz ⊢
      simp [hz]
  · simp only [doG, hc, if_false]
    unfold FsGraphDo
    dsimp only
    cases hg : okG g with
    | false => simp [sGraphOk_ok hN hs, hg]
    | true =>
      by_cases h1 : t < 0
      · simp [sGraphOk_ok hN hs, hg, h1]
      · by_cases h2 : t ≥ (g.2.1.length : Int)
        · have h2' : (g.2.1.length : Int) ≤ t := h2
          simp [sGraphOk_ok hN hs, hg, h1, h2']
        · have ht : inB t g.2.1.length := by unfold inB; omega
          have ho : opOk o = false := by
            cases h : opOk o with
            | false => rfl
            | true => exact absurd ⟨hg, ht, h⟩ hc
          have h2' : ¬ (g.2.1.length : Int) ≤ t := h2
          simp [sGraphOk_ok hN hs, hg, h1, h2', sOpOk_ok, ho]
end
theorem okR_mono {m m' : Nat} {l : List Int} (h : okR m l = true) (hm : m ≤ m') : okR m' l = true := by
  rw [okR_iff] at h ⊢
  intro x hx
  have := h x hx
  omega

theorem okR_push {m : Nat} {l : List Int} {x : Int} (h : okR m l = true) (h1 : -1 ≤ x) (h2 : x < (m : Int)) : okR m (l ++ [x]) = true := by
  rw [okR_iff] at h ⊢
  intro y hy
  simp only [List.mem_append, List.mem_singleton] at hy
  rcases hy with hy | rfl
  · exact h y hy
  · exact ⟨h1, h2⟩

theorem okR_set {m : Nat} {l : List Int} {x : Int} {i : Nat} (h : okR m l = true) (h1 : -1 ≤ x) (h2 : x < (m : Int)) : okR m (l.set i x) = true := by
  rw [okR_iff] at h ⊢
  intro y hy
  rcases List.mem_or_eq_of_mem_set hy with hy | rfl
  · exact h y hy
  · exact ⟨h1, h2⟩

theorem okR_sub {m : Nat} {l l' : List Int} (h : okR m l = true) (hs : ∀ x ∈ l', x ∈ l) : okR m l' = true := by
  rw [okR_iff] at h ⊢
  exact fun y hy => h y (hs y hy)

theorem okR_get {m : Nat} {l : List Int} {i : Nat} (h : okR m l = true) (hi : i < l.length) : -1 ≤ l.getD i 0 ∧ l.getD i 0 < (m : Int) := by
  rw [getD_lt hi]
  exact okR_iff.1 h _ (List.getElem_mem hi)

theorem inBn {i : Int} {n : Nat} (h : inB i n) : 0 ≤ i ∧ i.toNat < n := by unfold inB at h; omega

theorem beginZ {o : Opx} {rs : List Int} {nil : Int} (h : beginC o rs nil = 0) : (o.1 = 8 → rs.length ≠ 0) ∧ (o.1 ≠ 1 → o.1 ≠ 8 → inB o.2.1 rs.length) ∧ (o.1 = 3 ∨ o.1 = 6 ∨ o.1 = 7 → inB o.2.2.1 rs.length) ∧ (o.1 = 7 → inB o.2.2.2.1 rs.length) ∧
    (o.1 ≠ 1 → o.1 ≠ 6 → o.1 ≠ 8 → o.1 ≠ 9 → rs.getD o.2.1.toNat 0 ≠ nil) ∧ (o.1 = 1 ∨ o.1 = 2 ∨ o.1 = 9 → rs.length ≠ 8) := by
  unfold beginC at h
  split at h
  · cases h
  · rename_i h1
    split at h
    · cases h
    · rename_i h2
      split at h
      · cases h
      · rename_i h3
        simp only [not_or, not_and, Decidable.not_not] at h1
        refine ⟨fun e => h1.1 e, fun e1 e2 => h1.2.1 e1 e2, fun e => h1.2.2.1 e, fun e => h1.2.2.2 e, fun e1 e2 e3 e4 e5 => h2 ⟨e1, e2, e3, e4, e5⟩, fun e1 e2 => h3 ⟨e1, e2⟩⟩

/-- A graph with other roots of a thread. -/
theorem okG_roots {g : Gr} {t : Int} {l : List Int} (h : okG g = true) (hl : l.length ≤ 8) (hr : okR g.1.length l = true) : okG (g.1, g.2.1.set t.toNat l, g.2.2.1, ()) = true := by
  obtain ⟨h1, h2, h3, h4, h5, h6, h7, h8⟩ := okG_iff.1 h
  refine okG_iff.2 ⟨h1, by simpa using h2, by simpa using h3, h4, fun r hm => ?_, h6, h7, h8⟩
  rcases List.mem_or_eq_of_mem_set hm with hm | rfl
  · exact h5 r hm
  · exact ⟨hl, hr⟩

/-- A graph with another node. -/
theorem okG_node {g : Gr} {i : Nat} {n : Nd} (h : okG g = true) (hn : n.1.length ≤ 4 ∧ n.2.1.length ≤ 4 ∧ okR g.1.length n.1 = true) : okG (g.1.set i n, g.2.1, g.2.2.1, ()) = true := by
  obtain ⟨h1, h2, h3, h4, h5, h6, h7, h8⟩ := okG_iff.1 h
  refine okG_iff.2 ⟨by simpa using h1, h2, h3, fun x hm => ?_, by simpa using h5, h6, h7, by simpa using h8⟩
  simp only [List.length_set]
  rcases List.mem_or_eq_of_mem_set hm with hm | rfl
  · exact h4 x hm
  · exact hn

theorem actG_ok {g : Gr} {t : Int} {o : Opx} (hg : okG g = true) (ht : inB t g.2.1.length) (ho : opOk o = true) (hz : beginC o (g.2.1.getD t.toNat []) (-1) = 0) : okG (actG g t o (g.2.1.getD t.toNat [])).2.2 = true := by
  obtain ⟨k1, k11⟩ := opOk_kind ho
  obtain ⟨t0, t1⟩ := inBn ht
  obtain ⟨z1, z2, z3, z4, z5, z6⟩ := beginZ hz
  have hok := okG_iff.1 hg
  have hrs : okR g.1.length (g.2.1.getD t.toNat []) = true ∧ (g.2.1.getD t.toNat []).length ≤ 8 := by
    rw [getD_lt t1]
    have := hok.2.2.2.2.1 _ (List.getElem_mem t1)
    exact ⟨this.2, this.1⟩
  generalize hrse : g.2.1.getD t.toNat [] = rs at *
  have hra : ∀ {i : Int}, inB i rs.length → -1 ≤ rs.getD i.toNat 0 ∧ rs.getD i.toNat 0 < (g.1.length : Int) := fun hi => okR_get hrs.1 (inBn hi).2
  have hnode : ∀ {i : Int}, inB i rs.length → rs.getD i.toNat 0 ≠ -1 → (g.1.getD (rs.getD i.toNat 0).toNat nd0).1.length ≤ 4 ∧ (g.1.getD (rs.getD i.toNat 0).toNat nd0).2.1.length ≤ 4 ∧ okR g.1.length (g.1.getD (rs.getD i.toNat 0).toNat nd0).1 = true := by
    intro i hi hne
    have := hra hi
    have hlt : (rs.getD i.toNat 0).toNat < g.1.length := by omega
    rw [getD_lt hlt]
    exact hok.2.2.2.1 _ (List.getElem_mem hlt)
  obtain ⟨k, A, B, C, F, V, ⟨R, M, ⟨⟩⟩, ⟨⟩⟩ := o
  simp only at k1 k11 z1 z2 z3 z4 z5 z6
  unfold actG
  dsimp only
  rcases kind_cases k1 k11 with h | h | h | h | h | h | h | h | h | h | h <;> subst h <;> simp only [Int.reduceEq, ↓reduceIte]
  · simp only [opOk, shOk, Bool.and_eq_true, decide_eq_true_eq, Bool.or_eq_true, Bool.not_eq_true', decide_eq_false_iff_not] at ho
    obtain ⟨r0, r4, m0, m4⟩ := ho.2.2.resolve_left (by simp)
    split
    · exact hg
    · rename_i hne
      have z6 := z6 (.inl rfl)
      obtain ⟨h1, h2, h3, h4, h5, h6, h7, h8⟩ := hok
      refine okG_iff.2 ⟨by simp; omega, by simpa using h2, by simpa using h3, fun x hm => ?_, fun r hm => ?_, h6, h7, okR_mono h8 (by simp)⟩
      · simp only [List.mem_append, List.mem_singleton] at hm
        rcases hm with hm | rfl
        · exact ⟨(h4 x hm).1, (h4 x hm).2.1, okR_mono (h4 x hm).2.2 (by simp)⟩
        · refine ⟨by simp; omega, by simp; omega, okR_iff.2 fun y hy => ?_⟩
          have := List.eq_of_mem_replicate hy
          subst this
          simp only [List.length_append, List.length_singleton]
          omega
      · rcases List.mem_or_eq_of_mem_set hm with hm | rfl
        · exact ⟨(h5 r hm).1, okR_mono (h5 r hm).2 (by simp)⟩
        · refine ⟨by simp; omega, okR_push (okR_mono hrs.1 (by simp)) (by omega) (by simp only [List.length_append, List.length_singleton]; omega)⟩
  · have hA := z2 (by omega) (by omega)
    have hn := hnode hA (z5 (by omega) (by omega) (by omega) (by omega))
    have z6 := z6 (.inr (.inl rfl))
    split
    · rename_i hF
      have := okR_get hn.2.2 (inBn hF).2
      exact okG_roots hg (by simp; omega) (okR_push hrs.1 this.1 this.2)
    · exact hg
  · have hA := z2 (by omega) (by omega)
    have hn := hnode hA (z5 (by omega) (by omega) (by omega) (by omega))
    have hB := hra (z3 (by omega))
    split
    · exact okG_node hg ⟨by simpa using hn.1, hn.2.1, okR_set hn.2.2 hB.1 hB.2⟩
    · exact hg
  · have hA := z2 (by omega) (by omega)
    have hn := hnode hA (z5 (by omega) (by omega) (by omega) (by omega))
    split
    · exact okG_node hg ⟨hn.1, by simpa using hn.2.1, hn.2.2⟩
    · exact hg
  · split <;> exact hg
  · exact hg
  · have hA := z2 (by omega) (by omega)
    have hn := hnode hA (z5 (by omega) (by omega) (by omega) (by omega))
    have hC := hra (z4 (by omega))
    split
    · split
      · exact okG_node hg ⟨by simpa using hn.1, hn.2.1, okR_set hn.2.2 hC.1 hC.2⟩
      · exact hg
    · exact hg
  · exact okG_roots hg (by simp; omega) (okR_sub hrs.1 fun x hx => List.mem_of_mem_take hx)
  · have hA := hra (z2 (by omega) (by omega))
    have z6 := z6 (.inr (.inr rfl))
    exact okG_roots hg (by simp; omega) (okR_push hrs.1 hA.1 hA.2)
  · have hA := z2 (by omega) (by omega)
    have hAr := hra hA
    have hne := z5 (by omega) (by omega) (by omega) (by omega)
    split
    · exact hg
    · obtain ⟨h1, h2, h3, h4, h5, h6, h7, h8⟩ := hok
      refine okG_iff.2 ⟨h1, h2, h3, h4, h5, by simp; omega, fun x hx => ?_, okR_push h8 hAr.1 hAr.2⟩
      simp only [List.mem_append, List.mem_singleton] at hx
      rcases hx with hx | rfl
      · exact h7 x hx
      · omega
  · split
    · exact hg
    · obtain ⟨h1, h2, h3, h4, h5, h6, h7, h8⟩ := hok
      have hsub : ∀ x ∈ g.2.2.1.take (lastP g.2.2.1 (rs.getD A.toNat 0)).toNat ++ g.2.2.1.drop ((lastP g.2.2.1 (rs.getD A.toNat 0)).toNat + 1), x ∈ g.2.2.1 := by
        intro x hx
        rcases List.mem_append.1 hx with hx | hx
        · exact List.mem_of_mem_take hx
        · exact List.mem_of_mem_drop hx
      exact okG_iff.2 ⟨h1, h2, h3, h4, h5, by simp; omega, fun x hx => h7 x (hsub x hx), okR_sub h8 hsub⟩

theorem doG_ok {g : Gr} {t : Int} {o : Opx} (h : (doG g t o).2.1 ≠ 1) : okG g = true ∧ okG (doG g t o).2.2 = true := by
  unfold doG at h ⊢
  split
  · rename_i hc
    refine ⟨hc.1, ?_⟩
    split
    · rename_i hz; exact actG_ok hc.1 hc.2.1 hc.2.2 hz
    · exact hc.1
  · rename_i hc; simp [hc] at h

theorem actG_len {g : Gr} {t : Int} {o : Opx} {rs : List Int} : g.1.length ≤ (actG g t o rs).2.2.1.length ∧ (actG g t o rs).2.2.2.1.length = g.2.1.length := by
  by_cases h1 : o.1 = 1
  · simp only [actG, h1, Int.reduceEq, ↓reduceIte]
    split <;> simp
  by_cases h2 : o.1 = 2
  · simp only [actG, h2, Int.reduceEq, ↓reduceIte]
    split <;> simp
  by_cases h3 : o.1 = 3
  · simp only [actG, h3, Int.reduceEq, ↓reduceIte]
    split <;> simp
  by_cases h4 : o.1 = 4
  · simp only [actG, h4, Int.reduceEq, ↓reduceIte]
    split <;> simp
  by_cases h5 : o.1 = 5
  · simp only [actG, h5, Int.reduceEq, ↓reduceIte]
    split <;> simp
  by_cases h6 : o.1 = 6
  · simp only [actG, h6, Int.reduceEq, ↓reduceIte]
    simp
  by_cases h7 : o.1 = 7
  · simp only [actG, h7, Int.reduceEq, ↓reduceIte]
    (repeat' split) <;> simp
  by_cases h8 : o.1 = 8
  · simp only [actG, h8, Int.reduceEq, ↓reduceIte]
    simp
  by_cases h9 : o.1 = 9
  · simp only [actG, h9, Int.reduceEq, ↓reduceIte]
    simp
  by_cases h10 : o.1 = 10
  · simp only [actG, h10, Int.reduceEq, ↓reduceIte]
    split <;> simp
  simp only [actG, h1, h2, h3, h4, h5, h6, h7, h8, h9, h10, if_false]
  split <;> simp

theorem doG_len {g : Gr} {t : Int} {o : Opx} (h : (doG g t o).2.1 ≠ 1) : g.1.length ≤ (doG g t o).2.2.1.length ∧ (doG g t o).2.2.2.1.length = g.2.1.length := by
  unfold doG at h ⊢
  split
  · split
    · exact actG_len
    · exact ⟨Nat.le_refl _, rfl⟩
  · rename_i hc; simp [hc] at h
section
variable {N : Nat} (hN : lim < N)
include hN

theorem sGraphNew_ok {n : Int} (h1 : 1 ≤ n) (h3 : n ≤ 3) : FsGraphNew N (n, ()) = some (true, [([-1, -1, -1, -1], [0, 0], ())], List.replicate n.toNat [0], ()) := by
  have hN' : 2147483648 < N := by rw [lim_eq] at hN; exact hN
  obtain ⟨m, rfl⟩ : ∃ m, N = m + 10 := ⟨N - 10, by omega⟩
  have e0 : ∀ a b, lsGraphNew_0 (m + 10) (m + 10) (a, 0, [], b, ()) = some (a, [-1, -1, -1, -1], b, ()) := by
    intro a b
    have w1 : w64 1 = 1 := by decide
    have w2 : w64 2 = 2 := by decide
    have w3 : w64 3 = 3 := by decide
    have w4 : w64 4 = 4 := by decide
    simp [lsGraphNew_0, w1, w2, w3, w4, lim_eq]
  have e2 : ∀ a, lsGraphNew_2 (m + 10) (m + 10) (n, 0, a, [], ()) = some (a, List.replicate n.toNat [0], ()) := by
    intro a
    have w1 : w64 1 = 1 := by decide
    have w2 : w64 2 = 2 := by decide
    have w3 : w64 3 = 3 := by decide
    have : n = 1 ∨ n = 2 ∨ n = 3 := by omega
    rcases this with h | h | h <;> subst h <;> simp [lsGraphNew_2, w1, w2, w3, lim_eq] <;> rfl
  have c1 : ¬ n < 1 := by omega
  have c2 : ¬ n > 3 := by omega
  have c3 : ¬ 3 < n := by omega
  simp [FsGraphNew, c1, c2, c3, e0, e2, lim_eq]

theorem newG_ok {n : Int} (h1 : 1 ≤ n) (h3 : n ≤ 3) : okG ([([-1, -1, -1, -1], [0, 0], ())], List.replicate n.toNat [0], [], ()) = true := by
  refine okG_iff.2 ⟨by simp, by simp; omega, by simp; omega, ?_, ?_, by simp, by simp, by rfl⟩
  · intro x hx
    simp only [List.mem_singleton] at hx
    subst hx
    exact ⟨by decide, by decide, by simp [okR]⟩
  · intro r hr
    have := List.eq_of_mem_replicate hr
    subst this
    exact ⟨by decide, by simp [okR]⟩

theorem l20Graph_0_ok {cnt : Int} {b : List Int} (hb : byteL b) (hc : cnt ≤ 30) : ∀ (n i : Nat) (p : Int) (g : Gr), 30 - i < n → i ≤ 30 → okG g = true → 1 ≤ g.1.length → 0 ≤ p → p < 1099511000000 - 40 * (30 - i) →
    Ret (lsl20Graph_0 N n (cnt, (i : Int), b, p, g.1, g.2.1, g.2.2.1, ())) (fun r => r.1 = b ∧ p ≤ r.2.1 ∧ r.2.1 ≤ p + 40 * (30 - i) ∧ okG r.2.2 = true ∧ 1 ≤ r.2.2.1.length)
  | 0, _, _, _, h, _, _, _, _, _ => absurd h (Nat.not_lt_zero _)
  | n + 1, i, p, g, hn, hi0, hg, h1, hp, hp' => by
    have hok := okG_iff.1 hg
    have hs := okG_small hN hg
    unfold lsl20Graph_0
    dsimp only
    refine Ret.dec (fun hi => ?_) (fun hi => ?_)
    · refine pick_bind hb (by omega) (by omega) (fun t t0 t1 => ?_)
      dsimp only
      have ht : t.toNat < g.2.1.length := by omega
      refine Ret.guard t0 (Ret.guard ht ?_)
      refine Ret.bind _ (l20Op_ok hb (by omega) (by omega)) (fun r hr => ?_)
      obtain ⟨k, A, B, C, F, V, R, M, b', p', ⟨⟩⟩ := r
      simp only at hr
      obtain ⟨rfl, p1, p2⟩ := hr
      dsimp only
      have hw : w64 ((i : Int) + 1) = ((i + 1 : Nat) : Int) := w64_succ (by omega)
      refine Ret.bindE (sGraphDo_ok hN (g := g) (t := t) (o := (k, A, B, C, F, V, (R, M, ()), ())) hs) ?_
      have hi30 : (i : Int) < 30 := by omega
      rw [hw]
      by_cases hcode : (doG g t (k, A, B, C, F, V, (R, M, ()), ())).2.1 = 1
      · simp only [hcode, bne_self_eq_false, cond_false]
        refine (l20Graph_0_ok hb hc n (i + 1) p' g (by omega) (by omega) hg h1 (by omega) (by omega)).mono fun r hr => ?_
        obtain ⟨r1, r2, r3, r5, r6⟩ := hr
        exact ⟨r1, by omega, by omega, r5, r6⟩
      · have hb2 : ((doG g t (k, A, B, C, F, V, (R, M, ()), ())).2.1 != 1) = true := by simpa using hcode
        simp only [hb2, cond_true]
        obtain ⟨_, hg'⟩ := doG_ok hcode
        obtain ⟨hl', _⟩ := doG_len hcode
        refine (l20Graph_0_ok hb hc n (i + 1) p' (doG g t (k, A, B, C, F, V, (R, M, ()), ())).2.2 (by omega) (by omega) hg' (by omega) (by omega) (by omega)).mono fun r hr => ?_
        obtain ⟨r1, r2, r3, r5, r6⟩ := hr
        exact ⟨r1, by omega, by omega, r5, r6⟩
    · exact Ret.pure ⟨rfl, by dsimp only; omega, by dsimp only; omega, hg, h1⟩

theorem l20Graph_3_ok {b : List Int} (hb : byteL b) (rs : List (List Int)) (ps : List Int) : ∀ (n : Nat) (p : Int) (ns : List Nd), 201 - ns.length < n → ns.length ≤ 201 → 0 ≤ p → p < 1099511500000 + ns.length → (∀ x ∈ ns, smN x) →
    Ret (lsl20Graph_3 N n (b, p, ns, rs, ps, ())) (fun r => r.1.length ≤ 201 ∧ ns.length ≤ r.1.length ∧ (∀ x ∈ r.1, smN x) ∧ r.2.1 = rs ∧ r.2.2.1 = ps ∧ r.2.2.2.1 = b ∧ p ≤ r.2.2.2.2.1 ∧ r.2.2.2.2.1 ≤ p + 202 - ns.length)
  | 0, _, _, h, _, _, _, _ => absurd h (Nat.not_lt_zero _)
  | n + 1, p, ns, hn, hl, hp, hp', hx => by
    unfold lsl20Graph_3
    dsimp only
    refine pick_bind hb (by omega) (by omega) (fun v v0 v1 => ?_)
    dsimp only
    have hw : w64 (200 + v) = 200 + v := w64_id (by omega) (by omega)
    rw [hw]
    refine Ret.dec (fun h => ?_) (fun h => ?_)
    · refine Ret.guard (by rw [lim_eq]; simp; omega) ?_
      refine (l20Graph_3_ok hb rs ps n (p + 1) (ns ++ [([], [], ())]) (by simp; omega) (by simp; omega) (by omega) (by simp; omega) ?_).mono fun r hr => ?_
      · intro x hm
        simp only [List.mem_append, List.mem_singleton] at hm
        rcases hm with hm | rfl
        · exact hx x hm
        · exact ⟨by simp [sm], by simp [sm]⟩
      · obtain ⟨r1, r2, r3, r4, r5, r6, r7, r8⟩ := hr
        simp only [List.length_append, List.length_singleton] at r2 r8
        exact ⟨r1, by omega, r3, r4, r5, r6, by omega, by omega⟩
    · exact Ret.pure ⟨hl, Nat.le_refl _, hx, rfl, rfl, rfl, by dsimp only; omega, by dsimp only; omega⟩

theorem l20Graph_ok {b : List Int} {p : Int} (hb : byteL b) (hp : 0 ≤ p) (hp' : p < 1000000) :
    Ret (Fsl20Graph N (b, p, ())) (fun r => smG (r.1, r.2.1, r.2.2.1, ()) ∧ 1 ≤ r.1.length ∧ 1 ≤ r.2.1.length ∧ r.2.2.2.1 = b ∧ p ≤ r.2.2.2.2.1 ∧ r.2.2.2.2.1 ≤ p + 2000) := by
  have hN' : 2147483648 < N := by rw [lim_eq] at hN; exact hN
  unfold Fsl20Graph
  dsimp only
  refine pick_bind hb (by omega) (by omega) (fun v1 a1 c1 => ?_)
  dsimp only
  have hw : w64 (1 + v1) = 1 + v1 := w64_id (by omega) (by omega)
  rw [hw]
  refine Ret.bindE (sGraphNew_ok hN (by omega) (by omega)) ?_
  dsimp only
  refine pick_bind hb (by omega) (by omega) (fun v2 a2 c2 => ?_)
  dsimp only
  have h0 := l20Graph_0_ok hN (cnt := v2) hb (by omega) N 0 (p + 1 + 1) ([([-1, -1, -1, -1], [0, 0], ())], List.replicate (1 + v1).toNat [0], [], ()) (by omega) (by omega) (newG_ok hN (by omega) (by omega)) (by simp) (by omega) (by omega)
  refine Ret.bind _ h0 (fun o ho => ?_)
  obtain ⟨b', p', g⟩ := o
  simp only at ho
  obtain ⟨rfl, q1, q2, hg, hg1⟩ := ho
  have hok := okG_iff.1 hg
  have hs := okG_small hN hg
  dsimp only
  refine pick_bind hb (by omega) (by omega) (fun v3 a3 c3 => ?_)
  dsimp only
  refine Ret.beq (fun e => ?_) (fun e => ?_)
  · refine pick_bind hb (by omega) (by omega) (fun v4 a4 c4 => ?_)
    dsimp only
    refine Ret.guard (by omega) (Ret.guard (by show (0 : Nat) < _; omega) (Ret.pure ?_))
    refine ⟨⟨by simpa using hs.1, fun x hm => ?_, hs.2.2⟩, by simpa using hg1, hok.2.1, rfl, by dsimp only; omega, by dsimp only; omega⟩
    rcases List.mem_or_eq_of_mem_set hm with hm | rfl
    · exact hs.2.1 x hm
    · refine ⟨by simp [sm], ?_⟩
      have := hs.2.1 _ (List.getElem_mem (show 0 < g.1.length by omega))
      have e0 : g.1.getD (0 : Int).toNat ([], [], ()) = g.1[0]'(by omega) := getD_lt (show 0 < g.1.length by omega)
      rw [e0]
      exact this.2
  refine Ret.beq (fun e => ?_) (fun e => ?_)
  · refine Ret.guard (by omega) (Ret.guard (by show (0 : Nat) < _; omega) ?_)
    have hr0 := hok.2.2.2.2.1 _ (List.getElem_mem (show 0 < g.2.1.length by omega))
    have e0 : g.2.1.getD (0 : Int).toNat [] = g.2.1[0]'(by omega) := getD_lt (show 0 < g.2.1.length by omega)
    refine Ret.bindE (sl5Ints_ok hN (by rw [e0, lim_eq]; omega)) ?_
    dsimp only
    refine pick_bind hb (by omega) (by omega) (fun v4 a4 c4 => ?_)
    dsimp only
    refine Ret.guard (by rw [e0, lim_eq]; simp; omega) (Ret.guard (by omega) (Ret.guard (by show (0 : Nat) < _; omega) (Ret.pure ?_)))
    refine ⟨⟨hs.1, hs.2.1, by simpa using hs.2.2.1, fun x hm => ?_, hs.2.2.2.2⟩, hg1, by simpa using hok.2.1, rfl, by dsimp only; omega, by dsimp only; omega⟩
    rcases List.mem_or_eq_of_mem_set hm with hm | rfl
    · exact hs.2.2.2.1 x hm
    · rw [e0]; simp [sm]; omega
  refine Ret.beq (fun e => ?_) (fun e => ?_)
  · refine Ret.guard (by rw [lim_eq]; simp; omega) (Ret.pure ?_)
    refine ⟨⟨hs.1, hs.2.1, by simp [sm]; omega, fun x hm => ?_, hs.2.2.2.2⟩, hg1, by simp, rfl, by dsimp only; omega, by dsimp only; omega⟩
    simp only [List.mem_append, List.mem_cons, List.not_mem_nil, or_false] at hm
    rcases hm with hm | rfl | rfl
    · exact hs.2.2.2.1 x hm
    · simp [sm]
    · simp [sm]
  refine Ret.beq (fun e => ?_) (fun e => ?_)
  · refine Ret.bind _ (l20Graph_3_ok hN hb g.2.1 g.2.2.1 N (p' + 1) g.1 (by omega) (by omega) (by omega) (by omega) hs.2.1) (fun r hr => ?_)
    obtain ⟨r1, r2, r3, r4, r5, r6, r7, r8⟩ := hr
    refine Ret.pure ⟨⟨by simp [sm]; omega, r3, ?_⟩, by dsimp only; omega, by dsimp only; rw [r4]; exact hok.2.1, r6, by dsimp only; omega, by dsimp only; omega⟩
    dsimp only
    rw [r4, r5]
    exact hs.2.2
  · exact Ret.pure ⟨hs, hg1, hok.2.1, rfl, by dsimp only; omega, by dsimp only; omega⟩

theorem sl1Open_ok {code : List Int} (hb : ∀ x ∈ code, 0 ≤ x ∧ x < 256) : ∃ b, Fsl1Open_a N (code, ()) = some (b, 0, ()) ∧ byteL b := by
  by_cases h : code.length > 2000
  · have h1 : (code.length : Int) > 2000 := by omega
    have h2 : (2000 : Int) ≤ code.length := by omega
    refine ⟨(code.drop 0).take (2000 - 0), by simp only [Fsl1Open_a, h1, h2]; rfl, by simp; omega, fun x hx => hb x ?_⟩
    exact List.mem_of_mem_take (i := 2000) (by simpa using hx)
  · have h1 : ¬ (code.length : Int) > 2000 := by omega
    exact ⟨code, by simp only [Fsl1Open_a, h1]; rfl, by omega, hb⟩
end
section
variable {N : Nat} (hN : lim < N)
include hN

theorem sDrawGraphDo_ok {code : List Int} (hb : ∀ x ∈ code, 0 ≤ x ∧ x < 256) : ∃ t k A B C F V R M g, FsDrawGraphDo N (code, ()) = some (t, k, A, B, C, F, V, R, M, g) ∧ smG g := by
  obtain ⟨b, e, hb'⟩ := sl1Open_ok hN hb
  have key : Ret (FsDrawGraphDo N (code, ())) (fun r => smG r.2.2.2.2.2.2.2.2.2) := by
    unfold FsDrawGraphDo
    dsimp only
    refine Ret.bindE e ?_
    refine Ret.bind _ (l20Graph_ok hN hb' (p := 0) (by omega) (by omega)) (fun r hr => ?_)
    obtain ⟨ns, rs, ps, b2, p, ⟨⟩⟩ := r
    obtain ⟨hs, hl1, hl2, hb2, hp1, hp2⟩ := hr
    dsimp only at hb2 hp1 hp2 hl1 hl2 hs ⊢
    subst hb2
    refine pick_bind hb' (by omega) (by omega) (fun t t0 t1 => ?_)
    dsimp only
    refine Ret.guard t0 (Ret.guard (by omega) ?_)
    refine Ret.bind _ (l20Op_ok hb' (by omega) (by omega)) (fun o ho => ?_)
    obtain ⟨k, A, B, C, F, V, R, M, b3, q, ⟨⟩⟩ := o
    obtain ⟨hb3, q1, q2⟩ := ho
    dsimp only at hb3 q1 q2 ⊢
    subst hb3
    refine Ret.bind (fun o => smG (o.2.2.2.2.2.2.2.2.2.1, o.2.2.2.2.2.2.2.2.2.2.1, o.2.2.2.2.2.2.2.2.2.2.2.1, ())) ?_ (fun o ho => Ret.pure ho)
    refine pick_bind hb' (by omega) (by omega) (fun v v0 v1 => ?_)
    dsimp only
    refine Ret.beq (fun _ => ?_) (fun _ => Ret.pure hs)
    refine pick_bind hb' (by omega) (by omega) (fun v v0 v1 => ?_)
    dsimp only
    refine Ret.guard v0 (Ret.guard (by simp only [List.length_cons, List.length_nil]; omega) (Ret.pure hs))
  obtain ⟨⟨t, k, A, B, C, F, V, R, M, g⟩, e, h⟩ := key
  exact ⟨t, k, A, B, C, F, V, R, M, g, e, h⟩
end
section
variable {N : Nat}

theorem iShapeOk_ok (s : Int × Int × Unit) : FiShapeOk N (s, ()) = some (shOk s, ()) := by
  simp only [FiShapeOk, shOk, ge_iff_le]
  by_cases h1 : 0 ≤ s.1 <;> by_cases h2 : s.1 ≤ 4 <;> by_cases h3 : 0 ≤ s.2.1 <;> simp [h1, h2, h3]

theorem iOpOk_ok (o : Opx) : FiOpOk N (o, ()) = some (opOk o, ()) := by
  simp only [FiOpOk, opOk, iShapeOk_ok, ge_iff_le]
  by_cases h1 : 1 ≤ o.1 <;> by_cases h2 : o.1 ≤ 11 <;> by_cases h3 : o.1 = 1 <;> simp [h1, h2, h3]

theorem itruth_ok (b : Bool) : Fitruth N (b, ()) = some (if b = true then 1 else 0, ()) := by
  cases b <;> simp [Fitruth]

theorem iOp_field_ok {o : Opx} {r m : Nat} : FiOp_field N (o, (r : Int), (m : Int), ()) = some (if o.1 = 2 ∨ o.1 = 3 ∨ o.1 = 4 ∨ o.1 = 5 ∨ o.1 = 7 then decide (inB o.2.2.2.2.1 (if o.1 = 4 ∨ o.1 = 5 then m else r)) else true, ()) := by
  obtain ⟨k, A, B, C, F, V, S, ⟨⟩⟩ := o
  simp only [FiOp_field, inB, ge_iff_le]
  by_cases h1 : k = 2
  · by_cases h : 0 ≤ F <;> simp [h1, h]
  by_cases h2 : k = 3
  · by_cases h : 0 ≤ F <;> simp [h2, h]
  by_cases h3 : k = 4
  · by_cases h : 0 ≤ F <;> simp [h3, h]
  by_cases h4 : k = 5
  · by_cases h : 0 ≤ F <;> simp [h4, h]
  by_cases h5 : k = 7
  · by_cases h : 0 ≤ F <;> simp [h5, h]
  simp [h1, h2, h3, h4, h5]

variable (hN : lim < N)
include hN

theorem iOp_early_loop {rs hs : List Int} {nil : Int} {o : Opx} (hl : hs.length ≤ lim) : liOp_early_0 N N (rs, nil, o, (hs.length : Int), 0, hs, ()) =
    some (if (hs.all fun h => decide (inB h rs.length)) = true then .inl (rs, nil, o, ()) else .inr (2, ())) := by
  have key : ∀ n i, i ≤ hs.length → hs.length - i < n → liOp_early_0 N n (rs, nil, o, (hs.length : Int), (i : Int), hs, ()) =
      some (if ((hs.drop i).all fun h => decide (inB h rs.length)) = true then .inl (rs, nil, o, ()) else .inr (2, ())) := by
    intro n
    induction n with
    | zero => intro i _ h; exact absurd h (Nat.not_lt_zero _)
    | succ n ih =>
      intro i hi hn
      by_cases h : i < hs.length
      · have w1 : w64 ((i : Int) + 1) = ((i + 1 : Nat) : Int) := w64_succ (by have : lim = 2147483648 := rfl; omega)
        have := ih (i + 1) (by omega) (by omega)
        rw [drop_at h]
        simp only [List.all_cons]
        simp only [liOp_early_0, w1, Int.ofNat_lt, h, decide_true, cond_true, Int.natCast_nonneg, Int.toNat_natCast, getD_lt h]
        by_cases h1 : hs[i] < 0
        · have : ¬ inB hs[i] rs.length := by unfold inB; omega
          simp [h1, this]
        · by_cases h2 : hs[i] ≥ (rs.length : Int)
          · have : ¬ inB hs[i] rs.length := by unfold inB; omega
            simp only [h1, h2, this, decide_false, decide_true, cond_false, cond_true, Bool.false_and, Bool.false_eq_true, if_false]
          · have h3 : inB hs[i] rs.length := by unfold inB; omega
            simp only [h1, h2, h3, decide_false, decide_true, cond_false, Bool.true_and]
            exact this
      · have : i = hs.length := by omega
        subst this
        simp [liOp_early_0]
  simpa using key N 0 (by omega) (by omega)

theorem iOp_early_ok {o : Opx} {rs : List Int} {nil : Int} (h1 : 1 ≤ o.1) (h2 : o.1 ≤ 11) (hr : rs.length ≤ 8) : FiOp_early N (o, rs, nil, ()) = some (beginC o rs nil, ()) := by
  obtain ⟨k, A, B, C, F, V, S, ⟨⟩⟩ := o
  simp only at h1 h2
  have hlim : lim = 2147483648 := rfl
  have l8 : (8 ≤ rs.length) ↔ rs.length = 8 := by omega
  have key : ∀ {i : Int}, inB i rs.length → 0 ≤ i ∧ i.toNat < rs.length := fun h => by unfold inB at h; omega
  have pe := Classical.propComplete (rs.length = 8)
  have pe0 := Classical.propComplete (rs.length = 0)
  have e0 := iOp_early_loop hN (rs := rs) (hs := []) (nil := nil) (o := (k, A, B, C, F, V, S, ())) (by simp)
  have e1 := iOp_early_loop hN (rs := rs) (hs := [A]) (nil := nil) (o := (k, A, B, C, F, V, S, ())) (by simp [hlim])
  have e2 := iOp_early_loop hN (rs := rs) (hs := [A, B]) (nil := nil) (o := (k, A, B, C, F, V, S, ())) (by simp [hlim])
  have e3 := iOp_early_loop hN (rs := rs) (hs := [A, B, C]) (nil := nil) (o := (k, A, B, C, F, V, S, ())) (by simp [hlim])
  unfold FiOp_early
  dsimp only
  rcases kind_cases h1 h2 with h | h | h | h | h | h | h | h | h | h | h <;> subst h
  · simp only [FiOp_handles, show ((1 : Int) == 1) = true from rfl, cond_true, Option.bind_some, e0]
    rcases pe with e | e <;> simp [beginC, l8, e]
  · refine obind_eq (r := ([A], ())) (by simp [FiOp_handles]) ?_
    rw [e1]
    by_cases a : inB A rs.length
    · obtain ⟨a1, a2⟩ := key a
      rcases pe with e | e <;> by_cases n : rs[A.toNat] = nil <;> simp [beginC, l8, e, a, a1, a2, n]
    · simp [beginC, a]
  · refine obind_eq (r := ([A, B], ())) (by simp [FiOp_handles]) ?_
    rw [e2]
    by_cases a : inB A rs.length
    · obtain ⟨a1, a2⟩ := key a
      by_cases b : inB B rs.length
      · by_cases n : rs[A.toNat] = nil <;> simp [beginC, a, b, a1, a2, n]
      · simp [beginC, a, b]
    · simp [beginC, a]
  · refine obind_eq (r := ([A], ())) (by simp [FiOp_handles]) ?_
    rw [e1]
    by_cases a : inB A rs.length
    · obtain ⟨a1, a2⟩ := key a
      by_cases n : rs[A.toNat] = nil <;> simp [beginC, a, a1, a2, n]
    · simp [beginC, a]
  · refine obind_eq (r := ([A], ())) (by simp [FiOp_handles]) ?_
    rw [e1]
    by_cases a : inB A rs.length
    · obtain ⟨a1, a2⟩ := key a
      by_cases n : rs[A.toNat] = nil <;> simp [beginC, a, a1, a2, n]
    · simp [beginC, a]
  · refine obind_eq (r := ([A, B], ())) (by simp [FiOp_handles]) ?_
    rw [e2]
    by_cases a : inB A rs.length
    · obtain ⟨a1, a2⟩ := key a
      by_cases b : inB B rs.length
      · simp [beginC, a, b]
      · simp [beginC, a, b]
    · simp [beginC, a]
  · refine obind_eq (r := ([A, B, C], ())) (by simp [FiOp_handles]) ?_
    rw [e3]
    by_cases a : inB A rs.length
    · obtain ⟨a1, a2⟩ := key a
      by_cases b : inB B rs.length
      · by_cases c : inB C rs.length
        · by_cases n : rs[A.toNat] = nil <;> simp [beginC, a, b, c, a1, a2, n]
        · simp [beginC, a, b, c]
      · simp [beginC, a, b]
    · simp [beginC, a]
  · refine obind_eq (r := ([], ())) (by simp [FiOp_handles]) ?_
    have e0' : liOp_early_0 N N (rs, nil, (8, A, B, C, F, V, S, ()), (([] : List Int).length : Int), 0, [], ()) = _ := e0
    rw [e0']
    clear e0 e0' e1 e2 e3
    have z0 : (rs = []) ↔ rs.length = 0 := List.length_eq_zero_iff.symm
    rcases pe0 with e | e <;> simp [beginC, z0, e]
  · refine obind_eq (r := ([A], ())) (by simp [FiOp_handles]) ?_
    rw [e1]
    by_cases a : inB A rs.length
    · rcases pe with e | e <;> simp [beginC, l8, e, a]
    · simp [beginC, a]
  · refine obind_eq (r := ([A], ())) (by simp [FiOp_handles]) ?_
    rw [e1]
    by_cases a : inB A rs.length
    · obtain ⟨a1, a2⟩ := key a
      by_cases n : rs[A.toNat] = nil <;> simp [beginC, a, a1, a2, n]
    · simp [beginC, a]
  · refine obind_eq (r := ([A], ())) (by simp [FiOp_handles]) ?_
    rw [e1]
    by_cases a : inB A rs.length
    · obtain ⟨a1, a2⟩ := key a
      by_cases n : rs[A.toNat] = nil <;> simp [beginC, a, a1, a2, n]
    · simp [beginC, a]

theorem lastFrom_snoc {a : Int} : ∀ (l : List Int) (x i at' : Int), lastFrom (l ++ [x]) a i at' = if x = a then i + l.length else lastFrom l a i at'
  | [], x, i, at' => by simp [lastFrom]
  | y :: l, x, i, at' => by
    simp only [List.cons_append, lastFrom, lastFrom_snoc l, List.length_cons]
    split
    · omega
    · rfl

theorem ilastOf_ok {xs : List Int} {a : Int} (hl : xs.length ≤ lim) : FilastOf N (xs, a, ()) = some (lastP xs a, ()) := by
  have hlim : lim = 2147483648 := rfl
  have key : ∀ n i, i ≤ xs.length → i < n → lilastOf_0 N n (xs, a, (i : Int) - 1, ()) = some (if lastP (xs.take i) a < 0 then .inl () else .inr (lastP (xs.take i) a, ())) ∧ (lastP (xs.take i) a < 0 → lastP (xs.take i) a = -1) := by
    intro n
    induction n with
    | zero => intro i _ h; exact absurd h (Nat.not_lt_zero _)
    | succ n ih =>
      intro i hi hn
      cases i with
      | zero => simp [lilastOf_0, lastP, lastFrom]
      | succ i =>
        have hi' : i < xs.length := by omega
        have w1 : w64 ((i : Int) - 1) = (i : Int) - 1 := w64_id (by omega) (by omega)
        have e : ((i + 1 : Nat) : Int) - 1 = i := by omega
        obtain ⟨ih, ih2⟩ := ih i (by omega) (by omega)
        have ht : xs.take (i + 1) = xs.take i ++ [xs[i]] := (List.take_append_getElem hi').symm
        have hs : lastP (xs.take (i + 1)) a = if xs[i] = a then (i : Int) else lastP (xs.take i) a := by
          unfold lastP
          rw [ht, lastFrom_snoc hN]
          have : (xs.take i).length = i := by simp; omega
          rw [this]
          simp
        rw [hs, e]
        simp only [lilastOf_0, w1, ge_iff_le, Int.natCast_nonneg, decide_true, cond_true, Int.toNat_natCast, hi', getD_lt hi']
        by_cases h : xs[i] = a
        · have : ¬ ((i : Int) < 0) := by omega
          simp [h, this]
        · have hb : (xs[i] == a) = false := by simpa using h
          simp only [hb, cond_false, h, if_false]
          exact ⟨ih, ih2⟩
  obtain ⟨k1, k2⟩ := key N xs.length (by omega) (by omega)
  rw [List.take_length] at k1 k2
  have w1 : w64 ((xs.length : Int) - 1) = (xs.length : Int) - 1 := w64_id (by omega) (by omega)
  simp only [FilastOf, w1, k1, Option.bind_some]
  by_cases h : lastP xs a < 0
  · simp [h, k2 h]
  · simp [h]
end
theorem lay_take {α : Type} {xs ys : List α} {p : Nat} (h : p ≤ xs.length) : (lay xs p ys).take (p + ys.length) = xs.take p ++ ys := by
  have h1 : (xs.take p ++ ys).length = p + ys.length := by simp; omega
  unfold lay
  rw [← h1, List.take_left]
theorem lay_take' {α : Type} {xs ys : List α} {p q : Nat} (h : p ≤ xs.length) (hq : q ≤ p) : (lay xs p ys).take q = xs.take q := by
  unfold lay
  rw [List.append_assoc, List.take_append_of_le_length (by simp; omega), List.take_take, Nat.min_eq_left hq]

section
variable {N : Nat}

theorem kDelete_ok {xs : List Int} {i : Nat} (hi : i < xs.length) : FkDelete_Sint_int N ((i : Int), ((i + 1 : Nat) : Int), xs, ()) = some (xs.take i ++ xs.drop (i + 1), ()) := by
  have e1 : (xs.drop (i + 1)).take (xs.length - (i + 1)) = xs.drop (i + 1) := List.take_of_length_le (by simp)
  have l1 : (xs.drop (i + 1)).length = xs.length - (i + 1) := by simp
  have hl : i + (xs.drop (i + 1)).length ≤ xs.length := by rw [l1]; omega
  have hlay : (lay xs i (xs.drop (i + 1))).length = xs.length := lay_len hl
  have hne : ((i : Int) == ((i + 1 : Nat) : Int)) = false := by simp; omega
  have g1 : (i : Int) ≤ ((i + 1 : Nat) : Int) := by omega
  have g2 : ((i + 1 : Nat) : Int) ≤ (xs.length : Int) := by omega
  have g3 : (i : Int) ≤ (xs.length : Int) := by omega
  have g4 : ((i + (xs.drop (i + 1)).length : Nat) : Int) ≤ (xs.length : Int) := by omega
  have z0 : (0 : Int).toNat = 0 := rfl
  unfold FkDelete_Sint_int
  dsimp only
  simp only [Int.natCast_nonneg, decide_true, cond_true, g1, g2, g3, Int.le_refl, hne, cond_false, Int.toNat_natCast, z0, Nat.sub_zero, e1, hl, hlay, g4]
  rw [lay_take' (by rw [hlay]; exact hl) (Nat.le_refl _), lay_take (by omega)]

theorem Mul_one {n : Int} (h0 : 0 ≤ n) (h4 : n ≤ 4) : Fmath_bits_Mul N (1, n, ()) = some (0, n, ()) := by
  have : n = 0 ∨ n = 1 ∨ n = 2 ∨ n = 3 ∨ n = 4 := by omega
  rcases this with rfl | rfl | rfl | rfl | rfl <;> rfl

variable (hN : lim < N)
include hN

theorem inone_ok {n : Int} (h0 : 0 ≤ n) (h4 : n ≤ 4) : Finone N (n, ()) = some (List.replicate n.toNat (-1), ()) := by
  have hlim : lim = 2147483648 := rfl
  obtain ⟨M, rfl⟩ : ∃ M, N = M + 6 := ⟨N - 6, by omega⟩
  have hw : IntKind.wrap .u64 (1 : Int) = 1 := rfl
  have hu : IntKind.wrap .u64 n = n := by
    have : n = 0 ∨ n = 1 ∨ n = 2 ∨ n = 3 ∨ n = 4 := by omega
    rcases this with rfl | rfl | rfl | rfl | rfl <;> rfl
  have hs : w64 n = n := w64_id (by omega) (by omega)
  have hn : ¬ n < 0 := by omega
  have hm := Mul_one (N := M + 6) h0 h4
  have hb : ¬ n > 9223372036854775807 := by omega
  have hl : n.toNat ≤ lim := by omega
  simp only [Finone, FkRepeat_Sint_int, hn, decide_false, cond_false, Option.bind_some, List.length_singleton, Int.natCast_one, hw, hu, hm, hb, hs, h0, decide_true, cond_true, hl, show ¬ (0 : Int) > 0 by omega]
  have : n = 0 ∨ n = 1 ∨ n = 2 ∨ n = 3 ∨ n = 4 := by omega
  rcases this with rfl | rfl | rfl | rfl | rfl <;> rfl
end
section
variable {N : Nat} (hN : lim < N)
include hN

theorem kClone_ok {xs : List Int} (hl : xs.length ≤ lim) : FkClone_Sint_int N (xs, ()) = some (xs, ()) := by
  cases xs with
  | nil =>
    simp only [FkClone_Sint_int, List.isEmpty_nil, cond_true]
    refine anyOf_eq (by omega) fun i _ => ?_
    cases hi : (i == 0) <;> simp
  | cons x xs =>
    have hl' : xs.length + 1 ≤ lim := by simpa using hl
    simp [FkClone_Sint_int, hl']

end
section
variable {N : Nat} (hN : lim < N)
include hN

theorem iGraph_copy_ok {g : Gr} (hs : smG g) : FiGraph_copy N (g, ()) = some g := by
  obtain ⟨a1, a2, a3, a4, a5⟩ := hs
  have l1 := sm_lim a1
  have l3 := sm_lim a3
  have e1 := fun Q => (fold_loop (xs := g.1) (n := N) (fun s x => s ++ [x]) (fun i s => s.length = i)
    (L := fun n i s => liGraph_copy_0 N n (g, g.1, (g.1.length : Int), (i : Int), s, ([] : List (List Int)), Q, ())) (fin := fun s => (g, s, ([] : List (List Int)), Q, ())) l1
    (fun n i s h hw hI => by
      subst hI
      have hlim : s.length + 1 ≤ lim := by omega
      have hx := a2 _ (List.getElem_mem h)
      simp [liGraph_copy_0, h, hw, kClone_ok hN (sm_lim hx.1), kClone_ok hN (sm_lim hx.2), hlim])
    (fun n s hI => by simp [liGraph_copy_0]) (by omega) (s := []) rfl).1
  have e2 := fun S Q => (fold_loop (xs := g.2.1) (n := N) (fun s x => s ++ [x]) (fun i s => s.length = i)
    (L := fun n i s => liGraph_copy_2 N n (g.2.1, (g.2.1.length : Int), (i : Int), S, s, Q, ())) (fin := fun s => (S, s, Q, ())) l3
    (fun n i s h hw hI => by
      subst hI
      have hlim : s.length + 1 ≤ lim := by omega
      have hx := a4 _ (List.getElem_mem h)
      simp [liGraph_copy_2, h, hw, kClone_ok hN (sm_lim hx), hlim])
    (fun n s hI => by simp [liGraph_copy_2]) (by omega) (s := []) rfl).1
  have f1 := foldl_push (fun x : Nd => x) g.1 []
  have f2 := foldl_push (fun x : List Int => x) g.2.1 []
  simp only [Int.natCast_zero, f1, f2, List.nil_append, List.map_id'] at e1 e2
  simp [FiGraph_copy, kClone_ok hN (sm_lim a5), e1, e2]
end
section
variable {N : Nat} (hN : lim < N)
include hN

theorem leads_ok {g : Gr} {xs : List Int} {low : Int} (hl : xs.length ≤ lim) :
    FiGraph_leads N (g, xs, low, ()) = some (xs.all fun x => decide (low ≤ x) && decide (x < (g.1.length : Int)), ()) := by
  have hL := find_loop (xs := xs) (n := N) (fun x => decide (x < low) || decide (x ≥ (g.1.length : Int))) (L := fun n i => lkIndexFunc_Sint_int_iGraph_leads_1_0 N n (xs, low, g, (xs.length : Int), (i : Int), ()))
    (yes := fun i => .inr ((i : Int), ())) (no := .inl ()) hl
    (fun n i h hw hq => by
      simp at hq
      simp [lkIndexFunc_Sint_int_iGraph_leads_1_0, FiGraph_leads_1, h, hw, Int.not_lt.2 hq.1, Int.not_le.2 hq.2])
    (fun n i h hq => by
      by_cases h1 : xs[i] < low
      · simp [lkIndexFunc_Sint_int_iGraph_leads_1_0, FiGraph_leads_1, h, h1]
      · simp [h1] at hq
        simp [lkIndexFunc_Sint_int_iGraph_leads_1_0, FiGraph_leads_1, h, h1, hq])
    (fun n => by simp [lkIndexFunc_Sint_int_iGraph_leads_1_0]) (by omega)
  simp only [Int.natCast_zero] at hL
  simp only [FiGraph_leads, FkContainsFunc_Sint_int_iGraph_leads_1, FkIndexFunc_Sint_int_iGraph_leads_1, hL]
  cases hf : xs.findIdx? (fun x => decide (x < low) || decide (x ≥ (g.1.length : Int))) with
  | none =>
    have : (xs.all fun x => decide (low ≤ x) && decide (x < (g.1.length : Int))) = true := by
      rw [List.findIdx?_eq_none_iff] at hf
      rw [List.all_eq_true]
      intro x hx
      have := hf x hx
      simp at this ⊢
      omega
    simp [this]
  | some i =>
    have : (xs.all fun x => decide (low ≤ x) && decide (x < (g.1.length : Int))) = false := by
      rw [List.findIdx?_eq_some_iff_getElem] at hf
      obtain ⟨h, h1, _⟩ := hf
      rw [List.all_eq_false]
      refine ⟨_, List.getElem_mem h, ?_⟩
      simp at h1 ⊢
      omega
    simp [this]

theorem leads1_ok {g : Gr} {xs : List Int} (hl : xs.length ≤ lim) : FiGraph_leads N (g, xs, -1, ()) = some (okR g.1.length xs, ()) := leads_ok hN hl

theorem iGraphOk_ok {g : Gr} (hs : smG g) : FiGraphOk N (g, ()) = some (okG g, ()) := by
  obtain ⟨a1, a2, a3, a4, a5⟩ := hs
  have h1 := all_loop (xs := g.1) (n := N) (okN g.1.length) (L := fun n i => liGraphOk_0 N n (g, g.1, (g.1.length : Int), (i : Int), ())) (yes := .inl (g, ())) (no := .inr (false, ())) (sm_lim a1)
    (fun n i h hw hq => by
      simp [okN] at hq
      simp [liGraphOk_0, h, hw, leads1_ok hN (sm_lim (a2 _ (List.getElem_mem h)).1), hq, Nat.not_lt.2 hq.1, Nat.not_lt.2 hq.2.1]
      )
    (fun n i h hq => by
      simp only [liGraphOk_0, leads1_ok hN (sm_lim (a2 _ (List.getElem_mem h)).1), getD_lt h, Int.toNat_natCast]
      simp only [okN] at hq
      by_cases h1 : g.1[i].1.length ≤ 4 <;> by_cases h2 : g.1[i].2.1.length ≤ 4 <;> simp_all)
    (fun n => by simp [liGraphOk_0]) (by have := sm_lim a1; omega)
  have h2 := all_loop (xs := g.2.1) (n := N) (fun r => decide (r.length ≤ 8) && okR g.1.length r) (L := fun n i => liGraphOk_2 N n (g, g.2.1, (g.2.1.length : Int), (i : Int), ())) (yes := .inl ()) (no := .inr (false, ())) (sm_lim a3)
    (fun n i h hw hq => by
      simp at hq
      simp [liGraphOk_2, h, hw, leads1_ok hN (sm_lim (a4 _ (List.getElem_mem h))), hq, Nat.not_lt.2 hq.1])
    (fun n i h hq => by
      simp only [liGraphOk_2, leads1_ok hN (sm_lim (a4 _ (List.getElem_mem h))), getD_lt h, Int.toNat_natCast]
      by_cases h1 : g.2.1[i].length ≤ 8 <;> simp_all)
    (fun n => by simp [liGraphOk_2]) (by have := sm_lim a3; omega)
  simp only [Int.natCast_zero] at h1 h2
  simp only [FiGraphOk, okG]
  have hp : (g.2.2.1.all (fun x => decide (0 ≤ x)) && okR g.1.length g.2.2.1) = g.2.2.1.all fun x => decide (0 ≤ x) && decide (x < (g.1.length : Int)) := by
    rw [Bool.eq_iff_iff]
    simp only [okR, Bool.and_eq_true, List.all_eq_true, decide_eq_true_eq]
    constructor
    · rintro ⟨h1, h2⟩ x hx; exact ⟨h1 x hx, (h2 x hx).2⟩
    · intro h; exact ⟨fun x hx => (h x hx).1, fun x hx => ⟨by have := (h x hx).1; omega, (h x hx).2⟩⟩
  rw [hp]
  by_cases b1 : g.1.length ≤ 200
  · by_cases b2 : 1 ≤ g.2.1.length
    · by_cases b3 : g.2.1.length ≤ 3
      · by_cases b4 : g.2.2.1.length ≤ 8
        · simp only [gt_iff_lt, lit_lt200, lt_lit1, lit_lt3, lit_lt8, Nat.not_lt.2 b1, Nat.not_lt.2 b2, Nat.not_lt.2 b3, Nat.not_lt.2 b4, b1, b2, b3, b4, decide_true, decide_false, cond_false, Option.bind_some, leads_ok hN (sm_lim a5), bif_neg]
          cases g.2.2.1.all fun x => decide (0 ≤ x) && decide (x < (g.1.length : Int))
          · simp
          · simp only [cond_true, Option.bind_some, Sum.elim_inl, h1]
            cases g.1.all (okN g.1.length)
            · simp
            · simp only [cond_true, Option.bind_some, Sum.elim_inl, h2]
              cases g.2.1.all fun r => decide (r.length ≤ 8) && okR g.1.length r <;> simp
        · simp [Nat.not_lt.2 b1, Nat.not_lt.2 b2, Nat.not_lt.2 b3, Nat.not_le.1 b4, b4]
      · simp [Nat.not_lt.2 b1, Nat.not_lt.2 b2, Nat.not_le.1 b3, b3]
    · simp [Nat.not_lt.2 b1, Nat.not_le.1 b2, b2]
  · simp [Nat.not_le.1 b1, b1]

end
section
variable {N : Nat} (hN : lim < N)
include hN

theorem iGraphDo_act {g : Gr} {t : Int} {o : Opx} (hs : smG g) (hg : okG g = true) (ht : inB t g.2.1.length) (ho : opOk o = true) (hz : beginC o (g.2.1.getD t.toNat []) (-1) = 0) :
    FiGraphDo N (g, t, o, ()) = some (actG g t o (g.2.1.getD t.toNat [])) := by
  have hlim : lim = 2147483648 := rfl
  obtain ⟨k1, k11⟩ := opOk_kind ho
  obtain ⟨t0, t1⟩ := inB_nat ht
  obtain ⟨z1, z2, z3, z4, z5, z6⟩ := begin_zero hz
  have hok := okG_iff.1 hg
  have hrs : okR g.1.length (g.2.1.getD t.toNat []) = true ∧ (g.2.1.getD t.toNat []).length ≤ 8 := by
    rw [getD_lt t1]
    have := hok.2.2.2.2.1 _ (List.getElem_mem t1)
    exact ⟨this.2, this.1⟩
  have hn1 : g.1.length ≤ 200 := hok.1
  have hp8 : g.2.2.1.length ≤ 8 := hok.2.2.2.2.2.1
  have t1' : ¬ t < 0 := by omega
  have t2' : ¬ t ≥ (g.2.1.length : Int) := by unfold inB at ht; omega
  unfold FiGraphDo
  dsimp only
  refine obind_eq (r := .inl (t, g, o, ())) (by simp only [iGraphOk_ok hN hs, hg, iOpOk_ok, ho, t1', t2', Option.bind_some, Bool.not_true, cond_false, decide_false]) ?_
  dsimp only [Sum.elim_inl]
  refine obind_eq (iGraph_copy_ok hN hs) (cguard t0 (cguard t1 (obind_eq (iOp_early_ok hN k1 k11 hrs.2) ?_)))
  dsimp only
  rw [hz]
  generalize hrse : g.2.1.getD t.toNat [] = rs at *
  have hra : ∀ {i : Int}, inB i rs.length → rs.getD i.toNat 0 ≠ -1 → 0 ≤ rs.getD i.toNat 0 ∧ (rs.getD i.toNat 0).toNat < g.1.length ∧ rs.getD i.toNat 0 < (g.1.length : Int) := by
    intro i hi hne
    obtain ⟨a, b⟩ := inB_nat hi
    rw [getD_lt b] at hne ⊢
    have := okR_iff.1 hrs.1 _ (List.getElem_mem b)
    omega
  have hrm : ∀ {i : Int}, inB i rs.length → -1 ≤ rs.getD i.toNat 0 ∧ (0 ≤ rs.getD i.toNat 0 → (rs.getD i.toNat 0).toNat < g.1.length) := by
    intro i hi
    obtain ⟨a, b⟩ := inB_nat hi
    rw [getD_lt b]
    have := okR_iff.1 hrs.1 _ (List.getElem_mem b)
    omega
  obtain ⟨k, A, B, C, F, V, ⟨R, M, ⟨⟩⟩, ⟨⟩⟩ := o
  simp only at k1 k11 z1 z2 z3 z4 z5 z6
  have hot : (Int.ofNat t.toNat).toNat = t.toNat := rfl
  simp only [show ((0 : Int) != 0) = false from rfl, cond_false]
  -- what is read first
  have first : ∀ {β : Type} {z : Option β} {K : _ → Option β}, (k ≠ 1 → k ≠ 8 → inB A rs.length) →
      K ((k, A, B, C, F, V, (R, M, ()), ()), Int.ofNat t.toNat, (if k ≠ 1 ∧ k ≠ 8 then rs.getD A.toNat 0 else -1), g.1, g.2.1, g.2.2.1, ()) = z →
      Option.bind (_root_.cond (k != 1) (_root_.cond (k != 8) (_root_.cond (decide (0 ≤ A)) (_root_.cond (decide (A.toNat < rs.length)) (some ((k, A, B, C, F, V, (R, M, ()), ()), Int.ofNat t.toNat, rs.getD A.toNat 0, g.1, g.2.1, g.2.2.1, ())) none) none)
        (some ((k, A, B, C, F, V, (R, M, ()), ()), Int.ofNat t.toNat, -1, g.1, g.2.1, g.2.2.1, ()))) (some ((k, A, B, C, F, V, (R, M, ()), ()), Int.ofNat t.toNat, -1, g.1, g.2.1, g.2.2.1, ()))) K = z := by
    intro β z K h hK
    refine obind_eq ?_ hK
    by_cases c1 : k = 1
    · subst c1; simp
    · by_cases c8 : k = 8
      · subst c8; simp
      · obtain ⟨a, b⟩ := inB_nat (h c1 c8)
        simp [-List.getD_eq_getElem?_getD, c1, c8, a, b]
  refine first z2 ?_
  clear first
  dsimp only
  simp only [hot, hrse]
  rcases kind_cases k1 k11 with h | h | h | h | h | h | h | h | h | h | h <;> subst h
  · -- new
    simp only [opOk, shOk, Bool.and_eq_true, decide_eq_true_eq, Bool.or_eq_true, Bool.not_eq_true', decide_eq_false_iff_not] at ho
    obtain ⟨r0, r4, m0, m4⟩ := (ho.2.2.resolve_left (by simp))
    have m4' : M.toNat ≤ lim := by rw [lim_eq]; omega
    have l200 : ((g.1.length : Int) = 200) ↔ g.1.length = 200 := by omega
    have hl1 : g.1.length + 1 ≤ lim := by rw [lim_eq]; omega
    have hl2 : rs.length + 1 ≤ lim := by rw [lim_eq]; omega
    rcases Classical.propComplete (g.1.length = 200) with e | e
    · simp [-List.getD_eq_getElem?_getD, l200, e, actG]
    · simp [-List.getD_eq_getElem?_getD, l200, e, actG, hl2, inone_ok hN r0 r4, m0, m4', hl1]
  · -- load
    obtain ⟨n1, n2, n3⟩ := hra (z2 (by omega) (by omega)) (z5 (by omega) (by omega) (by omega) (by omega))
    have hl2 : rs.length + 1 ≤ lim := by rw [lim_eq]; omega
    by_cases f : inB F (g.1.getD (rs.getD A.toNat 0).toNat nd0).1.length
    · obtain ⟨f1, f2, f3⟩ := inB_all f
      simp [-List.getD_eq_getElem?_getD, actG, n1, n2, iOp_field_ok, f, f1, f2, hl2]
    · simp [-List.getD_eq_getElem?_getD, actG, n1, n2, iOp_field_ok, f]
  · -- store
    obtain ⟨b1, b2, b3⟩ := inB_all (z3 (by omega))
    obtain ⟨n1, n2, n3⟩ := hra (z2 (by omega) (by omega)) (z5 (by omega) (by omega) (by omega) (by omega))
    by_cases f : inB F (g.1.getD (rs.getD A.toNat 0).toNat nd0).1.length
    · obtain ⟨f1, f2, f3⟩ := inB_all f
      simp [-List.getD_eq_getElem?_getD, actG, n1, n2, b1, b2, iOp_field_ok, f, f1, f2]
    · simp [-List.getD_eq_getElem?_getD, actG, n1, n2, iOp_field_ok, f]
  · -- put
    obtain ⟨n1, n2, n3⟩ := hra (z2 (by omega) (by omega)) (z5 (by omega) (by omega) (by omega) (by omega))
    by_cases f : inB F (g.1.getD (rs.getD A.toNat 0).toNat nd0).2.1.length
    · obtain ⟨f1, f2, f3⟩ := inB_all f
      simp [-List.getD_eq_getElem?_getD, actG, n1, n2, iOp_field_ok, f, f1, f2]
    · simp [-List.getD_eq_getElem?_getD, actG, n1, n2, iOp_field_ok, f]
  · -- get
    obtain ⟨n1, n2, n3⟩ := hra (z2 (by omega) (by omega)) (z5 (by omega) (by omega) (by omega) (by omega))
    by_cases f : inB F (g.1.getD (rs.getD A.toNat 0).toNat nd0).2.1.length
    · obtain ⟨f1, f2, f3⟩ := inB_all f
      simp [-List.getD_eq_getElem?_getD, actG, n1, n2, iOp_field_ok, f, f1, f2]
    · simp [-List.getD_eq_getElem?_getD, actG, n1, n2, iOp_field_ok, f]
  · -- same
    obtain ⟨b1, b2, b3⟩ := inB_all (z3 (by omega))
    obtain ⟨m1, m2⟩ := hrm (z2 (by omega) (by omega))
    by_cases e : 0 ≤ rs.getD A.toNat 0
    · have m2 := m2 e
      simp [-List.getD_eq_getElem?_getD, actG, e, m2, b1, b2, iOp_field_ok, itruth_ok]
    · simp [-List.getD_eq_getElem?_getD, actG, e, b1, b2, itruth_ok]
  · -- cas
    obtain ⟨b1, b2, b3⟩ := inB_all (z3 (by omega))
    obtain ⟨c1, c2, c3⟩ := inB_all (z4 (by omega))
    obtain ⟨n1, n2, n3⟩ := hra (z2 (by omega) (by omega)) (z5 (by omega) (by omega) (by omega) (by omega))
    by_cases f : inB F (g.1.getD (rs.getD A.toNat 0).toNat nd0).1.length
    · obtain ⟨f1, f2, f3⟩ := inB_all f
      by_cases e : (g.1.getD (rs.getD A.toNat 0).toNat nd0).1.getD F.toNat 0 = rs.getD B.toNat 0
      · simp [-List.getD_eq_getElem?_getD, actG, n1, n2, b1, b2, c1, c2, iOp_field_ok, f, f1, f2, e]
      · simp [-List.getD_eq_getElem?_getD, actG, n1, n2, b1, b2, c1, c2, iOp_field_ok, f, f1, f2, e]
    · simp [-List.getD_eq_getElem?_getD, actG, n1, n2, iOp_field_ok, f]
  · -- drop
    have hl := z1 rfl
    have hw : w64 ((rs.length : Int) - 1) = ((rs.length - 1 : Nat) : Int) := by rw [w64_id (by omega) (by omega)]; omega
    have h1 : ((rs.length - 1 : Nat) : Int) ≤ (rs.length : Int) := by omega
    simp [-List.getD_eq_getElem?_getD, actG, hw, h1]
  · -- dup
    obtain ⟨m1, m2⟩ := hrm (z2 (by omega) (by omega))
    have hl2 : rs.length + 1 ≤ lim := by rw [lim_eq]; omega
    by_cases e : 0 ≤ rs.getD A.toNat 0
    · have m2 := m2 e
      simp [-List.getD_eq_getElem?_getD, actG, e, m2, iOp_field_ok, hl2]
    · simp [-List.getD_eq_getElem?_getD, actG, e, hl2]
  · -- pin
    obtain ⟨n1, n2, n3⟩ := hra (z2 (by omega) (by omega)) (z5 (by omega) (by omega) (by omega) (by omega))
    have hl2 : g.2.2.1.length + 1 ≤ lim := by rw [lim_eq]; omega
    have l8 : ((g.2.2.1.length : Int) = 8) ↔ g.2.2.1.length = 8 := by omega
    rcases Classical.propComplete (g.2.2.1.length = 8) with e | e <;> simp [-List.getD_eq_getElem?_getD, actG, n1, n2, iOp_field_ok, l8, e, hl2]
  · -- unpin
    obtain ⟨n1, n2, n3⟩ := hra (z2 (by omega) (by omega)) (z5 (by omega) (by omega) (by omega) (by omega))
    have hl2 : g.2.2.1.length ≤ lim := by rw [lim_eq]; omega
    have hlo := ilastOf_ok hN (a := rs.getD A.toNat 0) hl2
    have hr := lastFrom_rng g.2.2.1 (rs.getD A.toNat 0) 0 (-1) (by omega) (by omega)
    have e0 : lastFrom g.2.2.1 (rs.getD A.toNat 0) 0 (-1) = lastP g.2.2.1 (rs.getD A.toNat 0) := rfl
    rw [e0] at hr
    by_cases e : lastP g.2.2.1 (rs.getD A.toNat 0) < 0
    · simp [-List.getD_eq_getElem?_getD, actG, n1, n2, iOp_field_ok, hlo, e]
    · obtain ⟨j, hj⟩ := Int.eq_ofNat_of_zero_le (Int.not_lt.1 e)
      have hjl : j < g.2.2.1.length := by omega
      have hw : w64 ((j : Int) + 1) = ((j + 1 : Nat) : Int) := w64_succ (by omega)
      rw [hj] at hlo e
      simp only [actG, hj]
      have hd := kDelete_ok (N := N) hjl
      simp only [Int.natCast_add, Int.natCast_one] at hd hw
      simp [-List.getD_eq_getElem?_getD, n1, n2, iOp_field_ok, hlo, e, hw, hd]

theorem iGraphDo_ok {g : Gr} {t : Int} {o : Opx} (hs : smG g) : FiGraphDo N (g, t, o, ()) = some (doG g t o) := by
  by_cases hc : okG g = true ∧ inB t g.2.1.length ∧ opOk o = true
  · obtain ⟨hg, ht, ho⟩ := hc
    by_cases hz : beginC o (g.2.1.getD t.toNat []) (-1) = 0
    · rw [iGraphDo_act hN hs hg ht ho hz]
      simp only [doG, hg, ht, ho, hz, and_self, if_true]
    · obtain ⟨k1, k11⟩ := opOk_kind ho
      obtain ⟨t0, t1⟩ := inB_nat ht
      have t1' : ¬ t < 0 := by omega
      have t2' : ¬ t ≥ (g.2.1.length : Int) := by unfold inB at ht; omega
      have hr8 : (g.2.1.getD t.toNat []).length ≤ 8 := by
        rw [getD_lt t1]
        exact ((okG_iff.1 hg).2.2.2.2.1 _ (List.getElem_mem t1)).1
      unfold FiGraphDo
      dsimp only
      refine obind_eq (r := .inl (t, g, o, ())) (by simp only [iGraphOk_ok hN hs, hg, iOpOk_ok, ho, t1', t2', Option.bind_some, Bool.not_true, cond_false, decide_false]) ?_
      dsimp only [Sum.elim_inl]
      refine obind_eq (iGraph_copy_ok hN hs) (cguard t0 (cguard t1 (obind_eq (iOp_early_ok hN k1 k11 hr8) ?_)))
      simp only [doG, hg, ht, ho, hz, and_self, if_true, if_false]
      generalize beginC o (g.2.1.getD t.toNat []) (-1) = c at hz ⊢
      simp [hz]
  · simp only [doG, hc, if_false]
    unfold FiGraphDo
    dsimp only
    cases hg : okG g with
    | false => simp [iGraphOk_ok hN hs, hg]
    | true =>
      by_cases h1 : t < 0
      · simp [iGraphOk_ok hN hs, hg, h1]
      · by_cases h2 : t ≥ (g.2.1.length : Int)
        · have h2' : (g.2.1.length : Int) ≤ t := h2
          simp [iGraphOk_ok hN hs, hg, h1, h2']
        · have ht : inB t g.2.1.length := by unfold inB; omega
          have ho : opOk o = false := by
            cases h : opOk o with
            | false => rfl
            | true => exact absurd ⟨hg, ht, h⟩ hc
          have h2' : ¬ (g.2.1.length : Int) ≤ t := h2
          simp [iGraphOk_ok hN hs, hg, h1, h2', iOpOk_ok, ho]
end
theorem actG_ref {g : Gr} {t : Int} {o : Opx} {rs : List Int} : (actG g t o rs).2.1 ≠ 1 ∧ ((actG g t o rs).2.1 ≠ 0 → (actG g t o rs).1 = 0 ∧ (actG g t o rs).2.2 = g) := by
  by_cases h1 : o.1 = 1
  · simp only [actG, h1, Int.reduceEq, ↓reduceIte]
    split <;> simp
  by_cases h2 : o.1 = 2
  · simp only [actG, h2, Int.reduceEq, ↓reduceIte]
    split <;> simp
  by_cases h3 : o.1 = 3
  · simp only [actG, h3, Int.reduceEq, ↓reduceIte]
    split <;> simp
  by_cases h4 : o.1 = 4
  · simp only [actG, h4, Int.reduceEq, ↓reduceIte]
    split <;> simp
  by_cases h5 : o.1 = 5
  · simp only [actG, h5, Int.reduceEq, ↓reduceIte]
    split <;> simp
  by_cases h6 : o.1 = 6
  · simp only [actG, h6, Int.reduceEq, ↓reduceIte]
    simp
  by_cases h7 : o.1 = 7
  · simp only [actG, h7, Int.reduceEq, ↓reduceIte]
    (repeat' split) <;> simp
  by_cases h8 : o.1 = 8
  · simp only [actG, h8, Int.reduceEq, ↓reduceIte]
    simp
  by_cases h9 : o.1 = 9
  · simp only [actG, h9, Int.reduceEq, ↓reduceIte]
    simp
  by_cases h10 : o.1 = 10
  · simp only [actG, h10, Int.reduceEq, ↓reduceIte]
    split <;> simp
  simp only [actG, h1, h2, h3, h4, h5, h6, h7, h8, h9, h10, if_false]
  split <;> simp

theorem getD_set_ne {α : Type} {l : List α} {i j : Nat} {x d : α} (h : i ≠ j) : (l.set i x).getD j d = l.getD j d := by
  simp [List.getD_eq_getElem?_getD, List.getElem?_set_ne h]

theorem actG_oth {g : Gr} {t : Int} {o : Opx} {rs : List Int} {i : Nat} (hi : i ≠ t.toNat) : (actG g t o rs).2.2.2.1.getD i [] = g.2.1.getD i [] := by
  have hi' : t.toNat ≠ i := fun h => hi h.symm
  by_cases h1 : o.1 = 1
  · simp only [actG, h1, Int.reduceEq, ↓reduceIte]
    split <;> simp only [getD_set_ne hi']
  by_cases h2 : o.1 = 2
  · simp only [actG, h2, Int.reduceEq, ↓reduceIte]
    split <;> simp only [getD_set_ne hi']
  by_cases h3 : o.1 = 3
  · simp only [actG, h3, Int.reduceEq, ↓reduceIte]
    split <;> rfl
  by_cases h4 : o.1 = 4
  · simp only [actG, h4, Int.reduceEq, ↓reduceIte]
    split <;> rfl
  by_cases h5 : o.1 = 5
  · simp only [actG, h5, Int.reduceEq, ↓reduceIte]
    split <;> rfl
  by_cases h6 : o.1 = 6
  · simp only [actG, h6, Int.reduceEq, ↓reduceIte]
  by_cases h7 : o.1 = 7
  · simp only [actG, h7, Int.reduceEq, ↓reduceIte]
    (repeat' split) <;> rfl
  by_cases h8 : o.1 = 8
  · simp only [actG, h8, Int.reduceEq, ↓reduceIte, getD_set_ne hi']
  by_cases h9 : o.1 = 9
  · simp only [actG, h9, Int.reduceEq, ↓reduceIte, getD_set_ne hi']
  by_cases h10 : o.1 = 10
  · simp only [actG, h10, Int.reduceEq, ↓reduceIte]
    split <;> rfl
  simp only [actG, h1, h2, h3, h4, h5, h6, h7, h8, h9, h10, if_false]
  split <;> rfl

theorem beginC_ne {o : Opx} {rs : List Int} {nil : Int} : beginC o rs nil ≠ 1 := by
  unfold beginC
  (repeat' split) <;> omega

theorem doG_one {g : Gr} {t : Int} {o : Opx} (h : (doG g t o).2.1 = 1) : (doG g t o).2.2 = ([], [], [], ()) := by
  unfold doG at h ⊢
  split
  · rename_i hc
    rw [if_pos hc] at h
    split
    · rename_i hz; rw [if_pos hz] at h; exact absurd h actG_ref.1
    · rename_i hz; rw [if_neg hz] at h; exact absurd h beginC_ne
  · rfl

theorem doG_ref {g : Gr} {t : Int} {o : Opx} (h : (doG g t o).2.1 ≠ 1) (h0 : (doG g t o).2.1 ≠ 0) : (doG g t o).1 = 0 ∧ (doG g t o).2.2 = g := by
  unfold doG at h h0 ⊢
  split
  · rename_i hc
    rw [if_pos hc] at h h0
    split
    · rename_i hz; rw [if_pos hz] at h h0; exact actG_ref.2 h0
    · exact ⟨rfl, rfl⟩
  · rename_i hc; rw [if_neg hc] at h; exact absurd rfl h

theorem doG_in {g : Gr} {t : Int} {o : Opx} (h : (doG g t o).2.1 ≠ 1) : okG g = true ∧ inB t g.2.1.length ∧ opOk o = true := by
  unfold doG at h
  split at h
  · rename_i hc; exact hc
  · exact absurd rfl h

theorem doG_oth {g : Gr} {t : Int} {o : Opx} {i : Nat} (h : (doG g t o).2.1 ≠ 1) (hi : i ≠ t.toNat) : (doG g t o).2.2.2.1.getD i [] = g.2.1.getD i [] := by
  have hc := doG_in h
  unfold doG
  rw [if_pos hc]
  split
  · exact actG_oth hi
  · rfl
/-- What was done, taken apart: nothing was told ahead. -/
theorem doG_zero {g : Gr} {t : Int} {o : Opx} (h : (doG g t o).2.1 = 0) : okG g = true ∧ inB t g.2.1.length ∧ opOk o = true ∧ beginC o (g.2.1.getD t.toNat []) (-1) = 0 ∧ doG g t o = actG g t o (g.2.1.getD t.toNat []) := by
  obtain ⟨h1, h2, h3⟩ := doG_in (by omega : (doG g t o).2.1 ≠ 1)
  have hb : beginC o (g.2.1.getD t.toNat []) (-1) = 0 := by
    unfold doG at h
    rw [if_pos ⟨h1, h2, h3⟩] at h
    split at h
    · assumption
    · exact h
  exact ⟨h1, h2, h3, hb, by unfold doG; rw [if_pos ⟨h1, h2, h3⟩, if_pos hb]⟩

theorem doG_act {g : Gr} {t : Int} {o : Opx} (h1 : okG g = true) (h2 : inB t g.2.1.length) (h3 : opOk o = true) (h4 : beginC o (g.2.1.getD t.toNat []) (-1) = 0) : doG g t o = actG g t o (g.2.1.getD t.toNat []) := by
  unfold doG; rw [if_pos ⟨h1, h2, h3⟩, if_pos h4]

theorem set_getD_self {α : Type} {l : List α} {i : Nat} {d : α} (h : i < l.length) : l.set i (l.getD i d) = l := by
  rw [getD_lt h]; exact List.set_getElem_self h

theorem getD_set_self {α : Type} {l : List α} {i : Nat} {x d : α} (h : i < l.length) : (l.set i x).getD i d = x := by
  rw [getD_lt (by simpa using h)]; exact List.getElem_set_self _

theorem opOk_of {k A B C F V R M : Int} (h1 : 2 ≤ k) (h2 : k ≤ 11) : opOk (k, A, B, C, F, V, (R, M, ()), ()) = true := by
  simp only [opOk, Bool.and_eq_true, decide_eq_true_eq, Bool.or_eq_true, Bool.not_eq_true', decide_eq_false_iff_not]
  exact ⟨by omega, h2, .inl (by omega)⟩

theorem undo_dup {g : Gr} {t A B C F V R M : Int} (h : (doG g t (9, A, B, C, F, V, (R, M, ()), ())).2.1 = 0) :
    doG (doG g t (9, A, B, C, F, V, (R, M, ()), ())).2.2 t (8, 0, 0, 0, 0, 0, (0, 0, ()), ()) = (0, 0, g) := by
  obtain ⟨h1, h2, h3, h4, h5⟩ := doG_zero h
  have hok := (doG_ok (by omega : (doG g t (9, A, B, C, F, V, (R, M, ()), ())).2.1 ≠ 1)).2
  obtain ⟨t0, t1⟩ := inB_nat h2
  rw [h5] at hok ⊢
  simp only [actG, Int.reduceEq, ↓reduceIte] at hok ⊢
  generalize hx : (g.2.1.getD t.toNat []).getD A.toNat 0 = x at hok ⊢
  have hg : (g.2.1.set t.toNat (g.2.1.getD t.toNat [] ++ [x])).getD t.toNat [] = g.2.1.getD t.toNat [] ++ [x] := getD_set_self t1
  rw [doG_act hok (by simpa using h2) (opOk_of (by omega) (by omega)) (by
    dsimp only
    rw [hg]
    simp [beginC])]
  dsimp only
  rw [hg]
  simp only [actG, Int.reduceEq, ↓reduceIte, List.set_set, List.length_append, List.length_singleton, Nat.add_sub_cancel, List.take_left, set_getD_self t1]

theorem lastP_snoc (l : List Int) (a : Int) : lastP (l ++ [a]) a = l.length := by
  have key : ∀ (l : List Int) (i at' : Int), lastFrom (l ++ [a]) a i at' = i + l.length := by
    intro l
    induction l with
    | nil => intro i at'; simp [lastFrom]
    | cons y l ih => intro i at'; simp only [List.cons_append, lastFrom, ih, List.length_cons]; omega
  simpa [lastP] using key l 0 (-1)

theorem undo_pin {g : Gr} {t A B C F V R M : Int} (h : (doG g t (10, A, B, C, F, V, (R, M, ()), ())).2.1 = 0) :
    doG (doG g t (10, A, B, C, F, V, (R, M, ()), ())).2.2 t (11, A, B, C, F, V, (R, M, ()), ()) = (0, 0, g) := by
  obtain ⟨h1, h2, h3, h4, h5⟩ := doG_zero h
  have hok := (doG_ok (by omega : (doG g t (10, A, B, C, F, V, (R, M, ()), ())).2.1 ≠ 1)).2
  obtain ⟨t0, t1⟩ := inB_nat h2
  rw [h5] at h hok ⊢
  simp only [actG, Int.reduceEq, ↓reduceIte] at h hok ⊢
  by_cases h8 : g.2.2.1.length = 8
  · rw [if_pos h8] at h; cases h
  · rw [if_neg h8] at hok ⊢
    rw [doG_act hok h2 (opOk_of (by omega) (by omega)) (by
      dsimp only
      have := h4
      simp only [beginC, Int.reduceEq, ne_eq, not_true_eq_false, false_and, and_false, false_or, or_false, not_false_eq_true, true_and] at this ⊢
      exact this)]
    dsimp only
    simp only [actG, Int.reduceEq, ↓reduceIte, lastP_snoc]
    have hn : ¬ ((g.2.2.1.length : Int) < 0) := by omega
    rw [if_neg hn]
    have e1 : (g.2.2.1 ++ [(g.2.1.getD t.toNat []).getD A.toNat 0]).drop (g.2.2.1.length + 1) = [] := List.drop_eq_nil_of_le (by simp)
    simp only [Int.toNat_natCast, List.take_left, e1, List.append_nil]

theorem actG_code {g : Gr} {t : Int} {o : Opx} {rs : List Int} : (actG g t o rs).2.1 = 0 ∨ (actG g t o rs).2.1 = 4 ∨ (actG g t o rs).2.1 = 6 ∨ (actG g t o rs).2.1 = 7 := by
  by_cases h1 : o.1 = 1
  · simp only [actG, h1, Int.reduceEq, ↓reduceIte]
    split <;> simp
  by_cases h2 : o.1 = 2
  · simp only [actG, h2, Int.reduceEq, ↓reduceIte]
    split <;> simp
  by_cases h3 : o.1 = 3
  · simp only [actG, h3, Int.reduceEq, ↓reduceIte]
    split <;> simp
  by_cases h4 : o.1 = 4
  · simp only [actG, h4, Int.reduceEq, ↓reduceIte]
    split <;> simp
  by_cases h5 : o.1 = 5
  · simp only [actG, h5, Int.reduceEq, ↓reduceIte]
    split <;> simp
  by_cases h6 : o.1 = 6
  · simp only [actG, h6, Int.reduceEq, ↓reduceIte]
    simp
  by_cases h7 : o.1 = 7
  · simp only [actG, h7, Int.reduceEq, ↓reduceIte]
    (repeat' split) <;> simp
  by_cases h8 : o.1 = 8
  · simp only [actG, h8, Int.reduceEq, ↓reduceIte]
    simp
  by_cases h9 : o.1 = 9
  · simp only [actG, h9, Int.reduceEq, ↓reduceIte]
    simp
  by_cases h10 : o.1 = 10
  · simp only [actG, h10, Int.reduceEq, ↓reduceIte]
    split <;> simp
  simp only [actG, h1, h2, h3, h4, h5, h6, h7, h8, h9, h10, if_false]
  split <;> simp

theorem doG_code {g : Gr} {t : Int} {o : Opx} : (doG g t o).2.1 ≠ 8 := by
  unfold doG
  split
  · split
    · have := actG_code (g := g) (t := t) (o := o) (rs := g.2.1.getD t.toNat [])
      omega
    · unfold beginC
      (repeat' split) <;> simp
  · simp
theorem getD_app_lt {α : Type} {l : List α} {x d : α} {i : Nat} (h : i < l.length) : (l ++ [x]).getD i d = l.getD i d := by
  rw [getD_lt (by simp; omega), getD_lt h, List.getElem_append_left h]
theorem getD_app_eq {α : Type} {l : List α} {x d : α} : (l ++ [x]).getD l.length d = x := by
  rw [getD_lt (by simp), List.getElem_append_right (Nat.le_refl _)]
  simp

/-- What stands ahead of a stretch that reads a handle. -/
theorem begin_two {rs : List Int} {A F : Int} (ha : inB A rs.length) (hn : rs.getD A.toNat 0 ≠ -1) (hl : rs.length ≠ 8) : beginC (2, A, 0, 0, F, 0, (0, 0, ()), ()) rs (-1) = 0 := by
  unfold beginC
  simp only [Int.reduceEq, false_and, false_or, ne_eq, not_false_eq_true, true_and, ha, not_true_eq_false, hn, or_false, or_true, hl, and_false, if_false]
theorem begin_six {rs : List Int} {A B : Int} (ha : inB A rs.length) (hb : inB B rs.length) : beginC (6, A, B, 0, 0, 0, (0, 0, ()), ()) rs (-1) = 0 := by
  unfold beginC
  simp only [Int.reduceEq, false_and, false_or, ne_eq, not_false_eq_true, true_and, ha, hb, not_true_eq_false, or_false, or_true, and_false, if_false]

theorem store_load {g : Gr} {t A B C F V R M : Int} (h : (doG g t (3, A, B, C, F, V, (R, M, ()), ())).2.1 = 0) :
    0 ≤ t ∧ t.toNat < (doG g t (3, A, B, C, F, V, (R, M, ()), ())).2.2.2.1.length ∧
    (((doG g t (3, A, B, C, F, V, (R, M, ()), ())).2.2.2.1.getD t.toNat []).length ≠ 8 →
      (doG (doG g t (3, A, B, C, F, V, (R, M, ()), ())).2.2 t (2, A, 0, 0, F, 0, (0, 0, ()), ())).2.1 = 0 ∧
      (doG (doG (doG g t (3, A, B, C, F, V, (R, M, ()), ())).2.2 t (2, A, 0, 0, F, 0, (0, 0, ()), ())).2.2 t (6, (((doG g t (3, A, B, C, F, V, (R, M, ()), ())).2.2.2.1.getD t.toNat []).length : Int), B, 0, 0, 0, (0, 0, ()), ())).2.1 = 0 ∧
      (doG (doG (doG g t (3, A, B, C, F, V, (R, M, ()), ())).2.2 t (2, A, 0, 0, F, 0, (0, 0, ()), ())).2.2 t (6, (((doG g t (3, A, B, C, F, V, (R, M, ()), ())).2.2.2.1.getD t.toNat []).length : Int), B, 0, 0, 0, (0, 0, ()), ())).1 = 1) := by
  obtain ⟨h1, h2, h3, h4, h5⟩ := doG_zero h
  have hok := (doG_ok (by omega : (doG g t (3, A, B, C, F, V, (R, M, ()), ())).2.1 ≠ 1)).2
  obtain ⟨t0, t1⟩ := inB_nat h2
  obtain ⟨z1, z2, z3, z4, z5, z6⟩ := beginZ h4
  have hA := z2 (by simp) (by simp)
  have hB := z3 (.inl rfl)
  have hn := z5 (by simp) (by simp) (by simp) (by simp)
  dsimp only at hA hB hn
  have hr := okG_iff.1 h1
  have hra : ((g.2.1.getD t.toNat []).getD A.toNat 0).toNat < g.1.length := by
    obtain ⟨a, b⟩ := inB_nat hA
    have := hr.2.2.2.2.1 _ (List.getElem_mem t1)
    rw [← getD_lt (d := []) t1] at this
    have := okR_get this.2 b
    omega
  rw [h5] at h hok ⊢
  simp only [actG, Int.reduceEq, ↓reduceIte] at h hok ⊢
  by_cases hF : inB F (g.1.getD ((g.2.1.getD t.toNat []).getD A.toNat 0).toNat nd0).1.length
  · rw [if_pos hF] at hok ⊢
    obtain ⟨f0, f1⟩ := inB_nat hF
    obtain ⟨b0, b1⟩ := inB_nat hB
    refine ⟨t0, t1, fun hl8 => ?_⟩
    dsimp only at hl8 hok ⊢
    generalize hrs : g.2.1.getD t.toNat [] = rs at *
    have e1 : (doG (g.1.set (rs.getD A.toNat 0).toNat ((g.1.getD (rs.getD A.toNat 0).toNat nd0).1.set F.toNat (rs.getD B.toNat 0), (g.1.getD (rs.getD A.toNat 0).toNat nd0).2), g.2.1, g.2.2.1, ()) t (2, A, 0, 0, F, 0, (0, 0, ()), ())) =
        (0, 0, g.1.set (rs.getD A.toNat 0).toNat ((g.1.getD (rs.getD A.toNat 0).toNat nd0).1.set F.toNat (rs.getD B.toNat 0), (g.1.getD (rs.getD A.toNat 0).toNat nd0).2), g.2.1.set t.toNat (rs ++ [rs.getD B.toNat 0]), g.2.2.1, ()) := by
      rw [doG_act hok h2 (opOk_of (by omega) (by omega)) (by dsimp only; rw [hrs]; exact begin_two hA hn hl8)]
      simp only [actG, Int.reduceEq, ↓reduceIte, hrs]
      have e2 : (g.1.set (rs.getD A.toNat 0).toNat ((g.1.getD (rs.getD A.toNat 0).toNat nd0).1.set F.toNat (rs.getD B.toNat 0), (g.1.getD (rs.getD A.toNat 0).toNat nd0).2)).getD (rs.getD A.toNat 0).toNat nd0 = ((g.1.getD (rs.getD A.toNat 0).toNat nd0).1.set F.toNat (rs.getD B.toNat 0), (g.1.getD (rs.getD A.toNat 0).toNat nd0).2) := getD_set_self hra
      rw [e2]
      simp only [List.length_set, hF, if_true, getD_set_self f1]
    have hok2 : okG (doG (g.1.set (rs.getD A.toNat 0).toNat ((g.1.getD (rs.getD A.toNat 0).toNat nd0).1.set F.toNat (rs.getD B.toNat 0), (g.1.getD (rs.getD A.toNat 0).toNat nd0).2), g.2.1, g.2.2.1, ()) t (2, A, 0, 0, F, 0, (0, 0, ()), ())).2.2 = true := (doG_ok (by rw [e1]; simp)).2
    rw [e1] at hok2 ⊢
    dsimp only at hok2 ⊢
    have e3 : (g.2.1.set t.toNat (rs ++ [rs.getD B.toNat 0])).getD t.toNat [] = rs ++ [rs.getD B.toNat 0] := getD_set_self t1
    have i1 : inB (rs.length : Int) (rs ++ [rs.getD B.toNat 0]).length := by unfold inB; simp only [List.length_append, List.length_singleton]; omega
    have i2 : inB B (rs ++ [rs.getD B.toNat 0]).length := by unfold inB at hB ⊢; simp only [List.length_append, List.length_singleton]; omega
    rw [doG_act hok2 (by simpa using h2) (opOk_of (by omega) (by omega)) (by dsimp only; rw [e3]; exact begin_six i1 i2)]
    simp only [actG, Int.reduceEq, ↓reduceIte, e3, Int.toNat_natCast, getD_app_eq, getD_app_lt b1, and_self]
  · rw [if_neg hF] at h; cases h
theorem begin_get {rs : List Int} {A F : Int} (ha : inB A rs.length) (hn : rs.getD A.toNat 0 ≠ -1) : beginC (5, A, 0, 0, F, 0, (0, 0, ()), ()) rs (-1) = 0 := by
  unfold beginC
  simp only [Int.reduceEq, false_and, false_or, ne_eq, not_false_eq_true, true_and, ha, not_true_eq_false, hn, or_false, if_false]

/-- The node that a handle leads to. -/
theorem root_node {g : Gr} {t A : Int} (h1 : okG g = true) (h2 : inB t g.2.1.length) (hA : inB A (g.2.1.getD t.toNat []).length) (hn : (g.2.1.getD t.toNat []).getD A.toNat 0 ≠ -1) :
    ∃ ra : Nat, (g.2.1.getD t.toNat []).getD A.toNat 0 = (ra : Int) ∧ ra < g.1.length := by
  obtain ⟨t0, t1⟩ := inB_nat h2
  obtain ⟨a, b⟩ := inB_nat hA
  have hr := okG_iff.1 h1
  have h := hr.2.2.2.2.1 _ (List.getElem_mem t1)
  rw [← getD_lt (d := []) t1] at h
  have h := okR_get h.2 b
  generalize (g.2.1.getD t.toNat []).getD A.toNat 0 = x at h hn ⊢
  exact ⟨x.toNat, by omega, by omega⟩

theorem put_get {g : Gr} {t A B C F V R M : Int} (h : (doG g t (4, A, B, C, F, V, (R, M, ()), ())).2.1 = 0) :
    ∃ ra : Nat, okG g = true ∧ inB t g.2.1.length ∧ inB A (g.2.1.getD t.toNat []).length ∧ (g.2.1.getD t.toNat []).getD A.toNat 0 = (ra : Int) ∧ ra < g.1.length ∧ inB F (g.1.getD ra nd0).2.1.length ∧
      doG g t (4, A, B, C, F, V, (R, M, ()), ()) = (0, 0, g.1.set ra ((g.1.getD ra nd0).1, (g.1.getD ra nd0).2.1.set F.toNat V, ()), g.2.1, g.2.2.1, ()) ∧
      doG (g.1.set ra ((g.1.getD ra nd0).1, (g.1.getD ra nd0).2.1.set F.toNat V, ()), g.2.1, g.2.2.1, ()) t (5, A, 0, 0, F, 0, (0, 0, ()), ()) =
        (V, 0, g.1.set ra ((g.1.getD ra nd0).1, (g.1.getD ra nd0).2.1.set F.toNat V, ()), g.2.1, g.2.2.1, ()) := by
  obtain ⟨h1, h2, h3, h4, h5⟩ := doG_zero h
  have hok := (doG_ok (by omega : (doG g t (4, A, B, C, F, V, (R, M, ()), ())).2.1 ≠ 1)).2
  obtain ⟨z1, z2, z3, z4, z5, z6⟩ := beginZ h4
  have hA := z2 (by simp) (by simp)
  have hn := z5 (by simp) (by simp) (by simp) (by simp)
  dsimp only at hA hn
  obtain ⟨ra, e, hl⟩ := root_node h1 h2 hA hn
  rw [h5] at h hok ⊢
  simp only [actG, Int.reduceEq, ↓reduceIte, e, Int.toNat_natCast] at h hok ⊢
  by_cases hF : inB F (g.1.getD ra nd0).2.1.length
  · rw [if_pos hF] at hok ⊢
    obtain ⟨f0, f1⟩ := inB_nat hF
    refine ⟨ra, h1, h2, hA, rfl, hl, hF, rfl, ?_⟩
    dsimp only at hok
    rw [doG_act hok h2 (opOk_of (by omega) (by omega)) (by dsimp only; exact begin_get hA hn)]
    simp only [actG, Int.reduceEq, ↓reduceIte, e, Int.toNat_natCast, getD_set_self hl, List.length_set, hF, getD_set_self f1]
  · rw [if_neg hF] at h; cases h
theorem begin_six0 {rs : List Int} {A B : Int} (ha : inB A rs.length) (hb : inB B rs.length) : beginC (6, A, B, 0, 0, 0, (0, 0, ()), ()) rs (-1) = 0 := begin_six ha hb

/-- What is new. -/
theorem new_law {g : Gr} {t A B C F V R M : Int} (h : (doG g t (1, A, B, C, F, V, (R, M, ()), ())).2.1 = 0) :
    ∃ r m : Nat, R = (r : Int) ∧ M = (m : Int) ∧ r ≤ 4 ∧ m ≤ 4 ∧ inB t g.2.1.length ∧ (g.2.1.getD t.toNat []).length < 8 ∧ g.1.length < 200 ∧
      doG g t (1, A, B, C, F, V, (R, M, ()), ()) = (0, 0, g.1 ++ [(List.replicate r (-1), List.replicate m 0, ())], g.2.1.set t.toNat (g.2.1.getD t.toNat [] ++ [(g.1.length : Int)]), g.2.2.1, ()) ∧
      ∀ i : Nat, i < (g.2.1.getD t.toNat []).length → ∃ h', doG (doG g t (1, A, B, C, F, V, (R, M, ()), ())).2.2 t (6, (i : Int), ((g.2.1.getD t.toNat []).length : Int), 0, 0, 0, (0, 0, ()), ()) = (0, 0, h') := by
  obtain ⟨h1, h2, h3, h4, h5⟩ := doG_zero h
  have hok := (doG_ok (by omega : (doG g t (1, A, B, C, F, V, (R, M, ()), ())).2.1 ≠ 1)).2
  obtain ⟨t0, t1⟩ := inB_nat h2
  obtain ⟨z1, z2, z3, z4, z5, z6⟩ := beginZ h4
  have hz6 := z6 (.inl rfl)
  have hr := okG_iff.1 h1
  have hrs := hr.2.2.2.2.1 _ (List.getElem_mem t1)
  rw [← getD_lt (d := []) t1] at hrs
  simp only [opOk, shOk, Bool.and_eq_true, decide_eq_true_eq, Bool.or_eq_true, Bool.not_eq_true', decide_eq_false_iff_not] at h3
  obtain ⟨r0, r4, m0, m4⟩ := h3.2.2.resolve_left (by simp)
  obtain ⟨r, rfl⟩ := Int.eq_ofNat_of_zero_le r0
  obtain ⟨m, rfl⟩ := Int.eq_ofNat_of_zero_le m0
  rw [h5] at h hok ⊢
  simp only [actG, Int.reduceEq, ↓reduceIte] at h hok ⊢
  by_cases h200 : g.1.length = 200
  · rw [if_pos h200] at h; cases h
  · rw [if_neg h200] at hok ⊢
    dsimp only at hok
    refine ⟨r, m, rfl, rfl, by omega, by omega, h2, by omega, by omega, rfl, fun i hi => ?_⟩
    have e : (g.2.1.set t.toNat (g.2.1.getD t.toNat [] ++ [(g.1.length : Int)])).getD t.toNat [] = g.2.1.getD t.toNat [] ++ [(g.1.length : Int)] := getD_set_self t1
    have i1 : inB (i : Int) (g.2.1.getD t.toNat [] ++ [(g.1.length : Int)]).length := by unfold inB; simp only [List.length_append, List.length_singleton]; omega
    have i2 : inB ((g.2.1.getD t.toNat []).length : Int) (g.2.1.getD t.toNat [] ++ [(g.1.length : Int)]).length := by unfold inB; simp only [List.length_append, List.length_singleton]; omega
    dsimp only
    rw [doG_act hok (by simpa using h2) (opOk_of (by omega) (by omega)) (by dsimp only; rw [e]; exact begin_six i1 i2)]
    simp only [actG, Int.reduceEq, ↓reduceIte, e, Int.toNat_natCast, getD_app_eq, getD_app_lt hi]
    have := okR_get hrs.2 hi
    rw [if_neg (by omega)]
    exact ⟨_, rfl⟩
section
variable {N : Nat} (hN : lim < N)
include hN

theorem doG_smG {g : Gr} {t : Int} {o : Opx} : smG (doG g t o).2.2 := by
  unfold doG
  split
  · rename_i hc
    split
    · rename_i hz; exact okG_small hN (actG_ok hc.1 hc.2.1 hc.2.2 hz)
    · exact okG_small hN hc.1
  · exact ⟨by simp [sm], by simp, by simp [sm], by simp, by simp [sm]⟩
end
section
variable {N : Nat} (hN : lim < N)
include hN

theorem FnOpFresh_ok {code : List Int} (hb : ∀ x ∈ code, 0 ≤ x ∧ x < 256) : FvFnOpFresh N (code, ()) = some (true, ()) := by
  have hlim : lim = 2147483648 := rfl
  by_cases hbig : (code.length : Int) > 1048576
  · simp [FvFnOpFresh, hbig]
  obtain ⟨t, k, A, B, C, F, V, R, M, g, e, sg⟩ := sDrawGraphDo_ok hN hb
  simp only [FvFnOpFresh, e, Option.bind_some, hbig, decide_false, cond_false]
  have es := sGraphDo_ok hN (g := g) (t := t) (o := (1, A, B, C, F, V, (R, M, ()), ())) sg
  have ei := iGraphDo_ok hN (g := g) (t := t) (o := (1, A, B, C, F, V, (R, M, ()), ())) sg
  have sh := doG_smG hN (g := g) (t := t) (o := (1, A, B, C, F, V, (R, M, ()), ()))
  have u := new_law (g := g) (t := t) (A := A) (B := B) (C := C) (F := F) (V := V) (R := R) (M := M)
  generalize doG g t (1, A, B, C, F, V, (R, M, ()), ()) = d at es ei sh u
  obtain ⟨x, c, h⟩ := d
  dsimp only at es ei sh u
  have ef1 := vflGraph_ok hN (g := h) (h := h) sh
  by_cases c0 : c = 0
  · obtain ⟨r, m, rfl, rfl, r4, m4, ht, h8, h200, e1, hq⟩ := u c0
    obtain ⟨t0, t1⟩ := inB_nat ht
    simp only [Prod.mk.injEq] at e1
    obtain ⟨rfl, rfl, rfl⟩ := e1
    obtain ⟨gp, gq, gr, ⟨⟩⟩ := g
    dsimp only at h8 h200 t1 hq ht sh
    have e2 : (gq.set t.toNat (gq.getD t.toNat [] ++ [(gp.length : Int)])).getD t.toNat [] = gq.getD t.toNat [] ++ [(gp.length : Int)] := getD_set_self t1
    have w1 : w64 (((gq.getD t.toNat []).length + 1 : Nat) - 1 : Int) = ((gq.getD t.toNat []).length : Int) := by rw [w64_id (by omega) (by omega)]; omega
    have w2 : w64 ((gp.length + 1 : Nat) - 1 : Int) = (gp.length : Int) := by rw [w64_id (by omega) (by omega)]; omega
    have L0 : ∀ n i, i ≤ (gq.getD t.toNat []).length → (gq.getD t.toNat []).length - i < n → lvFnOpFresh_0 N n (t, ((gq.getD t.toNat []).length : Int), (i : Int), 1, A, B, C, F, V, (r : Int), (m : Int), gp ++ [(List.replicate r (-1), List.replicate m 0, ())], gq.set t.toNat (gq.getD t.toNat [] ++ [(gp.length : Int)]), gr, ()) =
        some (.inl (1, A, B, C, F, V, (r : Int), (m : Int), gp ++ [(List.replicate r (-1), List.replicate m 0, ())], gq.set t.toNat (gq.getD t.toNat [] ++ [(gp.length : Int)]), gr, ())) := by
      intro n
      induction n with
      | zero => intro i _ h; exact absurd h (Nat.not_lt_zero _)
      | succ n ih =>
        intro i hi hn
        unfold lvFnOpFresh_0
        dsimp only
        by_cases h : i < (gq.getD t.toNat []).length
        · have h' : (i : Int) < ((gq.getD t.toNat []).length : Int) := by omega
          have hw : w64 ((i : Int) + 1) = ((i + 1 : Nat) : Int) := w64_succ (by omega)
          obtain ⟨h2, e3⟩ := hq i h
          have e4 := iGraphDo_ok hN (t := t) (o := (6, (i : Int), ((gq.getD t.toNat []).length : Int), 0, 0, 0, (0, 0, ()), ())) sh
          rw [e3] at e4
          simp only [h', decide_true, cond_true, e4, Option.bind_some, hw, bif_bne, if_true]
          exact ih (i + 1) (by omega) (by omega)
        · have : i = (gq.getD t.toNat []).length := by omega
          subst this
          simp only [Int.lt_irrefl, decide_false, cond_false]
    have L0 := L0 N 0 (by omega) (by omega)
    have L2 : ∀ n i, i ≤ r → r - i < n → lvFnOpFresh_2 N n ((i : Int), 1, A, B, C, F, V, (r : Int), (m : Int), List.replicate r (-1), List.replicate m 0, ()) = some (.inl (1, A, B, C, F, V, (r : Int), (m : Int), List.replicate r (-1), List.replicate m 0, ())) := by
      intro n
      induction n with
      | zero => intro i _ h; exact absurd h (Nat.not_lt_zero _)
      | succ n ih =>
        intro i hi hn
        unfold lvFnOpFresh_2
        dsimp only
        simp only [List.length_replicate]
        by_cases h : i < r
        · have h' : (i : Int) < (r : Int) := by omega
          have hw : w64 ((i : Int) + 1) = ((i + 1 : Nat) : Int) := w64_succ (by omega)
          have eg : (List.replicate r (-1 : Int)).getD i 0 = -1 := by rw [getD_lt (by simpa using h)]; simp
          simp only [h', decide_true, cond_true, Int.natCast_nonneg, Int.toNat_natCast, h, eg, hw, bif_bne, if_true]
          exact ih (i + 1) (by omega) (by omega)
        · have : i = r := by omega
          subst this
          simp only [Int.lt_irrefl, decide_false, cond_false]
    have L2 := L2 N 0 (by omega) (by omega)
    simp only [Int.natCast_zero] at L0 L2
    dsimp only at es ei ef1
    have l1 : (gq.getD t.toNat [] ++ [(gp.length : Int)]).length = (gq.getD t.toNat []).length + 1 := by simp
    have l2 : (gp ++ [((List.replicate r (-1) : List Int), (List.replicate m 0 : List Int), ())]).length = gp.length + 1 := by simp
    simp only [es, ei, Option.bind_some, ef1, decide_true, Bool.not_true, cond_false, bif_bne, if_true, Sum.elim_inl, t0, List.length_set, t1, cond_true, e2, l1, w1, L0, l2, w2, Int.natCast_nonneg, Int.toNat_natCast, Nat.lt_succ_self, getD_app_eq, L2, List.length_replicate, beq_self_eq_true]
  · obtain ⟨gp, gq, gr, ⟨⟩⟩ := g
    obtain ⟨p, q, s, ⟨⟩⟩ := h
    simp only [es, ei, Option.bind_some, ef1, decide_true, Bool.not_true, cond_false, bif_bne, if_true, Sum.elim_inl, c0, if_false]
end
end Go.Fl
