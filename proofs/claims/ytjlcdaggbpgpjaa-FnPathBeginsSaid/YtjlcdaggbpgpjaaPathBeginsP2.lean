/- Proved: for every input the law FnPathBegins returns true and leaves its arguments as they were. Part 2: the functions that the law reaches, as plain functions, and plain laws about them; no conditions. -/
import Derived.Test.YtjlcdaggbpgpjaaPathBeginsP1
set_option linter.all false
set_option linter.all false
set_option maxRecDepth 10000
namespace Go.Fl
open Go
/-- A law's inputs are at most so large. -/
abbrev sm (n : Nat) : Prop := n ≤ 1048576

abbrev Nd := List Int × List Int × Unit

abbrev Gr := List Nd × List (List Int) × List Int × Unit

def smN (x : Nd) : Prop := sm x.1.length ∧ sm x.2.1.length

def smG (g : Gr) : Prop := sm g.1.length ∧ (∀ x ∈ g.1, smN x) ∧ sm g.2.1.length ∧ (∀ x ∈ g.2.1, sm x.length) ∧ sm g.2.2.1.length

abbrev ml (n : Nat) : Prop := n ≤ 9223372036854775807

def mlN (x : Nd) : Prop := ml x.1.length ∧ ml x.2.1.length

def mlG (g : Gr) : Prop := ml g.1.length ∧ (∀ x ∈ g.1, mlN x) ∧ ml g.2.1.length ∧ (∀ x ∈ g.2.1, ml x.length) ∧ ml g.2.2.1.length

/-- A loop that tells what is left, or stops. -/
theorem size_loop {α : Type} {xs : List α} (P : α → Prop) {L : Nat → Nat → Int → Option ((Int × Unit) ⊕ (Int × Unit))} (hl : xs.length ≤ lim)
    (h1 : ∀ n i (h : i < xs.length) (left : Int), 0 ≤ left → left ≤ 1048576 → w64 ((i : Int) + 1) = ((i + 1 : Nat) : Int) →
      L (n + 1) i left = some (.inr (-1, ())) ∨ ∃ r, 0 ≤ r ∧ r ≤ left ∧ P xs[i] ∧ L (n + 1) i left = L n (i + 1) r)
    (h3 : ∀ n left, L (n + 1) xs.length left = some (.inl (left, ()))) {n : Nat} (hn : xs.length < n) {left : Int} (h0 : 0 ≤ left) (h1' : left ≤ 1048576) :
    L n 0 left = some (.inr (-1, ())) ∨ ∃ r, 0 ≤ r ∧ r ≤ left ∧ (∀ x ∈ xs, P x) ∧ L n 0 left = some (.inl (r, ())) := by
  have key : ∀ n i left, 0 ≤ left → left ≤ 1048576 → i ≤ xs.length → xs.length - i < n → L n i left = some (.inr (-1, ())) ∨ ∃ r, 0 ≤ r ∧ r ≤ left ∧ (∀ x ∈ xs.drop i, P x) ∧ L n i left = some (.inl (r, ())) := by
    intro n
    induction n with
    | zero => intro i left _ _ _ h; exact absurd h (Nat.not_lt_zero _)
    | succ n ih =>
      intro i left h0 h2 hi hn
      by_cases h : i < xs.length
      · rcases h1 n i h left h0 h2 (w64_succ (by have : lim = 2147483648 := rfl; omega)) with h4 | ⟨r, h4, h5, h6, h7⟩
        · exact .inl h4
        · rw [h7]
          rcases ih (i + 1) r h4 (by omega) (by omega) (by omega) with h8 | ⟨q, h8, h9, h10, h11⟩
          · exact .inl h8
          · refine .inr ⟨q, h8, by omega, ?_, h11⟩
            rw [drop_at h]
            exact List.forall_mem_cons.2 ⟨h6, h10⟩
      · have : i = xs.length := by omega
        subst this
        exact .inr ⟨left, h0, Int.le_refl _, by simp, h3 _ _⟩
  simpa using key n 0 left h0 h1' (by omega) (by omega)

theorem sm_lim {n : Nat} (h : sm n) : n ≤ lim := by simp only [sm] at h; rw [lim_eq]; omega

theorem wf_u8 {n : Int} (h : (Lit.int .u8 n).wf = true) : 0 ≤ n ∧ n < 256 := by
  simp only [Lit.wf, IntKind.min, IntKind.max, IntKind.signed, IntKind.bits] at h
  simp at h
  omega
theorem wf_i64 {n : Int} (h : (Lit.int .i64 n).wf = true) : -9223372036854775808 ≤ n ∧ n < 9223372036854775808 := by
  simp only [Lit.wf, IntKind.min, IntKind.max, IntKind.signed, IntKind.bits] at h
  simp at h
  omega
section
variable {N : Nat} (hN : lim < N)
include hN

theorem vflInts_ok {xs ys : List Int} (hl : xs.length ≤ lim) : FvflInts N (xs, ys, ()) = some (decide (xs = ys), ()) := by
  by_cases hlen : xs.length = ys.length
  · have hL := eq_loop (xs := xs) (ys := ys) (n := N) (L := fun n i => lvflInts_0 N n (xs, ys, (i : Int), ())) (yes := .inl ()) (no := .inr (false, ())) hl hlen
      (fun n i h1 h2 hw hq => by simp [lvflInts_0, h1, h2, hw, hq])
      (fun n i h1 h2 hq => by simp [lvflInts_0, h1, h2, hq])
      (fun n => by simp [lvflInts_0, hlen]) (by omega)
    simp only [Int.natCast_zero] at hL
    rcases Decidable.em (xs = ys) with rfl | h
    · simp [FvflInts, hL]
    · simp [FvflInts, hL, h, hlen]
  · have h : xs ≠ ys := fun h => hlen (by rw [h])
    have h2 : (xs.length : Int) ≠ ys.length := by omega
    simp [FvflInts, h, h2]
end
/-- It comes to an end, and what it comes to is so. -/
def Ret {α : Type} (o : Option α) (P : α → Prop) : Prop := ∃ r, o = some r ∧ P r

theorem Ret.pure {α : Type} {a : α} {P : α → Prop} (h : P a) : Ret (some a) P := ⟨a, rfl, h⟩
theorem Ret.bind {α β : Type} {o : Option α} {k : α → Option β} {P : β → Prop} (Q : α → Prop) (h : Ret o Q) (hk : ∀ r, Q r → Ret (k r) P) : Ret (o.bind k) P := by
  obtain ⟨r, e, hr⟩ := h
  rw [e]
  exact hk r hr
theorem Ret.bindE {α β : Type} {o : Option α} {k : α → Option β} {P : β → Prop} {r : α} (e : o = some r) (hk : Ret (k r) P) : Ret (o.bind k) P := by
  rw [e]; exact hk
theorem Ret.mono {α : Type} {o : Option α} {P Q : α → Prop} (h : Ret o P) (hm : ∀ r, P r → Q r) : Ret o Q := by
  obtain ⟨r, e, hr⟩ := h; exact ⟨r, e, hm r hr⟩
theorem Ret.bif {α : Type} {c : Bool} {a b : Option α} {P : α → Prop} (h1 : c = true → Ret a P) (h2 : c = false → Ret b P) : Ret (bif c then a else b) P := by
  cases c with
  | true => exact h1 rfl
  | false => exact h2 rfl
theorem Ret.dec {α : Type} {p : Prop} [Decidable p] {a b : Option α} {P : α → Prop} (h1 : p → Ret a P) (h2 : ¬ p → Ret b P) : Ret (_root_.cond (decide p) a b) P := by
  by_cases h : p
  · simpa [h] using h1 h
  · simpa [h] using h2 h
theorem Ret.guard {α : Type} {p : Prop} [Decidable p] {a : Option α} {P : α → Prop} (hp : p) (h : Ret a P) : Ret (_root_.cond (decide p) a none) P := by
  simpa [hp] using h
theorem Ret.guardN {α : Type} {p : Prop} [Decidable p] {a : Option α} {P : α → Prop} (hp : ¬ p) (h : Ret a P) : Ret (_root_.cond (decide p) none a) P := by
  simpa [hp] using h
theorem Ret.beq {α β : Type} [DecidableEq β] {x y : β} {a b : Option α} {P : α → Prop} (h1 : x = y → Ret a P) (h2 : ¬ x = y → Ret b P) : Ret (_root_.cond (x == y) a b) P := by
  rw [bif_beq]
  by_cases h : x = y
  · simpa [h] using h1 h
  · simpa [h] using h2 h
theorem obind_eq {α β : Type} {o : Option α} {r : α} {k : α → Option β} {z : Option β} (e : o = some r) (h : k r = z) : o.bind k = z := by
  rw [e]; exact h
/-- What a code is: bytes. -/
def byteL (b : List Int) : Prop := b.length ≤ 2000 ∧ ∀ x ∈ b, 0 ≤ x ∧ x < 256

theorem xor_rng {x y : Int} (hx : 0 ≤ x) (hx' : x < 9223372036854775808) (hy : 0 ≤ y) (hy' : y < 9223372036854775808) :
    0 ≤ w64 (((bitsOf .i64 x ^^^ bitsOf .i64 y).toNat : Int)) := by
  have h1 : (bitsOf .i64 x).toNat < 2 ^ 63 := by
    simp only [bitsOf, IntKind.bits, BitVec.toNat_ofInt]; omega
  have h2 : (bitsOf .i64 y).toNat < 2 ^ 63 := by
    simp only [bitsOf, IntKind.bits, BitVec.toNat_ofInt]; omega
  have h3 : (bitsOf .i64 x ^^^ bitsOf .i64 y).toNat < 2 ^ 63 := by
    rw [BitVec.toNat_xor]
    exact Nat.xor_lt_two_pow h1 h2
  rw [w64_id (by omega) (by omega)]
  omega

theorem tmod_rng {x n : Int} (hx : 0 ≤ x) (hn : 1 ≤ n) : 0 ≤ Int.tmod x n ∧ Int.tmod x n < n := by
  rw [Int.tmod_eq_emod_of_nonneg hx]
  exact ⟨Int.emod_nonneg _ (by omega), Int.emod_lt_of_pos _ (by omega)⟩

section
variable {N : Nat}

theorem pick_ok {b : List Int} {p n : Int} (hb : byteL b) (hp : 0 ≤ p) (hp' : p < 1099511627776) :
    ∃ v, Fsl1Rd_pick N (n, b, p, ()) = some (v, b, p + 1, ()) ∧ 0 ≤ v ∧ (v < n ∨ v = 0) := by
  obtain ⟨hl, hx⟩ := hb
  have e1 : w64 (p + 1) = p + 1 := w64_id (by omega) (by omega)
  have e2 : w64 (p + 1 - 1) = p := by rw [w64_id (by omega) (by omega)]; omega
  simp only [Fsl1Rd_pick, e1]
  by_cases hn : n < 1
  · exact ⟨0, by simp [hn], by omega, .inr rfl⟩
  · have hn' : ¬ n = 0 := by omega
    by_cases h0 : b.length = 0
    · have : (b.length : Int) = 0 := by omega
      exact ⟨0, by simp [hn, this], by omega, .inr rfl⟩
    · have h0' : ¬ (b.length : Int) = 0 := by omega
      simp only [hn, decide_false, cond_false, bif_beq, h0', if_false, Option.bind_some, Sum.elim_inl, e2]
      by_cases hk : p < (b.length : Int)
      · have hk' : p.toNat < b.length := by omega
        have := hx _ (List.getElem_mem hk')
        simp only [hk, decide_true, cond_true, hp, hk', getD_lt hk', hn', decide_false, cond_false]
        rw [w64_id (by omega) (by omega)]
        exact ⟨_, rfl, (tmod_rng this.1 (by omega)).1, .inl (tmod_rng this.1 (by omega)).2⟩
      · obtain ⟨a1, a2⟩ := tmod_rng hp (n := (b.length : Int)) (by omega)
        have a3 : (Int.tmod p b.length).toNat < b.length := by omega
        have a4 := hx _ (List.getElem_mem a3)
        have e3 : w64 (p * 7) = p * 7 := w64_id (by omega) (by omega)
        have e4 : w64 (p * 7 + 3) = p * 7 + 3 := w64_id (by omega) (by omega)
        obtain ⟨c1, c2⟩ := tmod_rng (x := p * 7 + 3) (by omega) (n := (b.length : Int)) (by omega)
        have c3 : (Int.tmod (p * 7 + 3) b.length).toNat < b.length := by omega
        have c4 := hx _ (List.getElem_mem c3)
        have e5 : w64 (p * 29) = p * 29 := w64_id (by omega) (by omega)
        have d0 : 0 ≤ Int.tdiv p b.length ∧ Int.tdiv p b.length ≤ p := by
          rw [Int.tdiv_eq_ediv_of_nonneg hp]
          exact ⟨Int.ediv_nonneg hp (by omega), Int.ediv_le_self _ hp⟩
        have e6 : w64 (Int.tdiv p b.length) = Int.tdiv p b.length := w64_id (by omega) (by omega)
        simp only [hk, decide_false, cond_false, h0', a1, a3, decide_true, cond_true, getD_lt a3, e3, e4, c1, c3, getD_lt c3, e5, e6]
        generalize b[(Int.tmod p b.length).toNat] = u at a4 ⊢
        generalize b[(Int.tmod (p * 7 + 3) b.length).toNat] = v at c4 ⊢
        generalize Int.tdiv p b.length = q at d0 ⊢
        have f1 : w64 u = u := w64_id (by omega) (by omega)
        have f2 : w64 v = v := w64_id (by omega) (by omega)
        have f3 : w64 (u * 131) = u * 131 := w64_id (by omega) (by omega)
        have f4 : w64 (v * 1117) = v * 1117 := w64_id (by omega) (by omega)
        have f5 : w64 (u * 131 + v * 1117) = u * 131 + v * 1117 := w64_id (by omega) (by omega)
        have f6 : w64 (u * 131 + v * 1117 + p * 29) = u * 131 + v * 1117 + p * 29 := w64_id (by omega) (by omega)
        have f7 : w64 (q * 53) = q * 53 := w64_id (by omega) (by omega)
        have f8 : w64 (u * 131 + v * 1117 + p * 29 + q * 53) = u * 131 + v * 1117 + p * 29 + q * 53 := w64_id (by omega) (by omega)
        simp only [f1, f2, f3, f4, f5, f6, f7, f8]
        generalize hz : u * 131 + v * 1117 + p * 29 + q * 53 = z
        have z0 : 0 ≤ z ∧ z < 9223372036854775808 := by omega
        have g0 : 0 ≤ Int.tdiv z 64 ∧ Int.tdiv z 64 ≤ z := by
          rw [Int.tdiv_eq_ediv_of_nonneg z0.1]
          exact ⟨Int.ediv_nonneg z0.1 (by omega), Int.ediv_le_self _ z0.1⟩
        have g1 : w64 (Int.tdiv z 64) = Int.tdiv z 64 := w64_id (by omega) (by omega)
        have hxr := xor_rng z0.1 z0.2 g0.1 (by omega : Int.tdiv z 64 < 9223372036854775808)
        rw [g1]
        have h64 : ¬ (64 : Int) = 0 := by omega
        simp only [h64, decide_false, cond_false, hn']
        exact ⟨_, rfl, (tmod_rng hxr (by omega)).1, .inl (tmod_rng hxr (by omega)).2⟩

theorem pick_bind {β : Type} {b : List Int} {p n : Int} {k : Int × List Int × Int × Unit → Option β} {P : β → Prop} (hb : byteL b) (hp : 0 ≤ p) (hp' : p < 1099511627776)
    (hk : ∀ v, 0 ≤ v → (v < n ∨ v = 0) → Ret (k (v, b, p + 1, ())) P) : Ret ((Fsl1Rd_pick N (n, b, p, ())).bind k) P := by
  obtain ⟨v, e, h1, h2⟩ := pick_ok (N := N) (n := n) hb hp hp'
  exact Ret.bindE e (hk v h1 h2)
end
section
variable {N : Nat}

theorem l20Shape_ok {b : List Int} {p : Int} (hb : byteL b) (hp : 0 ≤ p) (hp' : p < 1099511627700) :
    Ret (Fsl20Shape N (b, p, ())) (fun r => r.2.2.1 = b ∧ p ≤ r.2.2.2.1 ∧ r.2.2.2.1 ≤ p + 3) := by
  unfold Fsl20Shape
  repeat' (first
    | refine pick_bind hb (by omega) (by omega) (fun v a c => ?_)
    | refine Ret.guard (by first | omega | (simp; omega)) ?_
    | refine Ret.beq (fun e => ?_) (fun e => ?_)
    | refine Ret.pure ?_
    | dsimp only)
  all_goals exact ⟨rfl, by omega, by omega⟩

theorem l20Op_ok {n : Int} {b : List Int} {p : Int} (hb : byteL b) (hp : 0 ≤ p) (hp' : p < 1099511627600) :
    Ret (Fsl20Op N (n, b, p, ())) (fun r => r.2.2.2.2.2.2.2.2.1 = b ∧ p ≤ r.2.2.2.2.2.2.2.2.2.1 ∧ r.2.2.2.2.2.2.2.2.2.1 ≤ p + 30) := by
  unfold Fsl20Op
  dsimp only
  refine pick_bind hb (by omega) (by omega) (fun v1 a1 c1 => ?_)
  dsimp only
  refine pick_bind hb (by omega) (by omega) (fun v2 a2 c2 => ?_)
  dsimp only
  refine pick_bind hb (by omega) (by omega) (fun v3 a3 c3 => ?_)
  dsimp only
  refine pick_bind hb (by omega) (by omega) (fun v4 a4 c4 => ?_)
  dsimp only
  refine pick_bind hb (by omega) (by omega) (fun v5 a5 c5 => ?_)
  dsimp only
  refine Ret.bind (fun o => o.1 = b ∧ p ≤ o.2.1 ∧ o.2.1 ≤ p + 9) ?_ (fun o ho => ?_)
  · repeat' (first
      | refine pick_bind hb (by omega) (by omega) (fun v a c => ?_)
      | refine Ret.dec (fun e => ?_) (fun e => ?_)
      | refine Ret.pure ?_
      | dsimp only)
    all_goals exact ⟨rfl, by omega, by omega⟩
  obtain ⟨b', p1, o⟩ := o
  simp only at ho
  obtain ⟨rfl, h1, h2⟩ := ho
  dsimp only
  refine pick_bind hb (by omega) (by omega) (fun v6 a6 c6 => ?_)
  dsimp only
  refine Ret.bind (fun o => o.1 = b' ∧ p ≤ o.2.1 ∧ o.2.1 ≤ p + 15) ?_ (fun o ho => ?_)
  · repeat' (first
      | refine pick_bind hb (by omega) (by omega) (fun v a c => ?_)
      | refine Ret.bind _ (l20Shape_ok hb (by omega) (by omega)) (fun r hr => ?_)
      | refine Ret.guard (by first | omega | (simp; omega)) ?_
      | refine Ret.dec (fun e => ?_) (fun e => ?_)
      | refine Ret.beq (fun e => ?_) (fun e => ?_)
      | refine Ret.pure ?_
      | dsimp only)
    · exact ⟨hr.1, by have := hr.2; omega, by have := hr.2; omega⟩
    all_goals exact ⟨rfl, by omega, by omega⟩
  obtain ⟨b'', p2, o⟩ := o
  simp only at ho
  obtain ⟨rfl, h3, h4⟩ := ho
  dsimp only
  refine Ret.bind (fun o => o.1 = b'' ∧ p ≤ o.2.1 ∧ o.2.1 ≤ p + 16) ?_ (fun o ho => ?_)
  · repeat' (first
      | refine pick_bind hb (by omega) (by omega) (fun v a c => ?_)
      | refine Ret.beq (fun e => ?_) (fun e => ?_)
      | refine Ret.pure ?_
      | dsimp only)
    all_goals exact ⟨rfl, by omega, by omega⟩
  obtain ⟨b3, p3, o⟩ := o
  simp only at ho
  obtain ⟨rfl, h5, h6⟩ := ho
  dsimp only
  repeat' (first
      | refine pick_bind hb (by omega) (by omega) (fun v a c => ?_)
      | refine Ret.guard (by first | omega | (simp; omega)) ?_
      | refine Ret.beq (fun e => ?_) (fun e => ?_)
      | refine Ret.pure ?_
      | dsimp only)
  all_goals exact ⟨rfl, by omega, by omega⟩
end
def okR (m : Nat) (l : List Int) : Bool := l.all fun x => decide (-1 ≤ x) && decide (x < (m : Int))

def okN (m : Nat) (x : Nd) : Bool := decide (x.1.length ≤ 4) && (decide (x.2.1.length ≤ 4) && okR m x.1)

def okG (g : Gr) : Bool :=
  decide (g.1.length ≤ 200) && (decide (1 ≤ g.2.1.length) && (decide (g.2.1.length ≤ 3) && (g.1.all (okN g.1.length) && (g.2.1.all (fun r => decide (r.length ≤ 8) && okR g.1.length r) &&
    (decide (g.2.2.1.length ≤ 8) && (g.2.2.1.all (fun x => decide (0 ≤ x)) && okR g.1.length g.2.2.1))))))

theorem okG_iff {g : Gr} : okG g = true ↔ g.1.length ≤ 200 ∧ 1 ≤ g.2.1.length ∧ g.2.1.length ≤ 3 ∧ (∀ x ∈ g.1, x.1.length ≤ 4 ∧ x.2.1.length ≤ 4 ∧ okR g.1.length x.1 = true) ∧
    (∀ r ∈ g.2.1, r.length ≤ 8 ∧ okR g.1.length r = true) ∧ g.2.2.1.length ≤ 8 ∧ (∀ x ∈ g.2.2.1, 0 ≤ x) ∧ okR g.1.length g.2.2.1 = true := by
  simp only [okG, okN, Bool.and_eq_true, decide_eq_true_eq, List.all_eq_true]

theorem okR_iff {m : Nat} {l : List Int} : okR m l = true ↔ ∀ x ∈ l, -1 ≤ x ∧ x < (m : Int) := by
  simp only [okR, List.all_eq_true, Bool.and_eq_true, decide_eq_true_eq]

abbrev Mst := List Int × List Bool

/-- A reference is met. -/
def meet (st : Mst) (r : Int) : Mst := if 0 ≤ r ∧ st.2.getD r.toNat false = false then (st.1 ++ [r], st.2.set r.toNat true) else st

structure Met (m : Nat) (st : Mst) : Prop where
  len : st.2.length = m
  cnt : st.1.length + st.2.count false = m
  rng : ∀ r ∈ st.1, 0 ≤ r ∧ r < (m : Int)
  had : ∀ r : Int, 0 ≤ r → (st.2.getD r.toNat false = true ↔ r ∈ st.1)
  nd : st.1.Nodup

theorem count_set_true : ∀ {l : List Bool} {i : Nat}, i < l.length → l.getD i false = false → (l.set i true).count false + 1 = l.count false
  | [], _, h, _ => by simp at h
  | b :: l, 0, _, h => by simp at h; subst h; simp
  | b :: l, i + 1, h, h2 => by
    have ih := count_set_true (l := l) (i := i) (by simpa using h) (by simpa using h2)
    simp only [List.set_cons_succ, List.count_cons]
    omega

theorem Met.le {m : Nat} {st : Mst} (h : Met m st) : st.1.length ≤ m := by have := h.cnt; omega

theorem Met.meet {m : Nat} {st : Mst} (h : Met m st) {r : Int} (hr : r < (m : Int)) : Met m (meet st r) := by
  unfold Fl.meet
  split
  · rename_i hc
    have hl : r.toNat < st.2.length := by rw [h.len]; omega
    have hn : ¬ r ∈ st.1 := fun hm => by
      have := (h.had r hc.1).2 hm
      rw [hc.2] at this
      cases this
    refine ⟨by simp [h.len], ?_, ?_, ?_, ?_⟩
    · have := count_set_true hl hc.2
      have := h.cnt
      simp only [List.length_append, List.length_singleton]
      omega
    · intro x hx
      simp only [List.mem_append, List.mem_singleton] at hx
      rcases hx with hx | rfl
      · exact h.rng x hx
      · exact ⟨hc.1, hr⟩
    · intro x hx
      simp only [List.mem_append, List.mem_singleton]
      rw [← h.had x hx]
      simp only [List.getD_eq_getElem?_getD, List.getElem?_set]
      by_cases e : r.toNat = x.toNat
      · have : x = r := by omega
        subst this
        simp [hl]
      · have : ¬ x = r := fun e' => e (by rw [e'])
        simp [e, this]
    · rw [List.nodup_append]
      refine ⟨h.nd, by simp, ?_⟩
      intro a ha b hb e
      simp at hb
      subst hb
      subst e
      exact hn ha
  · exact h

theorem Met.meets {m : Nat} {l : List Int} : ∀ {st : Mst}, Met m st → (∀ r ∈ l, r < (m : Int)) → Met m (l.foldl Fl.meet st) := by
  induction l with
  | nil => intro st h _; exact h
  | cons r l ih => intro st h hl; exact ih (h.meet (hl r (by simp))) fun x hx => hl x (by simp [hx])

/-- Met is only more and more. -/
theorem meet_pre (st : Mst) (r : Int) : st.1 <+: (meet st r).1 := by
  unfold meet
  split
  · exact List.prefix_append _ _
  · exact List.prefix_refl _

theorem meets_pre {l : List Int} : ∀ {st : Mst}, st.1 <+: (l.foldl meet st).1 := by
  induction l with
  | nil => intro st; exact List.prefix_refl _
  | cons r l ih => intro st; exact (meet_pre st r).trans ih

theorem meet_mem {m : Nat} {st : Mst} (h : Met m st) {r : Int} (h0 : 0 ≤ r) : r ∈ (meet st r).1 := by
  unfold meet
  split
  · simp
  · rename_i hc
    exact (h.had r h0).1 (by
      cases hb : st.2.getD r.toNat false with
      | true => rfl
      | false => exact absurd ⟨h0, hb⟩ hc)

theorem meets_mem {m : Nat} {l : List Int} : ∀ {st : Mst}, Met m st → (∀ r ∈ l, r < (m : Int)) → ∀ r ∈ l, 0 ≤ r → r ∈ (l.foldl meet st).1 := by
  induction l with
  | nil => intro st _ _ r hr; simp at hr
  | cons x l ih =>
    intro st h hl r hr h0
    have h1 := h.meet (hl x (by simp))
    simp only [List.mem_cons] at hr
    rcases hr with rfl | hr
    · exact (meets_pre (l := l)).subset (meet_mem h h0)
    · exact ih h1 (fun y hy => hl y (by simp [hy])) r hr h0

theorem meet_sub {st : Mst} {r x : Int} (hx : x ∈ (meet st r).1) : x ∈ st.1 ∨ (x = r ∧ 0 ≤ r) := by
  unfold meet at hx
  split at hx
  · rename_i hc
    simp only [List.mem_append, List.mem_singleton] at hx
    rcases hx with hx | hx
    · exact .inl hx
    · exact .inr ⟨hx, hc.1⟩
  · exact .inl hx

theorem meets_sub {l : List Int} : ∀ {st : Mst} {x : Int}, x ∈ (l.foldl meet st).1 → x ∈ st.1 ∨ (x ∈ l ∧ 0 ≤ x) := by
  induction l with
  | nil => intro st x hx; exact .inl hx
  | cons r l ih =>
    intro st x hx
    rcases ih hx with h | ⟨h, h0⟩
    · rcases meet_sub h with h | ⟨rfl, h0⟩
      · exact .inl h
      · exact .inr ⟨by simp, h0⟩
    · exact .inr ⟨by simp [h], h0⟩

/-- What a node leads to. -/
def refsOf (g : Gr) (r : Int) : List Int := (g.1.getD r.toNat ([], [], ())).1

/-- The met are gone through. -/
def walk (R : Int → List Int) : Nat → Nat → Mst → Mst
  | 0, _, st => st
  | n + 1, i, st => if i < st.1.length then walk R n (i + 1) ((R (st.1.getD i 0)).foldl meet st) else st

def met0 (m : Nat) : Mst := ([], List.replicate m false)

theorem met0_ok (m : Nat) : Met m (met0 m) := by
  refine ⟨by simp [met0], by simp [met0], by simp [met0], ?_, by simp [met0]⟩
  intro r _
  simp only [met0, List.getD_eq_getElem?_getD, List.getElem?_replicate]
  split <;> simp

theorem walk_met {m : Nat} {R : Int → List Int} (hR : ∀ r, 0 ≤ r → r < (m : Int) → ∀ x ∈ R r, x < (m : Int)) : ∀ (n i : Nat) {st : Mst}, Met m st → Met m (walk R n i st)
  | 0, _, _, h => h
  | n + 1, i, st, h => by
    unfold walk
    split
    · rename_i hi
      refine walk_met hR n (i + 1) (h.meets ?_)
      rw [getD_lt hi]
      exact hR _ (h.rng _ (List.getElem_mem hi)).1 (h.rng _ (List.getElem_mem hi)).2
    · exact h

theorem walk_pre {R : Int → List Int} : ∀ (n i : Nat) {st : Mst}, st.1 <+: (walk R n i st).1
  | 0, _, st => List.prefix_refl _
  | n + 1, i, st => by
    unfold walk
    split
    · exact (meets_pre (l := R (st.1.getD i 0))).trans (walk_pre n (i + 1))
    · exact List.prefix_refl _

/-- What is behind the places that were gone through, was met. -/
theorem walk_closed {m : Nat} {R : Int → List Int} (hR : ∀ r, 0 ≤ r → r < (m : Int) → ∀ x ∈ R r, x < (m : Int)) : ∀ (n i : Nat) {st : Mst}, Met m st → m - i < n →
    (∀ j (hj : j < st.1.length), j < i → ∀ x ∈ R st.1[j], 0 ≤ x → x ∈ st.1) → ∀ r ∈ (walk R n i st).1, ∀ x ∈ R r, 0 ≤ x → x ∈ (walk R n i st).1
  | 0, _, _, _, h, _ => absurd h (Nat.not_lt_zero _)
  | n + 1, i, st, h, hn, hc => by
    unfold walk
    split
    · rename_i hi
      have hb : ∀ x ∈ R (st.1.getD i 0), x < (m : Int) := by
        rw [getD_lt hi]
        exact hR _ (h.rng _ (List.getElem_mem hi)).1 (h.rng _ (List.getElem_mem hi)).2
      have hle := h.le
      refine walk_closed hR n (i + 1) (h.meets hb) (by omega) ?_
      intro j hj hji x hx h0
      have hp := meets_pre (l := R (st.1.getD i 0)) (st := st)
      rcases Nat.lt_or_ge j i with hlt | hge
      · have hj' : j < st.1.length := by omega
        have e : ((R (st.1.getD i 0)).foldl meet st).1[j] = st.1[j] := (hp.getElem hj').symm
        rw [e] at hx
        exact hp.subset (hc j hj' hlt x hx h0)
      · have : j = i := by omega
        subst this
        have e : ((R (st.1.getD j 0)).foldl meet st).1[j] = st.1[j] := (hp.getElem hi).symm
        rw [e] at hx
        exact meets_mem h hb x (by rw [getD_lt hi]; exact hx) h0
    · rename_i hi
      intro r hr x hx h0
      obtain ⟨j, hj, rfl⟩ := List.getElem_of_mem hr
      exact hc j hj (by omega) x hx h0

/-- Whatever holds of the first ones and is handed on, holds of all. -/
theorem walk_ind {R : Int → List Int} {P : Int → Prop} (hP : ∀ r, P r → ∀ x ∈ R r, 0 ≤ x → P x) : ∀ (n i : Nat) {st : Mst}, (∀ r ∈ st.1, P r) → ∀ r ∈ (walk R n i st).1, P r
  | 0, _, _, h => h
  | n + 1, i, st, h => by
    unfold walk
    split
    · rename_i hi
      refine walk_ind hP n (i + 1) fun r hr => ?_
      rcases meets_sub hr with h1 | ⟨h1, h0⟩
      · exact h r h1
      · rw [getD_lt hi] at h1
        exact hP _ (h _ (List.getElem_mem hi)) r h1 h0
    · exact h

def begin0 (g : Gr) : Mst := g.2.2.1.foldl meet (g.2.1.foldl (fun s l => l.foldl meet s) (met0 g.1.length))

/-- The nodes that are reached, as they are met. -/
def order (g : Gr) : List Int := (walk (refsOf g) (g.1.length + 1) 0 (begin0 g)).1

theorem refs_rng {g : Gr} (h : okG g = true) (r : Int) : ∀ x ∈ refsOf g r, x < (g.1.length : Int) := by
  obtain ⟨_, _, _, h4, _⟩ := okG_iff.1 h
  intro x hx
  unfold refsOf at hx
  by_cases hr : r.toNat < g.1.length
  · rw [getD_lt hr] at hx
    exact (okR_iff.1 (h4 _ (List.getElem_mem hr)).2.2 x hx).2
  · rw [List.getD_eq_getElem?_getD, List.getElem?_eq_none (by omega)] at hx
    simp at hx

theorem roots_met {m : Nat} {ls : List (List Int)} : ∀ {st : Mst}, Met m st → (∀ l ∈ ls, ∀ x ∈ l, x < (m : Int)) → Met m (ls.foldl (fun s l => l.foldl meet s) st) := by
  induction ls with
  | nil => intro st h _; exact h
  | cons l ls ih => intro st h hl; exact ih (h.meets (hl l (by simp))) fun x hx => hl x (by simp [hx])

theorem roots_pre {ls : List (List Int)} : ∀ {st : Mst}, st.1 <+: (ls.foldl (fun s l => l.foldl meet s) st).1 := by
  induction ls with
  | nil => intro st; exact List.prefix_refl _
  | cons r l ih => intro st; exact meets_pre.trans ih

theorem roots_mem {m : Nat} {ls : List (List Int)} : ∀ {st : Mst}, Met m st → (∀ l ∈ ls, ∀ x ∈ l, x < (m : Int)) → ∀ l ∈ ls, ∀ r ∈ l, 0 ≤ r → r ∈ (ls.foldl (fun s l => l.foldl meet s) st).1 := by
  induction ls with
  | nil => intro st _ _ r hr; simp at hr
  | cons x ls ih =>
    intro st h hl l hm r hr h0
    have h1 := h.meets (hl x (by simp))
    simp only [List.mem_cons] at hm
    rcases hm with rfl | hm
    · exact (roots_pre (ls := ls)).subset (meets_mem h (hl l (by simp)) r hr h0)
    · exact ih h1 (fun y hy => hl y (by simp [hy])) l hm r hr h0

theorem roots_sub {ls : List (List Int)} : ∀ {st : Mst} {x : Int}, x ∈ (ls.foldl (fun s l => l.foldl meet s) st).1 → x ∈ st.1 ∨ ∃ l ∈ ls, x ∈ l ∧ 0 ≤ x := by
  induction ls with
  | nil => intro st x hx; exact .inl hx
  | cons r l ih =>
    intro st x hx
    rcases ih hx with h | ⟨l', h, h0⟩
    · rcases meets_sub h with h | h
      · exact .inl h
      · exact .inr ⟨r, by simp, h⟩
    · exact .inr ⟨l', by simp [h], h0⟩

theorem rootsrng {g : Gr} (h : okG g = true) : ∀ l ∈ g.2.1, ∀ x ∈ l, x < (g.1.length : Int) := fun l hl x hx => by
  obtain ⟨_, _, _, _, h5, _⟩ := okG_iff.1 h
  exact (okR_iff.1 (h5 l hl).2 x hx).2

theorem pinsrng {g : Gr} (h : okG g = true) : ∀ x ∈ g.2.2.1, x < (g.1.length : Int) := fun x hx => by
  obtain ⟨_, _, _, _, _, _, _, h8⟩ := okG_iff.1 h
  exact (okR_iff.1 h8 x hx).2

theorem begin0_ok {g : Gr} (h : okG g = true) : Met g.1.length (begin0 g) :=
  (roots_met (met0_ok _) (rootsrng h)).meets (pinsrng h)

theorem order_met {g : Gr} (h : okG g = true) : Met g.1.length (walk (refsOf g) (g.1.length + 1) 0 (begin0 g)) :=
  walk_met (fun r _ _ => refs_rng h r) _ _ (begin0_ok h)

theorem order_rng {g : Gr} (h : okG g = true) : ∀ r ∈ order g, 0 ≤ r ∧ r < (g.1.length : Int) := (order_met h).rng

theorem order_nodup {g : Gr} (h : okG g = true) : (order g).Nodup := (order_met h).nd

theorem order_le {g : Gr} (h : okG g = true) : (order g).length ≤ g.1.length := (order_met h).le

theorem order_closed {g : Gr} (h : okG g = true) : ∀ r ∈ order g, ∀ x ∈ refsOf g r, 0 ≤ x → x ∈ order g :=
  walk_closed (fun r _ _ => refs_rng h r) _ _ (begin0_ok h) (by omega) fun j _ hj => absurd hj (Nat.not_lt_zero _)

theorem order_roots {g : Gr} (h : okG g = true) : ∀ l ∈ g.2.1, ∀ x ∈ l, 0 ≤ x → x ∈ order g := fun l hl x hx h0 =>
  (walk_pre _ _).subset (meets_pre.subset (roots_mem (met0_ok _) (rootsrng h) l hl x hx h0))

theorem order_pins {g : Gr} (h : okG g = true) : ∀ x ∈ g.2.2.1, x ∈ order g := fun x hx => by
  obtain ⟨_, _, _, _, _, _, h7, _⟩ := okG_iff.1 h
  exact (walk_pre _ _).subset (meets_mem (roots_met (met0_ok _) (rootsrng h)) (pinsrng h) x hx (h7 x hx))

/-- The reached are the least that holds what is begun with and is closed. -/
theorem order_ind {g : Gr} {P : Int → Prop} (hr : ∀ l ∈ g.2.1, ∀ x ∈ l, 0 ≤ x → P x) (hp : ∀ x ∈ g.2.2.1, 0 ≤ x → P x) (hP : ∀ r, P r → ∀ x ∈ refsOf g r, 0 ≤ x → P x) : ∀ r ∈ order g, P r :=
  walk_ind hP _ _ fun r h => by
    rcases meets_sub h with h | ⟨h, h0⟩
    · rcases roots_sub h with h | ⟨l, hl, h, h0⟩
      · simp [met0] at h
      · exact hr l hl r h h0
    · exact hp r h h0

abbrev Opx := Int × Int × Int × Int × Int × Int × (Int × Int × Unit) × Unit
def shOk (s : Int × Int × Unit) : Bool := decide (0 ≤ s.1) && (decide (s.1 ≤ 4) && (decide (0 ≤ s.2.1) && decide (s.2.1 ≤ 4)))
def opOk (o : Opx) : Bool := decide (1 ≤ o.1) && (decide (o.1 ≤ 11) && (!(decide (o.1 = 1)) || shOk o.2.2.2.2.2.2.1))
/-- A place of a list. -/
def inB (i : Int) (n : Nat) : Prop := 0 ≤ i ∧ i < (n : Int)
instance (i : Int) (n : Nat) : Decidable (inB i n) := by unfold inB; infer_instance
/-- The code told ahead of an operation. -/
def beginC (o : Opx) (rs : List Int) (nil : Int) : Int :=
  if (o.1 = 8 ∧ rs.length = 0) ∨ (o.1 ≠ 1 ∧ o.1 ≠ 8 ∧ ¬ inB o.2.1 rs.length) ∨ ((o.1 = 3 ∨ o.1 = 6 ∨ o.1 = 7) ∧ ¬ inB o.2.2.1 rs.length) ∨ (o.1 = 7 ∧ ¬ inB o.2.2.2.1 rs.length) then 2
  else if o.1 ≠ 1 ∧ o.1 ≠ 6 ∧ o.1 ≠ 8 ∧ o.1 ≠ 9 ∧ rs.getD o.2.1.toNat 0 = nil then 3
  else if (o.1 = 1 ∨ o.1 = 2 ∨ o.1 = 9) ∧ rs.length = 8 then 5
  else 0
/-- The last place of a number. -/
def lastFrom : List Int → Int → Int → Int → Int
  | [], _, _, at' => at'
  | x :: l, a, i, at' => lastFrom l a (i + 1) (if x = a then i else at')
def lastP (l : List Int) (a : Int) : Int := lastFrom l a 0 (-1)

abbrev nd0 : Nd := ([], [], ())
/-- What an operation does when no code was told ahead. -/
def actG (g : Gr) (t : Int) (o : Opx) (rs : List Int) : Int × Int × Gr :=
  let ra := rs.getD o.2.1.toNat 0
  let rb := rs.getD o.2.2.1.toNat 0
  let rc := rs.getD o.2.2.2.1.toNat 0
  let n := g.1.getD ra.toNat nd0
  let f := o.2.2.2.2.1
  if o.1 = 1 then if g.1.length = 200 then (0, 6, g) else (0, 0, g.1 ++ [(List.replicate o.2.2.2.2.2.2.1.1.toNat (-1), List.replicate o.2.2.2.2.2.2.1.2.1.toNat 0, ())], g.2.1.set t.toNat (rs ++ [(g.1.length : Int)]), g.2.2.1, ())
  else if o.1 = 2 then if inB f n.1.length then (0, 0, g.1, g.2.1.set t.toNat (rs ++ [n.1.getD f.toNat 0]), g.2.2.1, ()) else (0, 4, g)
  else if o.1 = 3 then if inB f n.1.length then (0, 0, g.1.set ra.toNat (n.1.set f.toNat rb, n.2), g.2.1, g.2.2.1, ()) else (0, 4, g)
  else if o.1 = 4 then if inB f n.2.1.length then (0, 0, g.1.set ra.toNat (n.1, n.2.1.set f.toNat o.2.2.2.2.2.1, ()), g.2.1, g.2.2.1, ()) else (0, 4, g)
  else if o.1 = 5 then if inB f n.2.1.length then (n.2.1.getD f.toNat 0, 0, g) else (0, 4, g)
  else if o.1 = 6 then (if ra = rb then 1 else 0, 0, g)
  else if o.1 = 7 then if inB f n.1.length then (if n.1.getD f.toNat 0 = rb then (1, 0, g.1.set ra.toNat (n.1.set f.toNat rc, n.2), g.2.1, g.2.2.1, ()) else (0, 0, g)) else (0, 4, g)
  else if o.1 = 8 then (0, 0, g.1, g.2.1.set t.toNat (rs.take (rs.length - 1)), g.2.2.1, ())
  else if o.1 = 9 then (0, 0, g.1, g.2.1.set t.toNat (rs ++ [ra]), g.2.2.1, ())
  else if o.1 = 10 then if g.2.2.1.length = 8 then (0, 7, g) else (0, 0, g.1, g.2.1, g.2.2.1 ++ [ra], ())
  else if lastP g.2.2.1 ra < 0 then (0, 7, g) else (0, 0, g.1, g.2.1, g.2.2.1.take (lastP g.2.2.1 ra).toNat ++ g.2.2.1.drop ((lastP g.2.2.1 ra).toNat + 1), ())

/-- An operation on a graph: the answer, the code, the graph behind it. -/
def doG (g : Gr) (t : Int) (o : Opx) : Int × Int × Gr :=
  if okG g = true ∧ inB t g.2.1.length ∧ opOk o = true then
    (if beginC o (g.2.1.getD t.toNat []) (-1) = 0 then actG g t o (g.2.1.getD t.toNat []) else (0, beginC o (g.2.1.getD t.toNat []) (-1), g))
  else (0, 1, [], [], [], ())

theorem lastFrom_rng : ∀ (l : List Int) (a i at' : Int), -1 ≤ at' → at' < i → -1 ≤ lastFrom l a i at' ∧ lastFrom l a i at' < i + l.length
  | [], _, _, _, h, h' => by simp only [lastFrom, List.length_nil]; omega
  | x :: l, a, i, at', h, h' => by
    simp only [lastFrom]
    have := lastFrom_rng l a (i + 1) (if x = a then i else at') (by split <;> omega) (by split <;> omega)
    simp only [List.length_cons]
    omega

theorem opOk_kind {o : Opx} (h : opOk o = true) : 1 ≤ o.1 ∧ o.1 ≤ 11 := by
  simp only [opOk, Bool.and_eq_true, decide_eq_true_eq] at h
  exact ⟨h.1, h.2.1⟩

theorem kind_cases {k : Int} (h1 : 1 ≤ k) (h2 : k ≤ 11) : k = 1 ∨ k = 2 ∨ k = 3 ∨ k = 4 ∨ k = 5 ∨ k = 6 ∨ k = 7 ∨ k = 8 ∨ k = 9 ∨ k = 10 ∨ k = 11 := by omega
section
variable {N : Nat} (hN : lim < N)
include hN

theorem sl5Ints_ok {xs : List Int} (hl : xs.length ≤ lim) : Fsl5Ints N (xs, ()) = some (xs, ()) := by
  simp [Fsl5Ints, hl]

end
section
variable {N : Nat}

theorem sShapeOk_ok (s : Int × Int × Unit) : FsShapeOk N (s, ()) = some (shOk s, ()) := by
  simp only [FsShapeOk, shOk, ge_iff_le]
  by_cases h1 : 0 ≤ s.1 <;> by_cases h2 : s.1 ≤ 4 <;> by_cases h3 : 0 ≤ s.2.1 <;> simp [h1, h2, h3]

theorem sOpOk_ok (o : Opx) : FsOpOk N (o, ()) = some (opOk o, ()) := by
  simp only [FsOpOk, opOk, sShapeOk_ok, ge_iff_le]
  by_cases h1 : 1 ≤ o.1 <;> by_cases h2 : o.1 ≤ 11 <;> by_cases h3 : o.1 = 1 <;> simp [h1, h2, h3]

theorem sl5Fields_ok (k : Int) : Fsl5Fields N (k, ()) = some (decide (k = 2 ∨ k = 3 ∨ k = 4 ∨ k = 5 ∨ k = 7), ()) := by
  simp only [Fsl5Fields]
  by_cases h1 : k = 2
  · simp [h1]
  by_cases h2 : k = 3
  · simp [h2]
  by_cases h3 : k = 4
  · simp [h3]
  by_cases h4 : k = 5
  · simp [h4]
  by_cases h5 : k = 7 <;> simp [h1, h2, h3, h4, h5]

set_option maxHeartbeats 1000000 in
theorem sl5Begin_ok {o : Opx} {rs : List Int} {nil : Int} (h1 : 1 ≤ o.1) (h2 : o.1 ≤ 11) : Fsl5Begin N (o, rs, nil, ()) = some (beginC o rs nil, ()) := by
  obtain ⟨k, A, B, C, F, V, S, ⟨⟩⟩ := o
  simp only at h1 h2
  unfold Fsl5Begin
  dsimp only
  refine obind_eq (r := (rs, nil, (k, A, B, C, F, V, S, ()), (rs.length : Int), decide (inB A rs.length), ())) (by by_cases a0 : 0 ≤ A <;> simp [a0, inB]) ?_
  dsimp only
  refine obind_eq (r := (rs, nil, (k, A, B, C, F, V, S, ()), (rs.length : Int), decide (inB A rs.length), decide (inB B rs.length), ())) (by by_cases a0 : 0 ≤ B <;> simp [a0, inB]) ?_
  dsimp only
  refine obind_eq (r := (rs, nil, (k, A, B, C, F, V, S, ()), (rs.length : Int), decide (inB A rs.length), decide (inB B rs.length), decide (inB C rs.length), ())) (by by_cases a0 : 0 ≤ C <;> simp [a0, inB]) ?_
  dsimp only
  have l8 : ((rs.length : Int) = 8) ↔ rs.length = 8 := by omega
  have l0 : (0 < rs.length) ↔ ¬ rs.length = 0 := by omega
  have key : ∀ {i : Int}, inB i rs.length → 0 ≤ i ∧ i.toNat < rs.length := fun h => by unfold inB at h; omega
  have pe := Classical.propComplete (rs.length = 8)
  have pe0 := Classical.propComplete (rs.length = 0)
  rcases kind_cases h1 h2 with h | h | h | h | h | h | h | h | h | h | h <;> subst h
  · rcases pe with e | e <;> simp [beginC, sl5Fields_ok, l8, e]
  · by_cases a : inB A rs.length
    · obtain ⟨a1, a2⟩ := key a
      rcases pe with e | e <;> by_cases n : rs[A.toNat] = nil <;> simp [beginC, sl5Fields_ok, l8, e, a, a1, a2, n]
    · simp [beginC, a]
  · by_cases a : inB A rs.length
    · obtain ⟨a1, a2⟩ := key a
      by_cases b : inB B rs.length
      · by_cases n : rs[A.toNat] = nil <;> simp [beginC, sl5Fields_ok, a, b, a1, a2, n]
      · simp [beginC, a, b]
    · simp [beginC, a]
  · by_cases a : inB A rs.length
    · obtain ⟨a1, a2⟩ := key a
      by_cases n : rs[A.toNat] = nil <;> simp [beginC, sl5Fields_ok, a, a1, a2, n]
    · simp [beginC, a]
  · by_cases a : inB A rs.length
    · obtain ⟨a1, a2⟩ := key a
      by_cases n : rs[A.toNat] = nil <;> simp [beginC, sl5Fields_ok, a, a1, a2, n]
    · simp [beginC, a]
  · by_cases a : inB A rs.length
    · obtain ⟨a1, a2⟩ := key a
      by_cases b : inB B rs.length
      · by_cases n : rs[A.toNat] = nil <;> simp [beginC, sl5Fields_ok, a, b, a1, a2, n]
      · simp [beginC, a, b]
    · simp [beginC, a]
  · by_cases a : inB A rs.length
    · obtain ⟨a1, a2⟩ := key a
      by_cases b : inB B rs.length
      · by_cases c : inB C rs.length
        · by_cases n : rs[A.toNat] = nil <;> simp [beginC, sl5Fields_ok, a, b, c, a1, a2, n]
        · simp [beginC, a, b, c]
      · simp [beginC, a, b]
    · simp [beginC, a]
  · rcases pe0 with e0 | e0 <;> simp [beginC, sl5Fields_ok, e0, l0]
  · by_cases a : inB A rs.length
    · obtain ⟨a1, a2⟩ := key a
      rcases pe with e | e <;> by_cases n : rs[A.toNat] = nil <;> simp [beginC, sl5Fields_ok, l8, e, a, a1, a2, n]
    · simp [beginC, a]
  · by_cases a : inB A rs.length
    · obtain ⟨a1, a2⟩ := key a
      by_cases n : rs[A.toNat] = nil <;> simp [beginC, sl5Fields_ok, a, a1, a2, n]
    · simp [beginC, a]
  · by_cases a : inB A rs.length
    · obtain ⟨a1, a2⟩ := key a
      by_cases n : rs[A.toNat] = nil <;> simp [beginC, sl5Fields_ok, a, a1, a2, n]
    · simp [beginC, a]
end
section
variable {N : Nat}

theorem sl5Field_ok {o : Opx} {r m : Nat} : Fsl5Field N (o, (r : Int), (m : Int), ()) = some (decide (inB o.2.2.2.2.1 (if o.1 = 4 ∨ o.1 = 5 then m else r)), ()) := by
  obtain ⟨k, A, B, C, F, V, S, ⟨⟩⟩ := o
  simp only [Fsl5Field, inB]
  by_cases h1 : k = 4
  · by_cases h : 0 ≤ F <;> simp [h1, h]
  by_cases h2 : k = 5
  · by_cases h : 0 ≤ F <;> simp [h2, h]
  by_cases h : 0 ≤ F <;> simp [h1, h2, h]

theorem sl5One_ok (b : Bool) : Fsl5One N (b, ()) = some (if b = true then 1 else 0, ()) := by
  cases b <;> simp [Fsl5One]

variable (hN : lim < N)
include hN

theorem sl5Pins_loop {xs : List Int} {a : Int} (hl : xs.length ≤ lim) : lsl5Pins_0 N N (xs, a, -1, 0, ()) = some (xs, lastP xs a, ()) := by
  have key : ∀ n i at', i ≤ xs.length → xs.length - i < n → lsl5Pins_0 N n (xs, a, at', (i : Int), ()) = some (xs, lastFrom (xs.drop i) a i at', ()) := by
    intro n
    induction n with
    | zero => intro i at' _ h; exact absurd h (Nat.not_lt_zero _)
    | succ n ih =>
      intro i at' hi hn
      by_cases h : i < xs.length
      · have hw : w64 ((i : Int) + 1) = ((i + 1 : Nat) : Int) := w64_succ (by have : lim = 2147483648 := rfl; omega)
        rw [drop_at h]
        by_cases e : xs[i] = a
        · have := ih (i + 1) (i : Int) (by omega) (by omega)
          simp only [lsl5Pins_0, hw]
          simp [h, e, lastFrom]
          simpa using this
        · have := ih (i + 1) at' (by omega) (by omega)
          simp only [lsl5Pins_0, hw]
          simp [h, e, lastFrom]
          simpa using this
      · have : i = xs.length := by omega
        subst this
        simp [lsl5Pins_0, lastFrom]
  have := key N 0 (-1) (by omega) (by omega)
  simpa [lastP] using this

theorem sl5Pins_pin {xs : List Int} {a : Int} (hl : xs.length + 1 ≤ lim) : Fsl5Pins N (xs, 10, a, ()) = some (if xs.length = 8 then (false, [], ()) else (true, xs ++ [a], ())) := by
  have l8 : ((xs.length : Int) = 8) ↔ xs.length = 8 := by omega
  rcases Classical.propComplete (xs.length = 8) with e | e <;> simp [Fsl5Pins, l8, e, sl5Ints_ok hN (show xs.length ≤ lim by omega), hl]

theorem sl5Pins_unpin {xs : List Int} {a : Int} (hl : xs.length ≤ lim) : Fsl5Pins N (xs, 11, a, ()) = some (if lastP xs a < 0 then (false, [], ()) else (true, xs.take (lastP xs a).toNat ++ xs.drop ((lastP xs a).toNat + 1), ())) := by
  have hr := lastFrom_rng xs a 0 (-1) (by omega) (by omega)
  have e0 : lastFrom xs a 0 (-1) = lastP xs a := rfl
  rw [e0] at hr
  have hw : w64 (lastP xs a + 1) = lastP xs a + 1 := w64_id (by omega) (by have : lim = 2147483648 := rfl; omega)
  unfold Fsl5Pins
  simp only [show ((11 : Int) == 10) = false from rfl, cond_false, sl5Pins_loop hN hl, Option.bind_some]
  by_cases h : lastP xs a < 0
  · simp [h]
  · have h0 : 0 ≤ lastP xs a := by omega
    have h1 : lastP xs a ≤ (xs.length : Int) := by omega
    have h2 : 0 ≤ lastP xs a + 1 := by omega
    have h3 : lastP xs a + 1 ≤ (xs.length : Int) := by omega
    have h4 : (lastP xs a + 1).toNat = (lastP xs a).toNat + 1 := by omega
    have h5 : ((xs.drop 0).take (lastP xs a).toNat).length ≤ lim := by simp; omega
    have h6 : (xs.drop ((lastP xs a).toNat + 1)).take (xs.length - ((lastP xs a).toNat + 1)) = xs.drop ((lastP xs a).toNat + 1) := by
      apply List.take_of_length_le; simp
    have h7 : (xs.take (lastP xs a).toNat).length + (xs.drop ((lastP xs a).toNat + 1)).length ≤ lim := by simp; omega
    have h8 : (0 : Int).toNat = 0 := rfl
    simp only [h, decide_false, cond_false, h0, h1, h2, h3, decide_true, cond_true, Int.le_refl, Int.natCast_nonneg, hw, h4, h8, Nat.sub_zero, Int.toNat_natCast, h6, if_false, List.drop_zero]
    rw [sl5Ints_ok hN (by simpa using h5)]
    simp only [Option.bind_some, h7, decide_true, cond_true]
end
section
variable {N : Nat} (hN : lim < N)
include hN

theorem sl5Copy_ok {g : Gr} (hs : smG g) : Fsl5Copy N (g, ()) = some g := by
  obtain ⟨a1, a2, a3, a4, a5⟩ := hs
  have l1 := sm_lim a1
  have l3 := sm_lim a3
  have e1 := fun Q => (fold_loop (xs := g.1) (n := N) (fun s x => s ++ [x]) (fun i s => s.length = i)
    (L := fun n i s => lsl5Copy_0 N n (g, (i : Int), s, ([] : List (List Int)), Q, ())) (fin := fun s => (g, s, ([] : List (List Int)), Q, ())) l1
    (fun n i s h hw hI => by
      subst hI
      have hlim : s.length + 1 ≤ lim := by omega
      have hx := a2 _ (List.getElem_mem h)
      simp [lsl5Copy_0, h, hw, sl5Ints_ok hN (sm_lim hx.1), sl5Ints_ok hN (sm_lim hx.2), hlim])
    (fun n s hI => by simp [lsl5Copy_0]) (by omega) (s := []) rfl).1
  have e2 := fun S Q => (fold_loop (xs := g.2.1) (n := N) (fun s x => s ++ [x]) (fun i s => s.length = i)
    (L := fun n i s => lsl5Copy_2 N n (g, (i : Int), S, s, Q, ())) (fin := fun s => (S, s, Q, ())) l3
    (fun n i s h hw hI => by
      subst hI
      have hlim : s.length + 1 ≤ lim := by omega
      have hx := a4 _ (List.getElem_mem h)
      simp [lsl5Copy_2, h, hw, sl5Ints_ok hN (sm_lim hx), hlim])
    (fun n s hI => by simp [lsl5Copy_2]) (by omega) (s := []) rfl).1
  have f1 := foldl_push (fun x : Nd => x) g.1 []
  have f2 := foldl_push (fun x : List Int => x) g.2.1 []
  simp only [Int.natCast_zero, f1, f2, List.nil_append, List.map_id'] at e1 e2
  simp [Fsl5Copy, sl5Ints_ok hN (sm_lim a5), e1, e2]
end
section
variable {N : Nat} (hN : lim < N)
include hN

theorem sl5Refs_ok {xs : List Int} {m : Nat} (hx : sm xs.length) : Fsl5Refs N (xs, (m : Int), ()) = some (okR m xs, ()) := by
  have hl := sm_lim hx
  have hL := all_loop (xs := xs) (n := N) (fun x => decide (-1 ≤ x) && decide (x < (m : Int))) (L := fun n i => lsl5Refs_0 N n (xs, (m : Int), (i : Int), ())) (yes := .inl ()) (no := .inr (false, ())) hl
    (fun n i h hw hq => by
      simp at hq
      simp [lsl5Refs_0, h, hw, Int.not_lt.2 hq.1, Int.not_le.2 hq.2])
    (fun n i h hq => by
      simp at hq
      by_cases h1 : xs[i] < -1
      · simp [lsl5Refs_0, h, h1]
      · simp [lsl5Refs_0, h, h1, hq (by omega)])
    (fun n => by simp [lsl5Refs_0]) (by omega)
  simp only [Int.natCast_zero] at hL
  simp only [Fsl5Refs, hL, okR]
  cases xs.all (fun x => decide (-1 ≤ x) && decide (x < (m : Int))) <;> simp

theorem sGraphOk_ok {g : Gr} (hx : smG g) : FsGraphOk N (g, ()) = some (okG g, ()) := by
  obtain ⟨a1, a2, a3, a4, a5⟩ := hx
  have h1 := all_loop (xs := g.1) (n := N) (okN g.1.length) (L := fun n i => lsGraphOk_0 N n (g, (i : Int), ())) (yes := .inl (g, ())) (no := .inr (false, ())) (sm_lim a1)
    (fun n i h hw hq => by
      simp [okN] at hq
      simp [lsGraphOk_0, h, hw, sl5Refs_ok hN (a2 _ (List.getElem_mem h)).1, hq, Nat.not_lt.2 hq.1, Nat.not_lt.2 hq.2.1])
    (fun n i h hq => by
      simp [lsGraphOk_0, h, sl5Refs_ok hN (a2 _ (List.getElem_mem h)).1]
      simp [okN] at hq
      by_cases h1 : g.1[i].1.length ≤ 4 <;> by_cases h2 : g.1[i].2.1.length ≤ 4 <;> simp_all)
    (fun n => by simp [lsGraphOk_0]) (by have := sm_lim a1; omega)
  have h2 := all_loop (xs := g.2.1) (n := N) (fun r => decide (r.length ≤ 8) && okR g.1.length r) (L := fun n i => lsGraphOk_2 N n (g, (i : Int), ())) (yes := .inl (g, ())) (no := .inr (false, ())) (sm_lim a3)
    (fun n i h hw hq => by
      simp at hq
      simp [lsGraphOk_2, h, hw, sl5Refs_ok hN (a4 _ (List.getElem_mem h)), hq, Nat.not_lt.2 hq.1])
    (fun n i h hq => by
      simp [lsGraphOk_2, h, sl5Refs_ok hN (a4 _ (List.getElem_mem h))]
      simp at hq
      by_cases h1 : g.2.1[i].length ≤ 8 <;> simp_all)
    (fun n => by simp [lsGraphOk_2]) (by have := sm_lim a3; omega)
  have h3 := all_loop (xs := g.2.2.1) (n := N) (fun x => decide (0 ≤ x)) (L := fun n i => lsGraphOk_4 N n (g, (i : Int), ())) (yes := .inl (g, ())) (no := .inr (false, ())) (sm_lim a5)
    (fun n i h hw hq => by
      simp at hq
      simp [lsGraphOk_4, h, hw, Int.not_lt.2 hq])
    (fun n i h hq => by
      simp at hq
      simp [lsGraphOk_4, h, hq])
    (fun n => by simp [lsGraphOk_4]) (by have := sm_lim a5; omega)
  simp only [Int.natCast_zero] at h1 h2 h3
  simp only [FsGraphOk, okG]
  by_cases b1 : g.1.length ≤ 200
  · by_cases b2 : 1 ≤ g.2.1.length
    · by_cases b3 : g.2.1.length ≤ 3
      · have c1 : ¬ ((g.1.length : Int) > 200) := by omega
        have c2 : ¬ ((g.2.1.length : Int) < 1) := by omega
        have c3 : ¬ ((g.2.1.length : Int) > 3) := by omega
        simp only [c1, c2, c3, b1, b2, b3, decide_true, decide_false, cond_false, Option.bind_some, Sum.elim_inl, h1, Bool.true_and]
        cases g.1.all (okN g.1.length)
        · simp
        · simp only [cond_true, Option.bind_some, Sum.elim_inl, h2, Bool.true_and]
          cases g.2.1.all (fun r => decide (r.length ≤ 8) && okR g.1.length r)
          · simp
          · simp only [cond_true, Option.bind_some, Sum.elim_inl, h3, Bool.true_and, sl5Refs_ok hN a5]
            by_cases b4 : g.2.2.1.length ≤ 8
            · have c4 : ((g.2.2.1.length : Int) ≤ 8) := by omega
              cases g.2.2.1.all (fun x => decide (0 ≤ x)) <;> simp [b4, c4, sl5Refs_ok hN a5]
            · have c4 : ¬ ((g.2.2.1.length : Int) ≤ 8) := by omega
              cases g.2.2.1.all (fun x => decide (0 ≤ x)) <;> simp [b4, c4, sl5Refs_ok hN a5]
      · have c1 : ¬ ((g.1.length : Int) > 200) := by omega
        have c2 : ¬ ((g.2.1.length : Int) < 1) := by omega
        have c3 : ((g.2.1.length : Int) > 3) := by omega
        simp [c1, c2, c3, b3]
    · have c1 : ¬ ((g.1.length : Int) > 200) := by omega
      have c2 : ((g.2.1.length : Int) < 1) := by omega
      simp [c1, c2, b2]
  · have c1 : ((g.1.length : Int) > 200) := by omega
    simp [c1, b1]

end
section
variable {N : Nat} (hN : lim < N)
include hN

theorem okG_small {g : Gr} (h : okG g = true) : smG g := by
  obtain ⟨h1, h2, h3, h4, h5, h6, h7, h8⟩ := okG_iff.1 h
  simp only [smG, smN, sm]
  refine ⟨by omega, fun x hx => ?_, by omega, fun x hx => ?_, by omega⟩
  · have := h4 x hx; omega
  · have := h5 x hx; omega

/-- One list of references, by the places. -/
theorem meets_loop {m : Nat} {xs : List Int} (hx : ∀ x ∈ xs, x < (m : Int)) (hm : m ≤ 200) (hl : xs.length ≤ lim) {ρ : Type} {L : Nat → Nat → Mst → Option ρ} {fin : Mst → ρ}
    (h1 : ∀ n i st (h : i < xs.length), w64 ((i : Int) + 1) = ((i + 1 : Nat) : Int) → Met m st → (0 ≤ xs[i] → xs[i].toNat < st.2.length) → st.1.length + 1 ≤ lim → L (n + 1) i st = L n (i + 1) (meet st xs[i]))
    (h3 : ∀ n st, Met m st → L (n + 1) xs.length st = some (fin st)) {st : Mst} (hst : Met m st) : L N 0 st = some (fin (xs.foldl meet st)) :=
  (fold_loop (xs := xs) (n := N) meet (fun _ st => Met m st) (L := L) (fin := fin) hl
    (fun n i st h hw hI => by
      have hr := hx _ (List.getElem_mem h)
      refine ⟨h1 n i st h hw hI (fun h0 => by have := hI.len; omega) ?_, hI.meet hr⟩
      have := hI.le; rw [lim_eq]; omega)
    (fun n st hI => h3 n st hI) (by omega) hst).1

theorem roots_loop {m : Nat} {ls : List (List Int)} (hx : ∀ l ∈ ls, ∀ x ∈ l, x < (m : Int)) (hl : ls.length ≤ lim) {ρ : Type} {L : Nat → Nat → Mst → Option ρ} {fin : Mst → ρ}
    (h1 : ∀ n i st (h : i < ls.length), w64 ((i : Int) + 1) = ((i + 1 : Nat) : Int) → Met m st → L (n + 1) i st = L n (i + 1) (ls[i].foldl meet st))
    (h3 : ∀ n st, Met m st → L (n + 1) ls.length st = some (fin st)) {st : Mst} (hst : Met m st) : L N 0 st = some (fin (ls.foldl (fun s l => l.foldl meet s) st)) :=
  (fold_loop (xs := ls) (n := N) (fun s l => l.foldl meet s) (fun _ st => Met m st) (L := L) (fin := fin) hl
    (fun n i st h hw hI => ⟨h1 n i st h hw hI, hI.meets (hx _ (List.getElem_mem h))⟩)
    (fun n st hI => h3 n st hI) (by omega) hst).1

theorem walk_loop {m : Nat} {R : Int → List Int} (hR : ∀ r, 0 ≤ r → r < (m : Int) → ∀ x ∈ R r, x < (m : Int)) (hm : m ≤ 200) {ρ : Type} {L : Nat → Nat → Mst → Option ρ} {fin : Mst → ρ}
    (h1 : ∀ n (i : Nat) st (h : i < st.1.length), w64 ((i : Int) + 1) = ((i + 1 : Nat) : Int) → Met m st → L (n + 1) i st = L n (i + 1) ((R st.1[i]).foldl meet st))
    (h3 : ∀ n i st, ¬ i < st.1.length → Met m st → L (n + 1) i st = some (fin st)) {st : Mst} (hst : Met m st) : L N 0 st = some (fin (walk R (m + 1) 0 st)) := by
  have key : ∀ n i st, Met m st → i ≤ st.1.length → m - i < n → L n i st = some (fin (walk R (m + 1 - i) i st)) := by
    intro n
    induction n with
    | zero => intro i st _ _ h; exact absurd h (Nat.not_lt_zero _)
    | succ n ih =>
      intro i st hI hi hn
      have hle := hI.le
      by_cases h : i < st.1.length
      · have e : m + 1 - i = (m + 1 - (i + 1)) + 1 := by omega
        rw [h1 n i st h (w64_succ (by omega)) hI, e]
        have hb := hI.meets (hR _ (hI.rng _ (List.getElem_mem h)).1 (hI.rng _ (List.getElem_mem h)).2)
        have hp := (meets_pre (l := R st.1[i]) (st := st)).length_le
        rw [ih (i + 1) _ hb (by omega) (by omega)]
        simp only [walk, h, if_true, getD_lt h]
      · rw [h3 n i st h hI]
        cases hk : m + 1 - i with
        | zero => rfl
        | succ k => simp only [walk, h, if_false]
  have := key N 0 st hst (by omega) (by rw [lim_eq] at hN; omega)
  simpa using this

end
theorem cguard {α : Type} {p : Prop} [Decidable p] {a z : Option α} (hp : p) (h : a = z) : (_root_.cond (decide p) a none) = z := by
  simpa [hp] using h

theorem begin_zero {o : Opx} {rs : List Int} {nil : Int} (h : beginC o rs nil = 0) : (o.1 = 8 → rs.length ≠ 0) ∧ (o.1 ≠ 1 → o.1 ≠ 8 → inB o.2.1 rs.length) ∧ (o.1 = 3 ∨ o.1 = 6 ∨ o.1 = 7 → inB o.2.2.1 rs.length) ∧ (o.1 = 7 → inB o.2.2.2.1 rs.length) ∧
    (o.1 ≠ 1 → o.1 ≠ 6 → o.1 ≠ 8 → o.1 ≠ 9 → rs.getD o.2.1.toNat 0 ≠ nil) ∧ (o.1 = 1 ∨ o.1 = 2 ∨ o.1 = 9 → rs.length ≠ 8) := by
  unfold beginC at h
  split at h
  · cases h
  · rename_i h1
    split at h
    · cases h
    · rename_i h2
      split at h
      · cases h
      · rename_i h3
        simp only [not_or, not_and, Decidable.not_not] at h1
        refine ⟨fun e => h1.1 e, fun e1 e2 => h1.2.1 e1 e2, fun e => h1.2.2.1 e, fun e => h1.2.2.2 e, fun e1 e2 e3 e4 e5 => h2 ⟨e1, e2, e3, e4, e5⟩, fun e1 e2 => h3 ⟨e1, e2⟩⟩

theorem inB_nat {i : Int} {n : Nat} (h : inB i n) : 0 ≤ i ∧ i.toNat < n := by unfold inB at h; omega
theorem inB_all {i : Int} {n : Nat} (h : inB i n) : 0 ≤ i ∧ i.toNat < n ∧ i < (n : Int) := by unfold inB at h; omega

section
variable {N : Nat} (hN : lim < N)
include hN

theorem sGraphDo_new {v : Int × Opx × Int × Int × Int × List Nd × List (List Int) × List Int × List Int × List Int × Unit} (hR : v.2.1.2.2.2.2.2.2.1.1 ≤ 4) (hR0 : 0 ≤ v.2.1.2.2.2.2.2.2.1.1) (hi : v.2.2.2.2.1 = 0) (hl : v.2.2.2.2.2.2.2.2.1 = []) (ht : 0 ≤ v.2.2.1) :
    lsGraphDo_1 N N v = some (v.1, v.2.2.1, v.2.2.2.1, v.2.2.2.2.2.1, v.2.2.2.2.2.2.1, v.2.2.2.2.2.2.2.1, List.replicate v.2.1.2.2.2.2.2.2.1.1.toNat (-1), v.2.2.2.2.2.2.2.2.2.1, ()) := by
  obtain ⟨t, o, u1, c, i, ns, rs, ps, l, m, ⟨⟩⟩ := v
  simp only at hR hR0 hi hl ht
  subst hi hl
  have hu : ((u1.toNat : Nat) : Int) = u1 := by omega
  have key : ∀ (n i : Nat), (i : Int) ≤ o.2.2.2.2.2.2.1.1 → o.2.2.2.2.2.2.1.1.toNat - i < n →
      lsGraphDo_1 N n (t, o, u1, c, (i : Int), ns, rs, ps, List.replicate i (-1), m, ()) = some (t, u1, c, ns, rs, ps, List.replicate o.2.2.2.2.2.2.1.1.toNat (-1), m, ()) := by
    intro n
    induction n with
    | zero => intro i _ h; exact absurd h (Nat.not_lt_zero _)
    | succ n ih =>
      intro i hi hn
      by_cases h : (i : Int) < o.2.2.2.2.2.2.1.1
      · have hw : w64 ((i : Int) + 1) = ((i + 1 : Nat) : Int) := w64_succ (by omega)
        have hlim : i + 1 ≤ lim := by rw [lim_eq]; omega
        have := ih (i + 1) (by omega) (by omega)
        simp only [lsGraphDo_1, hw]
        simp only [h, decide_true, cond_true, List.length_replicate, List.length_singleton, hlim, ← List.replicate_succ', Int.ofNat_eq_natCast, hu]
        exact this
      · have e : o.2.2.2.2.2.2.1.1.toNat = i := by omega
        simp [lsGraphDo_1, h, e, hu]
  have := key N 0 (by omega) (by rw [lim_eq] at hN; omega)
  simpa using this

theorem sGraphDo_act {g : Gr} {t : Int} {o : Opx} (hg : okG g = true) (ht : inB t g.2.1.length) (ho : opOk o = true) (hz : beginC o (g.2.1.getD t.toNat []) (-1) = 0) :
    FsGraphDo N (g, t, o, ()) = some (actG g t o (g.2.1.getD t.toNat [])) := by
  have hs := okG_small hN hg
  obtain ⟨k1, k11⟩ := opOk_kind ho
  obtain ⟨t0, t1⟩ := inB_nat ht
  have t1' : ¬ t < 0 := by omega
  have t2' : ¬ t ≥ (g.2.1.length : Int) := by unfold inB at ht; omega
  obtain ⟨z1, z2, z3, z4, z5, z6⟩ := begin_zero hz
  have hok := okG_iff.1 hg
  have hrs : okR g.1.length (g.2.1.getD t.toNat []) = true ∧ (g.2.1.getD t.toNat []).length ≤ 8 := by
    rw [getD_lt t1]
    have := hok.2.2.2.2.1 _ (List.getElem_mem t1)
    exact ⟨this.2, this.1⟩
  unfold FsGraphDo
  dsimp only
  refine obind_eq (r := .inl (t, g, o, ())) (by simp [sGraphOk_ok hN hs, hg, sOpOk_ok, ho, t1', t2']) ?_
  dsimp only [Sum.elim_inl]
  refine obind_eq (sl5Copy_ok hN hs) (cguard t0 (cguard t1 (obind_eq (sl5Begin_ok k1 k11) ?_)))
  dsimp only
  rw [hz]
  generalize hrse : g.2.1.getD t.toNat [] = rs at *
  have hra : ∀ {i : Int}, inB i rs.length → rs.getD i.toNat 0 ≠ -1 → 0 ≤ rs.getD i.toNat 0 ∧ (rs.getD i.toNat 0).toNat < g.1.length ∧ rs.getD i.toNat 0 < (g.1.length : Int) := by
    intro i hi hne
    obtain ⟨a, b⟩ := inB_nat hi
    rw [getD_lt b] at hne ⊢
    have := okR_iff.1 hrs.1 _ (List.getElem_mem b)
    omega
  obtain ⟨k, A, B, C, F, V, ⟨R, M, ⟨⟩⟩, ⟨⟩⟩ := o
  simp only at k1 k11 z1 z2 z3 z4 z5 z6
  have hmx : max t 0 = t := by omega
  rcases kind_cases k1 k11 with h | h | h | h | h | h | h | h | h | h | h <;> subst h
  · -- new
    simp only [opOk, shOk, Bool.and_eq_true, decide_eq_true_eq, Bool.or_eq_true, Bool.not_eq_true', decide_eq_false_iff_not] at ho
    have hsh := (ho.2.2.resolve_left (by simp))
    obtain ⟨r0, r4, m0, m4⟩ := hsh
    have m4' : M.toNat ≤ lim := by rw [lim_eq]; omega
    have l200 : ((g.1.length : Int) = 200) ↔ g.1.length = 200 := by omega
    rcases Classical.propComplete (g.1.length = 200) with e | e
    · simp [-List.getD_eq_getElem?_getD, l200, e, actG, sl5Fields_ok]
    · have hl1 : g.1.length + 1 ≤ lim := by rw [lim_eq]; omega
      have hl2 : rs.length + 1 ≤ lim := by rw [lim_eq]; omega
      have hw : w64 ((g.1.length : Int) + 1 - 1) = g.1.length := by rw [w64_id (by omega) (by omega)]; omega
      have hw2 : w64 (g.1.length : Int) = g.1.length := w64_id (by omega) (by omega)
      have m5 : M ≤ (lim : Int) := by have : (lim : Int) = 2147483648 := rfl; omega
      simp [-List.getD_eq_getElem?_getD, l200, e, actG, m0, m4', m5, hmx, hw2, sGraphDo_new hN, r0, r4, t0, t1, hl1, hl2, hw, hrse, sl5Fields_ok]
  · -- load
    obtain ⟨a1, a2, a3⟩ := inB_all (z2 (by omega) (by omega))
    obtain ⟨n1, n2, n3⟩ := hra (z2 (by omega) (by omega)) (z5 (by omega) (by omega) (by omega) (by omega))
    have hl2 : rs.length + 1 ≤ lim := by rw [lim_eq]; omega
    by_cases f : inB F (g.1.getD (rs.getD A.toNat 0).toNat nd0).1.length
    · obtain ⟨f1, f2, f3⟩ := inB_all f
      simp [-List.getD_eq_getElem?_getD, actG, sl5Fields_ok, a1, a2, a3, n1, n2, n3, hmx, sl5Field_ok, f, f1, f2, f3, t0, t1, hl2, hrse]
    · simp [-List.getD_eq_getElem?_getD, actG, sl5Fields_ok, a1, a2, a3, n1, n2, n3, hmx, sl5Field_ok, f]
  · -- store
    obtain ⟨a1, a2, a3⟩ := inB_all (z2 (by omega) (by omega))
    obtain ⟨b1, b2, b3⟩ := inB_all (z3 (by omega))
    obtain ⟨n1, n2, n3⟩ := hra (z2 (by omega) (by omega)) (z5 (by omega) (by omega) (by omega) (by omega))
    by_cases f : inB F (g.1.getD (rs.getD A.toNat 0).toNat nd0).1.length
    · obtain ⟨f1, f2, f3⟩ := inB_all f
      simp [-List.getD_eq_getElem?_getD, actG, sl5Fields_ok, a1, a2, a3, b1, b2, b3, n1, n2, n3, hmx, sl5Field_ok, f, f1, f2, f3, hrse]
    · simp [-List.getD_eq_getElem?_getD, actG, sl5Fields_ok, a1, a2, a3, n1, n2, n3, hmx, sl5Field_ok, f]
  · -- put
    obtain ⟨a1, a2, a3⟩ := inB_all (z2 (by omega) (by omega))
    obtain ⟨n1, n2, n3⟩ := hra (z2 (by omega) (by omega)) (z5 (by omega) (by omega) (by omega) (by omega))
    by_cases f : inB F (g.1.getD (rs.getD A.toNat 0).toNat nd0).2.1.length
    · obtain ⟨f1, f2, f3⟩ := inB_all f
      simp [-List.getD_eq_getElem?_getD, actG, sl5Fields_ok, a1, a2, a3, n1, n2, n3, hmx, sl5Field_ok, f, f1, f2, f3, hrse]
    · simp [-List.getD_eq_getElem?_getD, actG, sl5Fields_ok, a1, a2, a3, n1, n2, n3, hmx, sl5Field_ok, f]
  · -- get
    obtain ⟨a1, a2, a3⟩ := inB_all (z2 (by omega) (by omega))
    obtain ⟨n1, n2, n3⟩ := hra (z2 (by omega) (by omega)) (z5 (by omega) (by omega) (by omega) (by omega))
    by_cases f : inB F (g.1.getD (rs.getD A.toNat 0).toNat nd0).2.1.length
    · obtain ⟨f1, f2, f3⟩ := inB_all f
      simp [-List.getD_eq_getElem?_getD, actG, sl5Fields_ok, a1, a2, a3, n1, n2, n3, hmx, sl5Field_ok, f, f1, f2, f3, hrse]
    · simp [-List.getD_eq_getElem?_getD, actG, sl5Fields_ok, a1, a2, a3, n1, n2, n3, hmx, sl5Field_ok, f]
  · -- same
    obtain ⟨a1, a2, a3⟩ := inB_all (z2 (by omega) (by omega))
    obtain ⟨b1, b2, b3⟩ := inB_all (z3 (by omega))
    simp [-List.getD_eq_getElem?_getD, actG, sl5Fields_ok, a1, a2, a3, b1, b2, b3, hrse, hmx, sl5One_ok]
  · -- cas
    obtain ⟨a1, a2, a3⟩ := inB_all (z2 (by omega) (by omega))
    obtain ⟨b1, b2, b3⟩ := inB_all (z3 (by omega))
    obtain ⟨c1, c2, c3⟩ := inB_all (z4 (by omega))
    obtain ⟨n1, n2, n3⟩ := hra (z2 (by omega) (by omega)) (z5 (by omega) (by omega) (by omega) (by omega))
    by_cases f : inB F (g.1.getD (rs.getD A.toNat 0).toNat nd0).1.length
    · obtain ⟨f1, f2, f3⟩ := inB_all f
      by_cases e : (g.1.getD (rs.getD A.toNat 0).toNat nd0).1.getD F.toNat 0 = rs.getD B.toNat 0
      · simp [-List.getD_eq_getElem?_getD, actG, sl5Fields_ok, a1, a2, a3, b1, b2, b3, c1, c2, c3, n1, n2, n3, hmx, sl5Field_ok, f, f1, f2, f3, hrse, e]
      · simp [-List.getD_eq_getElem?_getD, actG, sl5Fields_ok, a1, a2, a3, b1, b2, b3, c1, c2, c3, n1, n2, n3, hmx, sl5Field_ok, f, f1, f2, f3, hrse, e]
    · simp [-List.getD_eq_getElem?_getD, actG, sl5Fields_ok, a1, a2, a3, n1, n2, n3, hmx, sl5Field_ok, f]
  · -- drop
    have hl := z1 rfl
    have hw : w64 ((rs.length : Int) - 1) = ((rs.length - 1 : Nat) : Int) := by rw [w64_id (by omega) (by omega)]; omega
    have h1 : ((rs.length - 1 : Nat) : Int) ≤ (rs.length : Int) := by omega
    simp [-List.getD_eq_getElem?_getD, actG, sl5Fields_ok, t0, t1, hw, hrse, hmx, h1]
  · -- dup
    obtain ⟨a1, a2, a3⟩ := inB_all (z2 (by omega) (by omega))
    have hl2 : rs.length + 1 ≤ lim := by rw [lim_eq]; omega
    simp [-List.getD_eq_getElem?_getD, actG, sl5Fields_ok, a1, a2, a3, t0, t1, hrse, hmx, hl2]
  · -- pin
    obtain ⟨a1, a2, a3⟩ := inB_all (z2 (by omega) (by omega))
    have hl2 : g.2.2.1.length + 1 ≤ lim := by rw [lim_eq]; omega
    by_cases e : g.2.2.1.length = 8
    · simp [-List.getD_eq_getElem?_getD, actG, sl5Fields_ok, a1, a2, a3, hrse, hmx, sl5Pins_pin hN hl2, e]
    · simp [-List.getD_eq_getElem?_getD, actG, sl5Fields_ok, a1, a2, a3, hrse, hmx, sl5Pins_pin hN hl2, e]
  · -- unpin
    obtain ⟨a1, a2, a3⟩ := inB_all (z2 (by omega) (by omega))
    have hl2 : g.2.2.1.length ≤ lim := by rw [lim_eq]; omega
    by_cases e : lastP g.2.2.1 (rs.getD A.toNat 0) < 0
    · simp [-List.getD_eq_getElem?_getD, actG, sl5Fields_ok, a1, a2, a3, hrse, hmx, sl5Pins_unpin hN hl2, e]
    · simp [-List.getD_eq_getElem?_getD, actG, sl5Fields_ok, a1, a2, a3, hrse, hmx, sl5Pins_unpin hN hl2, e]

theorem sGraphDo_ok {g : Gr} {t : Int} {o : Opx} (hs : smG g) : FsGraphDo N (g, t, o, ()) = some (doG g t o) := by
  by_cases hc : okG g = true ∧ inB t g.2.1.length ∧ opOk o = true
  · obtain ⟨hg, ht, ho⟩ := hc
    by_cases hz : beginC o (g.2.1.getD t.toNat []) (-1) = 0
    · rw [sGraphDo_act hN hg ht ho hz]
      simp only [doG, hg, ht, ho, hz, and_self, if_true]
    · obtain ⟨k1, k11⟩ := opOk_kind ho
      obtain ⟨t0, t1⟩ := inB_nat ht
      have t1' : ¬ t < 0 := by omega
      have t2' : ¬ t ≥ (g.2.1.length : Int) := by unfold inB at ht; omega
      unfold FsGraphDo
      dsimp only
      refine obind_eq (r := .inl (t, g, o, ())) (by simp [sGraphOk_ok hN hs, hg, sOpOk_ok, ho, t1', t2']) ?_
      dsimp only [Sum.elim_inl]
      refine obind_eq (sl5Copy_ok hN hs) (cguard t0 (cguard t1 (obind_eq (sl5Begin_ok k1 k11) ?_)))
      simp only [doG, hg, ht, ho, hz, and_self, if_true, if_false]
      generalize beginC o (g.2.1.getD t.toNat []) (-1) = c at hz ⊢
      simp [hz]
  · simp only [doG, hc, if_false]
    unfold FsGraphDo
    dsimp only
    cases hg : okG g with
    | false => simp [sGraphOk_ok hN hs, hg]
    | true =>
      by_cases h1 : t < 0
      · simp [sGraphOk_ok hN hs, hg, h1]
      · by_cases h2 : t ≥ (g.2.1.length : Int)
        · have h2' : (g.2.1.length : Int) ≤ t := h2
          simp [sGraphOk_ok hN hs, hg, h1, h2']
        · have ht : inB t g.2.1.length := by unfold inB; omega
          have ho : opOk o = false := by
            cases h : opOk o with
            | false => rfl
            | true => exact absurd ⟨hg, ht, h⟩ hc
          have h2' : ¬ (g.2.1.length : Int) ≤ t := h2
          simp [sGraphOk_ok hN hs, hg, h1, h2', sOpOk_ok, ho]
end
theorem okR_mono {m m' : Nat} {l : List Int} (h : okR m l = true) (hm : m ≤ m') : okR m' l = true := by
  rw [okR_iff] at h ⊢
  intro x hx
  have := h x hx
  omega

theorem okR_push {m : Nat} {l : List Int} {x : Int} (h : okR m l = true) (h1 : -1 ≤ x) (h2 : x < (m : Int)) : okR m (l ++ [x]) = true := by
  rw [okR_iff] at h ⊢
  intro y hy
  simp only [List.mem_append, List.mem_singleton] at hy
  rcases hy with hy | rfl
  · exact h y hy
  · exact ⟨h1, h2⟩

theorem okR_set {m : Nat} {l : List Int} {x : Int} {i : Nat} (h : okR m l = true) (h1 : -1 ≤ x) (h2 : x < (m : Int)) : okR m (l.set i x) = true := by
  rw [okR_iff] at h ⊢
  intro y hy
  rcases List.mem_or_eq_of_mem_set hy with hy | rfl
  · exact h y hy
  · exact ⟨h1, h2⟩

theorem okR_sub {m : Nat} {l l' : List Int} (h : okR m l = true) (hs : ∀ x ∈ l', x ∈ l) : okR m l' = true := by
  rw [okR_iff] at h ⊢
  exact fun y hy => h y (hs y hy)

theorem okR_get {m : Nat} {l : List Int} {i : Nat} (h : okR m l = true) (hi : i < l.length) : -1 ≤ l.getD i 0 ∧ l.getD i 0 < (m : Int) := by
  rw [getD_lt hi]
  exact okR_iff.1 h _ (List.getElem_mem hi)

theorem inBn {i : Int} {n : Nat} (h : inB i n) : 0 ≤ i ∧ i.toNat < n := by unfold inB at h; omega

theorem beginZ {o : Opx} {rs : List Int} {nil : Int} (h : beginC o rs nil = 0) : (o.1 = 8 → rs.length ≠ 0) ∧ (o.1 ≠ 1 → o.1 ≠ 8 → inB o.2.1 rs.length) ∧ (o.1 = 3 ∨ o.1 = 6 ∨ o.1 = 7 → inB o.2.2.1 rs.length) ∧ (o.1 = 7 → inB o.2.2.2.1 rs.length) ∧
    (o.1 ≠ 1 → o.1 ≠ 6 → o.1 ≠ 8 → o.1 ≠ 9 → rs.getD o.2.1.toNat 0 ≠ nil) ∧ (o.1 = 1 ∨ o.1 = 2 ∨ o.1 = 9 → rs.length ≠ 8) := by
  unfold beginC at h
  split at h
  · cases h
  · rename_i h1
    split at h
    · cases h
    · rename_i h2
      split at h
      · cases h
      · rename_i h3
        simp only [not_or, not_and, Decidable.not_not] at h1
        refine ⟨fun e => h1.1 e, fun e1 e2 => h1.2.1 e1 e2, fun e => h1.2.2.1 e, fun e => h1.2.2.2 e, fun e1 e2 e3 e4 e5 => h2 ⟨e1, e2, e3, e4, e5⟩, fun e1 e2 => h3 ⟨e1, e2⟩⟩

/-- A graph with other roots of a thread. -/
theorem okG_roots {g : Gr} {t : Int} {l : List Int} (h : okG g = true) (hl : l.length ≤ 8) (hr : okR g.1.length l = true) : okG (g.1, g.2.1.set t.toNat l, g.2.2.1, ()) = true := by
  obtain ⟨h1, h2, h3, h4, h5, h6, h7, h8⟩ := okG_iff.1 h
  refine okG_iff.2 ⟨h1, by simpa using h2, by simpa using h3, h4, fun r hm => ?_, h6, h7, h8⟩
  rcases List.mem_or_eq_of_mem_set hm with hm | rfl
  · exact h5 r hm
  · exact ⟨hl, hr⟩

/-- A graph with another node. -/
theorem okG_node {g : Gr} {i : Nat} {n : Nd} (h : okG g = true) (hn : n.1.length ≤ 4 ∧ n.2.1.length ≤ 4 ∧ okR g.1.length n.1 = true) : okG (g.1.set i n, g.2.1, g.2.2.1, ()) = true := by
  obtain ⟨h1, h2, h3, h4, h5, h6, h7, h8⟩ := okG_iff.1 h
  refine okG_iff.2 ⟨by simpa using h1, h2, h3, fun x hm => ?_, by simpa using h5, h6, h7, by simpa using h8⟩
  simp only [List.length_set]
  rcases List.mem_or_eq_of_mem_set hm with hm | rfl
  · exact h4 x hm
  · exact hn

theorem actG_ok {g : Gr} {t : Int} {o : Opx} (hg : okG g = true) (ht : inB t g.2.1.length) (ho : opOk o = true) (hz : beginC o (g.2.1.getD t.toNat []) (-1) = 0) : okG (actG g t o (g.2.1.getD t.toNat [])).2.2 = true := by
  obtain ⟨k1, k11⟩ := opOk_kind ho
  obtain ⟨t0, t1⟩ := inBn ht
  obtain ⟨z1, z2, z3, z4, z5, z6⟩ := beginZ hz
  have hok := okG_iff.1 hg
  have hrs : okR g.1.length (g.2.1.getD t.toNat []) = true ∧ (g.2.1.getD t.toNat []).length ≤ 8 := by
    rw [getD_lt t1]
    have := hok.2.2.2.2.1 _ (List.getElem_mem t1)
    exact ⟨this.2, this.1⟩
  generalize hrse : g.2.1.getD t.toNat [] = rs at *
  have hra : ∀ {i : Int}, inB i rs.length → -1 ≤ rs.getD i.toNat 0 ∧ rs.getD i.toNat 0 < (g.1.length : Int) := fun hi => okR_get hrs.1 (inBn hi).2
  have hnode : ∀ {i : Int}, inB i rs.length → rs.getD i.toNat 0 ≠ -1 → (g.1.getD (rs.getD i.toNat 0).toNat nd0).1.length ≤ 4 ∧ (g.1.getD (rs.getD i.toNat 0).toNat nd0).2.1.length ≤ 4 ∧ okR g.1.length (g.1.getD (rs.getD i.toNat 0).toNat nd0).1 = true := by
    intro i hi hne
    have := hra hi
    have hlt : (rs.getD i.toNat 0).toNat < g.1.length := by omega
    rw [getD_lt hlt]
    exact hok.2.2.2.1 _ (List.getElem_mem hlt)
  obtain ⟨k, A, B, C, F, V, ⟨R, M, ⟨⟩⟩, ⟨⟩⟩ := o
  simp only at k1 k11 z1 z2 z3 z4 z5 z6
  unfold actG
  dsimp only
  rcases kind_cases k1 k11 with h | h | h | h | h | h | h | h | h | h | h <;> subst h <;> simp only [Int.reduceEq, ↓reduceIte]
  · simp only [opOk, shOk, Bool.and_eq_true, decide_eq_true_eq, Bool.or_eq_true, Bool.not_eq_true', decide_eq_false_iff_not] at ho
    obtain ⟨r0, r4, m0, m4⟩ := ho.2.2.resolve_left (by simp)
    split
    · exact hg
    · rename_i hne
      have z6 := z6 (.inl rfl)
      obtain ⟨h1, h2, h3, h4, h5, h6, h7, h8⟩ := hok
      refine okG_iff.2 ⟨by simp; omega, by simpa using h2, by simpa using h3, fun x hm => ?_, fun r hm => ?_, h6, h7, okR_mono h8 (by simp)⟩
      · simp only [List.mem_append, List.mem_singleton] at hm
        rcases hm with hm | rfl
        · exact ⟨(h4 x hm).1, (h4 x hm).2.1, okR_mono (h4 x hm).2.2 (by simp)⟩
        · refine ⟨by simp; omega, by simp; omega, okR_iff.2 fun y hy => ?_⟩
          have := List.eq_of_mem_replicate hy
          subst this
          simp only [List.length_append, List.length_singleton]
          omega
      · rcases List.mem_or_eq_of_mem_set hm with hm | rfl
        · exact ⟨(h5 r hm).1, okR_mono (h5 r hm).2 (by simp)⟩
        · refine ⟨by simp; omega, okR_push (okR_mono hrs.1 (by simp)) (by omega) (by simp only [List.length_append, List.length_singleton]; omega)⟩
  · have hA := z2 (by omega) (by omega)
    have hn := hnode hA (z5 (by omega) (by omega) (by omega) (by omega))
    have z6 := z6 (.inr (.inl rfl))
    split
    · rename_i hF
      have := okR_get hn.2.2 (inBn hF).2
      exact okG_roots hg (by simp; omega) (okR_push hrs.1 this.1 this.2)
    · exact hg
  · have hA := z2 (by omega) (by omega)
    have hn := hnode hA (z5 (by omega) (by omega) (by omega) (by omega))
    have hB := hra (z3 (by omega))
    split
    · exact okG_node hg ⟨by simpa using hn.1, hn.2.1, okR_set hn.2.2 hB.1 hB.2⟩
    · exact hg
  · have hA := z2 (by omega) (by omega)
    have hn := hnode hA (z5 (by omega) (by omega) (by omega) (by omega))
    split
    · exact okG_node hg ⟨hn.1, by simpa using hn.2.1, hn.2.2⟩
    · exact hg
  · split <;> exact hg
  · exact hg
  · have hA := z2 (by omega) (by omega)
    have hn := hnode hA (z5 (by omega) (by omega) (by omega) (by omega))
    have hC := hra (z4 (by omega))
    split
    · split
      · exact okG_node hg ⟨by simpa using hn.1, hn.2.1, okR_set hn.2.2 hC.1 hC.2⟩
      · exact hg
    · exact hg
  · exact okG_roots hg (by simp; omega) (okR_sub hrs.1 fun x hx => List.mem_of_mem_take hx)
  · have hA := hra (z2 (by omega) (by omega))
    have z6 := z6 (.inr (.inr rfl))
    exact okG_roots hg (by simp; omega) (okR_push hrs.1 hA.1 hA.2)
  · have hA := z2 (by omega) (by omega)
    have hAr := hra hA
    have hne := z5 (by omega) (by omega) (by omega) (by omega)
    split
    · exact hg
    · obtain ⟨h1, h2, h3, h4, h5, h6, h7, h8⟩ := hok
      refine okG_iff.2 ⟨h1, h2, h3, h4, h5, by simp; omega, fun x hx => ?_, okR_push h8 hAr.1 hAr.2⟩
      simp only [List.mem_append, List.mem_singleton] at hx
      rcases hx with hx | rfl
      · exact h7 x hx
      · omega
  · split
    · exact hg
    · obtain ⟨h1, h2, h3, h4, h5, h6, h7, h8⟩ := hok
      have hsub : ∀ x ∈ g.2.2.1.take (lastP g.2.2.1 (rs.getD A.toNat 0)).toNat ++ g.2.2.1.drop ((lastP g.2.2.1 (rs.getD A.toNat 0)).toNat + 1), x ∈ g.2.2.1 := by
        intro x hx
        rcases List.mem_append.1 hx with hx | hx
        · exact List.mem_of_mem_take hx
        · exact List.mem_of_mem_drop hx
      exact okG_iff.2 ⟨h1, h2, h3, h4, h5, by simp; omega, fun x hx => h7 x (hsub x hx), okR_sub h8 hsub⟩

theorem doG_ok {g : Gr} {t : Int} {o : Opx} (h : (doG g t o).2.1 ≠ 1) : okG g = true ∧ okG (doG g t o).2.2 = true := by
  unfold doG at h ⊢
  split
  · rename_i hc
    refine ⟨hc.1, ?_⟩
    split
    · rename_i hz; exact actG_ok hc.1 hc.2.1 hc.2.2 hz
    · exact hc.1
  · rename_i hc; simp [hc] at h

theorem actG_len {g : Gr} {t : Int} {o : Opx} {rs : List Int} : g.1.length ≤ (actG g t o rs).2.2.1.length ∧ (actG g t o rs).2.2.2.1.length = g.2.1.length := by
  by_cases h1 : o.1 = 1
  · simp only [actG, h1, Int.reduceEq, ↓reduceIte]
    split <;> simp
  by_cases h2 : o.1 = 2
  · simp only [actG, h2, Int.reduceEq, ↓reduceIte]
    split <;> simp
  by_cases h3 : o.1 = 3
  · simp only [actG, h3, Int.reduceEq, ↓reduceIte]
    split <;> simp
  by_cases h4 : o.1 = 4
  · simp only [actG, h4, Int.reduceEq, ↓reduceIte]
    split <;> simp
  by_cases h5 : o.1 = 5
  · simp only [actG, h5, Int.reduceEq, ↓reduceIte]
    split <;> simp
  by_cases h6 : o.1 = 6
  · simp only [actG, h6, Int.reduceEq, ↓reduceIte]
    simp
  by_cases h7 : o.1 = 7
  · simp only [actG, h7, Int.reduceEq, ↓reduceIte]
    (repeat' split) <;> simp
  by_cases h8 : o.1 = 8
  · simp only [actG, h8, Int.reduceEq, ↓reduceIte]
    simp
  by_cases h9 : o.1 = 9
  · simp only [actG, h9, Int.reduceEq, ↓reduceIte]
    simp
  by_cases h10 : o.1 = 10
  · simp only [actG, h10, Int.reduceEq, ↓reduceIte]
    split <;> simp
  simp only [actG, h1, h2, h3, h4, h5, h6, h7, h8, h9, h10, if_false]
  split <;> simp

theorem doG_len {g : Gr} {t : Int} {o : Opx} (h : (doG g t o).2.1 ≠ 1) : g.1.length ≤ (doG g t o).2.2.1.length ∧ (doG g t o).2.2.2.1.length = g.2.1.length := by
  unfold doG at h ⊢
  split
  · split
    · exact actG_len
    · exact ⟨Nat.le_refl _, rfl⟩
  · rename_i hc; simp [hc] at h
section
variable {N : Nat} (hN : lim < N)
include hN

theorem sGraphNew_ok {n : Int} (h1 : 1 ≤ n) (h3 : n ≤ 3) : FsGraphNew N (n, ()) = some (true, [([-1, -1, -1, -1], [0, 0], ())], List.replicate n.toNat [0], ()) := by
  have hN' : 2147483648 < N := by rw [lim_eq] at hN; exact hN
  obtain ⟨m, rfl⟩ : ∃ m, N = m + 10 := ⟨N - 10, by omega⟩
  have e0 : ∀ a b, lsGraphNew_0 (m + 10) (m + 10) (a, 0, [], b, ()) = some (a, [-1, -1, -1, -1], b, ()) := by
    intro a b
    have w1 : w64 1 = 1 := by decide
    have w2 : w64 2 = 2 := by decide
    have w3 : w64 3 = 3 := by decide
    have w4 : w64 4 = 4 := by decide
    simp [lsGraphNew_0, w1, w2, w3, w4, lim_eq]
  have e2 : ∀ a, lsGraphNew_2 (m + 10) (m + 10) (n, 0, a, [], ()) = some (a, List.replicate n.toNat [0], ()) := by
    intro a
    have w1 : w64 1 = 1 := by decide
    have w2 : w64 2 = 2 := by decide
    have w3 : w64 3 = 3 := by decide
    have : n = 1 ∨ n = 2 ∨ n = 3 := by omega
    rcases this with h | h | h <;> subst h <;> simp [lsGraphNew_2, w1, w2, w3, lim_eq] <;> rfl
  have c1 : ¬ n < 1 := by omega
  have c2 : ¬ n > 3 := by omega
  have c3 : ¬ 3 < n := by omega
  simp [FsGraphNew, c1, c2, c3, e0, e2, lim_eq]

theorem newG_ok {n : Int} (h1 : 1 ≤ n) (h3 : n ≤ 3) : okG ([([-1, -1, -1, -1], [0, 0], ())], List.replicate n.toNat [0], [], ()) = true := by
  refine okG_iff.2 ⟨by simp, by simp; omega, by simp; omega, ?_, ?_, by simp, by simp, by rfl⟩
  · intro x hx
    simp only [List.mem_singleton] at hx
    subst hx
    exact ⟨by decide, by decide, by simp [okR]⟩
  · intro r hr
    have := List.eq_of_mem_replicate hr
    subst this
    exact ⟨by decide, by simp [okR]⟩

theorem l20Graph_0_ok {cnt : Int} {b : List Int} (hb : byteL b) (hc : cnt ≤ 30) : ∀ (n i : Nat) (p : Int) (g : Gr), 30 - i < n → i ≤ 30 → okG g = true → 1 ≤ g.1.length → 0 ≤ p → p < 1099511000000 - 40 * (30 - i) →
    Ret (lsl20Graph_0 N n (cnt, (i : Int), b, p, g.1, g.2.1, g.2.2.1, ())) (fun r => r.1 = b ∧ p ≤ r.2.1 ∧ r.2.1 ≤ p + 40 * (30 - i) ∧ okG r.2.2 = true ∧ 1 ≤ r.2.2.1.length)
  | 0, _, _, _, h, _, _, _, _, _ => absurd h (Nat.not_lt_zero _)
  | n + 1, i, p, g, hn, hi0, hg, h1, hp, hp' => by
    have hok := okG_iff.1 hg
    have hs := okG_small hN hg
    unfold lsl20Graph_0
    dsimp only
    refine Ret.dec (fun hi => ?_) (fun hi => ?_)
    · refine pick_bind hb (by omega) (by omega) (fun t t0 t1 => ?_)
      dsimp only
      have ht : t.toNat < g.2.1.length := by omega
      refine Ret.guard t0 (Ret.guard ht ?_)
      refine Ret.bind _ (l20Op_ok hb (by omega) (by omega)) (fun r hr => ?_)
      obtain ⟨k, A, B, C, F, V, R, M, b', p', ⟨⟩⟩ := r
      simp only at hr
      obtain ⟨rfl, p1, p2⟩ := hr
      dsimp only
      have hw : w64 ((i : Int) + 1) = ((i + 1 : Nat) : Int) := w64_succ (by omega)
      refine Ret.bindE (sGraphDo_ok hN (g := g) (t := t) (o := (k, A, B, C, F, V, (R, M, ()), ())) hs) ?_
      have hi30 : (i : Int) < 30 := by omega
      rw [hw]
      by_cases hcode : (doG g t (k, A, B, C, F, V, (R, M, ()), ())).2.1 = 1
      · simp only [hcode, bne_self_eq_false, cond_false]
        refine (l20Graph_0_ok hb hc n (i + 1) p' g (by omega) (by omega) hg h1 (by omega) (by omega)).mono fun r hr => ?_
        obtain ⟨r1, r2, r3, r5, r6⟩ := hr
        exact ⟨r1, by omega, by omega, r5, r6⟩
      · have hb2 : ((doG g t (k, A, B, C, F, V, (R, M, ()), ())).2.1 != 1) = true := by simpa using hcode
        simp only [hb2, cond_true]
        obtain ⟨_, hg'⟩ := doG_ok hcode
        obtain ⟨hl', _⟩ := doG_len hcode
        refine (l20Graph_0_ok hb hc n (i + 1) p' (doG g t (k, A, B, C, F, V, (R, M, ()), ())).2.2 (by omega) (by omega) hg' (by omega) (by omega) (by omega)).mono fun r hr => ?_
        obtain ⟨r1, r2, r3, r5, r6⟩ := hr
        exact ⟨r1, by omega, by omega, r5, r6⟩
    · exact Ret.pure ⟨rfl, by dsimp only; omega, by dsimp only; omega, hg, h1⟩

theorem l20Graph_3_ok {b : List Int} (hb : byteL b) (rs : List (List Int)) (ps : List Int) : ∀ (n : Nat) (p : Int) (ns : List Nd), 201 - ns.length < n → ns.length ≤ 201 → 0 ≤ p → p < 1099511500000 + ns.length → (∀ x ∈ ns, smN x) →
    Ret (lsl20Graph_3 N n (b, p, ns, rs, ps, ())) (fun r => r.1.length ≤ 201 ∧ ns.length ≤ r.1.length ∧ (∀ x ∈ r.1, smN x) ∧ r.2.1 = rs ∧ r.2.2.1 = ps ∧ r.2.2.2.1 = b ∧ p ≤ r.2.2.2.2.1 ∧ r.2.2.2.2.1 ≤ p + 202 - ns.length)
  | 0, _, _, h, _, _, _, _ => absurd h (Nat.not_lt_zero _)
  | n + 1, p, ns, hn, hl, hp, hp', hx => by
    unfold lsl20Graph_3
    dsimp only
    refine pick_bind hb (by omega) (by omega) (fun v v0 v1 => ?_)
    dsimp only
    have hw : w64 (200 + v) = 200 + v := w64_id (by omega) (by omega)
    rw [hw]
    refine Ret.dec (fun h => ?_) (fun h => ?_)
    · refine Ret.guard (by rw [lim_eq]; simp; omega) ?_
      refine (l20Graph_3_ok hb rs ps n (p + 1) (ns ++ [([], [], ())]) (by simp; omega) (by simp; omega) (by omega) (by simp; omega) ?_).mono fun r hr => ?_
      · intro x hm
        simp only [List.mem_append, List.mem_singleton] at hm
        rcases hm with hm | rfl
        · exact hx x hm
        · exact ⟨by simp [sm], by simp [sm]⟩
      · obtain ⟨r1, r2, r3, r4, r5, r6, r7, r8⟩ := hr
        simp only [List.length_append, List.length_singleton] at r2 r8
        exact ⟨r1, by omega, r3, r4, r5, r6, by omega, by omega⟩
    · exact Ret.pure ⟨hl, Nat.le_refl _, hx, rfl, rfl, rfl, by dsimp only; omega, by dsimp only; omega⟩

theorem l20Graph_ok {b : List Int} {p : Int} (hb : byteL b) (hp : 0 ≤ p) (hp' : p < 1000000) :
    Ret (Fsl20Graph N (b, p, ())) (fun r => smG (r.1, r.2.1, r.2.2.1, ()) ∧ 1 ≤ r.1.length ∧ 1 ≤ r.2.1.length ∧ r.2.2.2.1 = b ∧ p ≤ r.2.2.2.2.1 ∧ r.2.2.2.2.1 ≤ p + 2000) := by
  have hN' : 2147483648 < N := by rw [lim_eq] at hN; exact hN
  unfold Fsl20Graph
  dsimp only
  refine pick_bind hb (by omega) (by omega) (fun v1 a1 c1 => ?_)
  dsimp only
  have hw : w64 (1 + v1) = 1 + v1 := w64_id (by omega) (by omega)
  rw [hw]
  refine Ret.bindE (sGraphNew_ok hN (by omega) (by omega)) ?_
  dsimp only
  refine pick_bind hb (by omega) (by omega) (fun v2 a2 c2 => ?_)
  dsimp only
  have h0 := l20Graph_0_ok hN (cnt := v2) hb (by omega) N 0 (p + 1 + 1) ([([-1, -1, -1, -1], [0, 0], ())], List.replicate (1 + v1).toNat [0], [], ()) (by omega) (by omega) (newG_ok hN (by omega) (by omega)) (by simp) (by omega) (by omega)
  refine Ret.bind _ h0 (fun o ho => ?_)
  obtain ⟨b', p', g⟩ := o
  simp only at ho
  obtain ⟨rfl, q1, q2, hg, hg1⟩ := ho
  have hok := okG_iff.1 hg
  have hs := okG_small hN hg
  dsimp only
  refine pick_bind hb (by omega) (by omega) (fun v3 a3 c3 => ?_)
  dsimp only
  refine Ret.beq (fun e => ?_) (fun e => ?_)
  · refine pick_bind hb (by omega) (by omega) (fun v4 a4 c4 => ?_)
    dsimp only
    refine Ret.guard (by omega) (Ret.guard (by show (0 : Nat) < _; omega) (Ret.pure ?_))
    refine ⟨⟨by simpa using hs.1, fun x hm => ?_, hs.2.2⟩, by simpa using hg1, hok.2.1, rfl, by dsimp only; omega, by dsimp only; omega⟩
    rcases List.mem_or_eq_of_mem_set hm with hm | rfl
    · exact hs.2.1 x hm
    · refine ⟨by simp [sm], ?_⟩
      have := hs.2.1 _ (List.getElem_mem (show 0 < g.1.length by omega))
      have e0 : g.1.getD (0 : Int).toNat ([], [], ()) = g.1[0]'(by omega) := getD_lt (show 0 < g.1.length by omega)
      rw [e0]
      exact this.2
  refine Ret.beq (fun e => ?_) (fun e => ?_)
  · refine Ret.guard (by omega) (Ret.guard (by show (0 : Nat) < _; omega) ?_)
    have hr0 := hok.2.2.2.2.1 _ (List.getElem_mem (show 0 < g.2.1.length by omega))
    have e0 : g.2.1.getD (0 : Int).toNat [] = g.2.1[0]'(by omega) := getD_lt (show 0 < g.2.1.length by omega)
    refine Ret.bindE (sl5Ints_ok hN (by rw [e0, lim_eq]; omega)) ?_
    dsimp only
    refine pick_bind hb (by omega) (by omega) (fun v4 a4 c4 => ?_)
    dsimp only
    refine Ret.guard (by rw [e0, lim_eq]; simp; omega) (Ret.guard (by omega) (Ret.guard (by show (0 : Nat) < _; omega) (Ret.pure ?_)))
    refine ⟨⟨hs.1, hs.2.1, by simpa using hs.2.2.1, fun x hm => ?_, hs.2.2.2.2⟩, hg1, by simpa using hok.2.1, rfl, by dsimp only; omega, by dsimp only; omega⟩
    rcases List.mem_or_eq_of_mem_set hm with hm | rfl
    · exact hs.2.2.2.1 x hm
    · rw [e0]; simp [sm]; omega
  refine Ret.beq (fun e => ?_) (fun e => ?_)
  · refine Ret.guard (by rw [lim_eq]; simp; omega) (Ret.pure ?_)
    refine ⟨⟨hs.1, hs.2.1, by simp [sm]; omega, fun x hm => ?_, hs.2.2.2.2⟩, hg1, by simp, rfl, by dsimp only; omega, by dsimp only; omega⟩
    simp only [List.mem_append, List.mem_cons, List.not_mem_nil, or_false] at hm
    rcases hm with hm | rfl | rfl
    · exact hs.2.2.2.1 x hm
    · simp [sm]
    · simp [sm]
  refine Ret.beq (fun e => ?_) (fun e => ?_)
  · refine Ret.bind _ (l20Graph_3_ok hN hb g.2.1 g.2.2.1 N (p' + 1) g.1 (by omega) (by omega) (by omega) (by omega) hs.2.1) (fun r hr => ?_)
    obtain ⟨r1, r2, r3, r4, r5, r6, r7, r8⟩ := hr
    refine Ret.pure ⟨⟨by simp [sm]; omega, r3, ?_⟩, by dsimp only; omega, by dsimp only; rw [r4]; exact hok.2.1, r6, by dsimp only; omega, by dsimp only; omega⟩
    dsimp only
    rw [r4, r5]
    exact hs.2.2
  · exact Ret.pure ⟨hs, hg1, hok.2.1, rfl, by dsimp only; omega, by dsimp only; omega⟩

theorem sl1Open_ok {code : List Int} (hb : ∀ x ∈ code, 0 ≤ x ∧ x < 256) : ∃ b, Fsl1Open_a N (code, ()) = some (b, 0, ()) ∧ byteL b := by
  by_cases h : code.length > 2000
  · have h1 : (code.length : Int) > 2000 := by omega
    have h2 : (2000 : Int) ≤ code.length := by omega
    refine ⟨(code.drop 0).take (2000 - 0), by simp only [Fsl1Open_a, h1, h2]; rfl, by simp; omega, fun x hx => hb x ?_⟩
    exact List.mem_of_mem_take (i := 2000) (by simpa using hx)
  · have h1 : ¬ (code.length : Int) > 2000 := by omega
    exact ⟨code, by simp only [Fsl1Open_a, h1]; rfl, by omega, hb⟩
end
abbrev Pst := Mst × List Int
def meetP (c : Int) (st : Pst) (r : Int) : Pst := if 0 ≤ r ∧ st.1.2.getD r.toNat false = false then (meet st.1 r, st.2.set r.toNat c) else st

theorem meetP_fst (c : Int) (st : Pst) (r : Int) : (meetP c st r).1 = meet st.1 r := by
  unfold meetP meet
  split <;> rfl

theorem meetsP_fst (c : Int) (l : List Int) : ∀ st : Pst, (l.foldl (meetP c) st).1 = l.foldl meet st.1 := by
  induction l with
  | nil => intro st; rfl
  | cons r l ih => intro st; simp only [List.foldl_cons]; rw [ih, meetP_fst]

theorem meetP_len (c : Int) (st : Pst) (r : Int) : (meetP c st r).2.length = st.2.length := by
  unfold meetP; split <;> simp

theorem meetsP_len (c : Int) (l : List Int) : ∀ st : Pst, (l.foldl (meetP c) st).2.length = st.2.length := by
  induction l with
  | nil => intro st; rfl
  | cons r l ih => intro st; simp only [List.foldl_cons]; rw [ih, meetP_len]

def walkP (R : Int → List Int) : Nat → Nat → Pst → Pst
  | 0, _, st => st
  | n + 1, i, st => if i < st.1.1.length then walkP R n (i + 1) ((R (st.1.1.getD i 0)).foldl (meetP (st.1.1.getD i 0)) st) else st

theorem walkP_fst (R : Int → List Int) : ∀ (n i : Nat) (st : Pst), (walkP R n i st).1 = walk R n i st.1
  | 0, _, _ => rfl
  | n + 1, i, st => by
    unfold walkP walk
    split
    · rw [walkP_fst R n (i + 1), meetsP_fst]
    · rfl

/-- Where each that is met comes from. -/
structure From (m : Nat) (R : Int → List Int) (rs : List Int) (st : Pst) : Prop where
  met : Met m st.1
  len : st.2.length = m
  from' : ∀ k (h : k < st.1.1.length), (st.2.getD st.1.1[k].toNat 0 = -1 ∧ st.1.1[k] ∈ rs) ∨ ∃ j, ∃ hj : j < k, st.2.getD st.1.1[k].toNat 0 = st.1.1[j]'(Nat.lt_trans hj h) ∧ st.1.1[k] ∈ R (st.1.1[j]'(Nat.lt_trans hj h))

theorem From.step {m : Nat} {R : Int → List Int} {rs : List Int} {st : Pst} (h : From m R rs st) {c r : Int} (hr : r < (m : Int)) (hc : (c = -1 ∧ r ∈ rs) ∨ (c ∈ st.1.1 ∧ r ∈ R c)) : From m R rs (meetP c st r) := by
  have hm := h.met.meet hr
  by_cases hcond : 0 ≤ r ∧ st.1.2.getD r.toNat false = false
  · have e : Fl.meetP c st r = (meet st.1 r, st.2.set r.toNat c) := by unfold Fl.meetP; rw [if_pos hcond]
    have e1 : meet st.1 r = (st.1.1 ++ [r], st.1.2.set r.toNat true) := by unfold meet; rw [if_pos hcond]
    have hrl : r.toNat < st.2.length := by rw [h.len]; omega
    have hn : r ∉ st.1.1 := fun hm' => by
      have := (h.met.had r hcond.1).2 hm'
      rw [hcond.2] at this; cases this
    rw [e, e1]
    rw [e1] at hm
    refine ⟨hm, by simpa using h.len, fun k hk => ?_⟩
    simp only [List.length_append, List.length_singleton] at hk
    by_cases hk' : k < st.1.1.length
    · have hrg := h.met.rng _ (List.getElem_mem hk')
      have hne : r.toNat ≠ st.1.1[k].toNat := fun e' => hn (by
        have : r = st.1.1[k] := by omega
        rw [this]; exact List.getElem_mem hk')
      have ek : (st.1.1 ++ [r])[k] = st.1.1[k] := List.getElem_append_left hk'
      have ef : (st.2.set r.toNat c).getD st.1.1[k].toNat 0 = st.2.getD st.1.1[k].toNat 0 := by
        simp only [List.getD_eq_getElem?_getD, List.getElem?_set, hne, if_false]
      simp only [ek, ef]
      rcases h.from' k hk' with h1 | ⟨j, hj, h1, h2⟩
      · exact .inl h1
      · have ej : (st.1.1 ++ [r])[j]'(by simp; omega) = st.1.1[j] := List.getElem_append_left (by omega)
        refine .inr ⟨j, hj, ?_, ?_⟩
        · rw [ej]; exact h1
        · rw [ej]; exact h2
    · have hk2 : k = st.1.1.length := by omega
      subst hk2
      have ek : (st.1.1 ++ [r])[st.1.1.length] = r := by simp
      have ef : (st.2.set r.toNat c).getD r.toNat 0 = c := by
        simp [List.getD_eq_getElem?_getD, hrl]
      simp only [ek, ef]
      rcases hc with hc | ⟨hc1, hc2⟩
      · exact .inl hc
      · obtain ⟨j, hj, rfl⟩ := List.getElem_of_mem hc1
        have ej : (st.1.1 ++ [r])[j]'(by simp; omega) = st.1.1[j] := List.getElem_append_left hj
        refine .inr ⟨j, hj, ?_, ?_⟩
        · rw [ej]
        · rw [ej]; exact hc2
  · have e : Fl.meetP c st r = st := by unfold Fl.meetP; rw [if_neg hcond]
    rw [e]; exact h

theorem From.steps {m : Nat} {R : Int → List Int} {rs : List Int} {c : Int} : ∀ {l : List Int} {st : Pst}, From m R rs st → (∀ r ∈ l, r < (m : Int)) → (∀ r ∈ l, (c = -1 ∧ r ∈ rs) ∨ (c ∈ st.1.1 ∧ r ∈ R c)) → From m R rs (l.foldl (Fl.meetP c) st) := by
  intro l
  induction l with
  | nil => intro st h _ _; exact h
  | cons r l ih =>
    intro st h hr hc
    refine ih (h.step (hr r (by simp)) (hc r (by simp))) (fun x hx => hr x (by simp [hx])) fun x hx => ?_
    rcases hc x (by simp [hx]) with h1 | ⟨h1, h2⟩
    · exact .inl h1
    · refine .inr ⟨?_, h2⟩
      rw [meetP_fst]
      exact (meet_pre st.1 r).subset h1

theorem From.all {m : Nat} {R : Int → List Int} {rs : List Int} (hR : ∀ r, 0 ≤ r → r < (m : Int) → ∀ x ∈ R r, x < (m : Int)) : ∀ (n i : Nat) {st : Pst}, From m R rs st → From m R rs (Fl.walkP R n i st)
  | 0, _, _, h => h
  | n + 1, i, st, h => by
    unfold Fl.walkP
    split
    · rename_i hi
      rw [getD_lt hi]
      have hrg := h.met.rng _ (List.getElem_mem hi)
      exact From.all hR n (i + 1) (h.steps (hR _ hrg.1 hrg.2) fun r hr => .inr ⟨List.getElem_mem hi, hr⟩)
    · exact h

/-- From a node back to where it begins. -/
def backP (fr : List Int) : Nat → Int → List Int → List Int
  | 0, _, acc => acc
  | n + 1, x, acc => if 0 ≤ x then backP fr n (fr.getD x.toNat 0) (x :: acc) else acc

/-- The way to a node. -/
structure Way (R : Int → List Int) (rs : List Int) (st : Pst) (k : Nat) (r : Int) (c : List Int) : Prop where
  len : c.length ≤ k + 1
  ne : 0 < c.length
  last : c[c.length - 1]? = some r
  head : ∀ x, c[0]? = some x → x ∈ rs
  edge : ∀ i x y, c[i]? = some x → c[i + 1]? = some y → y ∈ R x
  mem : ∀ x ∈ c, x ∈ st.1.1
  back : ∀ f acc, k + 1 < f → backP st.2 f r acc = c ++ acc
  pre : ∀ i x, c[i]? = some x → ∀ f acc, k + 1 < f → backP st.2 f x acc = c.take (i + 1) ++ acc

theorem From.way {m : Nat} {R : Int → List Int} {rs : List Int} {st : Pst} (h : From m R rs st) : ∀ (k : Nat) (hk : k < st.1.1.length), ∃ c, Way R rs st k st.1.1[k] c := by
  intro k
  induction k using Nat.strongRecOn with
  | _ k ih =>
    intro hk
    have h0 := (h.met.rng _ (List.getElem_mem hk)).1
    rcases h.from' k hk with ⟨h1, h2⟩ | ⟨j, hj, h1, h2⟩
    · have hb : ∀ f acc, k + 1 < f → backP st.2 f st.1.1[k] acc = [st.1.1[k]] ++ acc := by
        intro f acc hf
        obtain ⟨f, rfl⟩ : ∃ f', f = f' + 2 := ⟨f - 2, by omega⟩
        simp only [backP, h0, if_true, h1]
        rfl
      refine ⟨[st.1.1[k]], by simp, by simp, by simp, fun x hx => ?_, fun i x y hx hy => ?_, fun x hx => ?_, hb, fun i x hx f acc hf => ?_⟩
      · simp at hx; subst hx; exact h2
      · cases i <;> simp at hy
      · simp at hx; subst hx; exact List.getElem_mem hk
      · cases i with
        | zero => simp at hx; subst hx; exact hb f acc hf
        | succ i => simp at hx
    · obtain ⟨c, hc⟩ := ih j hj (by omega)
      have hb : ∀ f acc, k + 1 < f → backP st.2 f st.1.1[k] acc = (c ++ [st.1.1[k]]) ++ acc := by
        intro f acc hf
        obtain ⟨f, rfl⟩ : ∃ f', f = f' + 1 := ⟨f - 1, by omega⟩
        simp only [backP, h0, if_true, h1]
        rw [hc.back f _ (by omega)]
        simp
      have hcl := hc.ne
      refine ⟨c ++ [st.1.1[k]], ?_, by simp, by simp, fun x hx => ?_, fun i x y hx hy => ?_, fun x hx => ?_, hb, fun i x hx f acc hf => ?_⟩
      · have := hc.len; simp only [List.length_append, List.length_singleton]; omega
      · rw [List.getElem?_append_left hcl] at hx; exact hc.head x hx
      · by_cases hi : i + 1 < c.length
        · rw [List.getElem?_append_left (by omega)] at hx hy
          exact hc.edge i x y hx hy
        · rw [List.getElem?_append_right (by omega)] at hy
          have hi2 : i + 1 - c.length = 0 := by
            rcases Nat.eq_zero_or_pos (i + 1 - c.length) with h | h
            · exact h
            · rw [List.getElem?_eq_none (by simp; omega)] at hy; cases hy
          rw [hi2] at hy
          simp at hy
          subst hy
          rw [List.getElem?_append_left (by omega)] at hx
          have : i = c.length - 1 := by omega
          subst this
          rw [hc.last] at hx
          cases hx
          exact h2
      · rcases List.mem_append.1 hx with hx | hx
        · exact hc.mem x hx
        · simp at hx; subst hx; exact List.getElem_mem hk
      · by_cases hi : i < c.length
        · rw [List.getElem?_append_left hi] at hx
          rw [hc.pre i x hx f acc (by omega), List.take_append_of_le_length (by omega)]
        · rw [List.getElem?_append_right (by omega)] at hx
          have hi2 : i - c.length = 0 := by
            rcases Nat.eq_zero_or_pos (i - c.length) with h | h
            · exact h
            · rw [List.getElem?_eq_none (by simp; omega)] at hx; cases hx
          rw [hi2] at hx
          simp at hx
          subst hx
          rw [hb f acc hf, List.take_of_length_le (by simp; omega)]

/-- All that is met from a thread's roots, and where it comes from. -/
def startP (g : Gr) (t : Int) : Pst := (g.2.1.getD t.toNat []).foldl (meetP (-1)) (met0 g.1.length, List.replicate g.1.length 0)
def bfs (g : Gr) (t : Int) : Pst := walkP (refsOf g) (g.1.length + 1) 0 (startP g t)
def inG (i : Int) (n : Nat) : Prop := 0 ≤ i ∧ i < (n : Int)
instance (i : Int) (n : Nat) : Decidable (inG i n) := by unfold inG; infer_instance
/-- The first way that is met. -/
def pathOf (g : Gr) (t n : Int) : Bool × List Int :=
  if okG g = true ∧ inG t g.2.1.length ∧ inG n g.1.length ∧ (bfs g t).1.2.getD n.toNat false = true then (true, backP (bfs g t).2 (g.1.length + 2) n []) else (false, [])

theorem startP_ok {g : Gr} (h : okG g = true) {t : Int} (ht : inG t g.2.1.length) : From g.1.length (refsOf g) (g.2.1.getD t.toNat []) (startP g t) := by
  have ht' : t.toNat < g.2.1.length := by unfold inG at ht; omega
  refine From.steps ⟨met0_ok _, by simp, fun k hk => by simp [met0] at hk⟩ (fun r hr => ?_) (fun r hr => .inl ⟨rfl, hr⟩)
  rw [getD_lt ht'] at hr
  exact rootsrng h _ (List.getElem_mem ht') r hr

theorem bfs_ok {g : Gr} (h : okG g = true) {t : Int} (ht : inG t g.2.1.length) : From g.1.length (refsOf g) (g.2.1.getD t.toNat []) (bfs g t) :=
  From.all (fun r _ _ => refs_rng h r) _ _ (startP_ok h ht)

theorem pathOf_way {g : Gr} {t n : Int} (h : (pathOf g t n).1 = true) : okG g = true ∧ inG t g.2.1.length ∧ inG n g.1.length ∧ ∃ k, k < g.1.length ∧ Way (refsOf g) (g.2.1.getD t.toNat []) (bfs g t) k n (pathOf g t n).2 := by
  unfold pathOf at h ⊢
  split at h
  · rename_i hc
    obtain ⟨hg, ht, hn, hh⟩ := hc
    have hf := bfs_ok hg ht
    have hm := (hf.met.had n hn.1).1 hh
    obtain ⟨k, hk, rfl⟩ := List.getElem_of_mem hm
    obtain ⟨c, hc⟩ := hf.way k hk
    have hle := hf.met.le
    refine ⟨hg, ht, hn, k, by omega, ?_⟩
    rw [if_pos ⟨hg, ht, hn, hh⟩]
    simp only
    rw [hc.back _ _ (by omega), List.append_nil]
    exact hc
  · cases h

/-- A shortest way begins with shortest ways. -/
theorem pathOf_pre {g : Gr} {t n : Int} (h : (pathOf g t n).1 = true) {i : Nat} {x : Int} (hx : (pathOf g t n).2[i]? = some x) : pathOf g t x = (true, (pathOf g t n).2.take (i + 1)) := by
  obtain ⟨hg, ht, hn, k, hk, hw⟩ := pathOf_way h
  have hf := bfs_ok hg ht
  have hxm := hw.mem x (List.mem_of_getElem? hx)
  have hxr := hf.met.rng x hxm
  have hp := hw.pre i x hx (g.1.length + 2) [] (by omega)
  unfold pathOf at hp hx ⊢
  rw [if_pos ⟨hg, ht, hxr, (hf.met.had x hxr.1).2 hxm⟩]
  rw [hp, List.append_nil]

/-- A way leads to what is reached. -/
theorem pathOf_order {g : Gr} {t n : Int} (h : (pathOf g t n).1 = true) : n ∈ order g := by
  obtain ⟨hg, ht, hn, k, hk, hw⟩ := pathOf_way h
  have ht' : t.toNat < g.2.1.length := by unfold inG at ht; omega
  have hall : ∀ (i : Nat) (x : Int), (pathOf g t n).2[i]? = some x → x ∈ order g := by
    intro i
    induction i with
    | zero =>
      intro x hx
      have hr := hw.head x hx
      rw [getD_lt ht'] at hr
      exact order_roots hg _ (List.getElem_mem ht') x hr ((bfs_ok hg ht).met.rng x (hw.mem x (List.mem_of_getElem? hx))).1
    | succ i ih =>
      intro y hy
      have hlt : i + 1 < (pathOf g t n).2.length := (List.getElem?_eq_some_iff.1 hy).1
      have hx : (pathOf g t n).2[i]? = some (pathOf g t n).2[i] := List.getElem?_eq_getElem (by omega)
      exact order_closed hg _ (ih _ hx) y (hw.edge i _ y hx hy) ((bfs_ok hg ht).met.rng y (hw.mem y (List.mem_of_getElem? hy))).1
  exact hall _ n hw.last
section
variable {N : Nat} (hN : lim < N)
include hN

theorem meetsP_loop {m : Nat} {xs : List Int} {c : Int} (hx : ∀ x ∈ xs, x < (m : Int)) (hm : m ≤ 200) (hl : xs.length ≤ lim) {ρ : Type} {L : Nat → Nat → Pst → Option ρ} {fin : Pst → ρ}
    (h1 : ∀ n i st (h : i < xs.length), w64 ((i : Int) + 1) = ((i + 1 : Nat) : Int) → Met m st.1 → st.2.length = m → (0 ≤ xs[i] → xs[i].toNat < st.1.2.length ∧ xs[i].toNat < st.2.length) → st.1.1.length + 1 ≤ lim → L (n + 1) i st = L n (i + 1) (meetP c st xs[i]))
    (h3 : ∀ n st, Met m st.1 → L (n + 1) xs.length st = some (fin st)) {st : Pst} (hst : Met m st.1) (hs2 : st.2.length = m) : L N 0 st = some (fin (xs.foldl (meetP c) st)) :=
  (fold_loop (xs := xs) (n := N) (meetP c) (fun _ st => Met m st.1 ∧ st.2.length = m) (L := L) (fin := fin) hl
    (fun n i st h hw hI => by
      have hr := hx _ (List.getElem_mem h)
      refine ⟨h1 n i st h hw hI.1 hI.2 (fun h0 => by have := hI.1.len; omega) ?_, ?_, ?_⟩
      · have := hI.1.le; rw [lim_eq]; omega
      · rw [meetP_fst]; exact hI.1.meet hr
      · rw [meetP_len]; exact hI.2)
    (fun n st hI => h3 n st hI.1) (by omega) ⟨hst, hs2⟩).1

theorem walkP_loop {m : Nat} {R : Int → List Int} (hR : ∀ r, 0 ≤ r → r < (m : Int) → ∀ x ∈ R r, x < (m : Int)) (hm : m ≤ 200) {ρ : Type} {L : Nat → Nat → Pst → Option ρ} {fin : Pst → ρ}
    (h1 : ∀ n (i : Nat) st (h : i < st.1.1.length), w64 ((i : Int) + 1) = ((i + 1 : Nat) : Int) → Met m st.1 → st.2.length = m → L (n + 1) i st = L n (i + 1) ((R st.1.1[i]).foldl (meetP st.1.1[i]) st))
    (h3 : ∀ n (i : Nat) st, ¬ i < st.1.1.length → Met m st.1 → st.2.length = m → L (n + 1) i st = some (fin st)) {st : Pst} (hst : Met m st.1) (hs2 : st.2.length = m) : L N 0 st = some (fin (walkP R (m + 1) 0 st)) := by
  have key : ∀ n i st, Met m st.1 → st.2.length = m → i ≤ st.1.1.length → m - i < n → L n i st = some (fin (walkP R (m + 1 - i) i st)) := by
    intro n
    induction n with
    | zero => intro i st _ _ _ h; exact absurd h (Nat.not_lt_zero _)
    | succ n ih =>
      intro i st hI hI2 hi hn
      have hle := hI.le
      by_cases h : i < st.1.1.length
      · have e : m + 1 - i = (m + 1 - (i + 1)) + 1 := by omega
        rw [h1 n i st h (w64_succ (by omega)) hI hI2, e]
        have hb : Met m ((R st.1.1[i]).foldl (meetP st.1.1[i]) st).1 := by
          rw [meetsP_fst]
          exact hI.meets (hR _ (hI.rng _ (List.getElem_mem h)).1 (hI.rng _ (List.getElem_mem h)).2)
        have hp : st.1.1.length ≤ ((R st.1.1[i]).foldl (meetP st.1.1[i]) st).1.1.length := by
          rw [meetsP_fst]
          exact (meets_pre (l := R st.1.1[i]) (st := st.1)).length_le
        rw [ih (i + 1) _ hb (by rw [meetsP_len]; exact hI2) (by omega) (by omega)]
        simp only [walkP, h, if_true, getD_lt h]
      · rw [h3 n i st h hI hI2]
        cases hk : m + 1 - i with
        | zero => rfl
        | succ k => simp only [walkP, h, if_false]
  have := key N 0 st hst hs2 (by omega) (by rw [lim_eq] at hN; omega)
  simpa using this

theorem back_loop {m : Nat} {R : Int → List Int} {rs : List Int} {st : Pst} (h : From m R rs st) (hm : m ≤ 200) {L : Nat → Int → List Int → Option (List Int × Unit)}
    (h1 : ∀ n x acc, 0 ≤ x → x.toNat < st.2.length → acc.length + 1 ≤ lim → L (n + 1) x acc = L n (st.2.getD x.toNat 0) (x :: acc))
    (h3 : ∀ n x acc, x < 0 → L (n + 1) x acc = some (acc, ())) : ∀ (k : Nat) (hk : k < st.1.1.length) (n : Nat) (acc : List Int), k + 1 < n → acc.length + k + 2 ≤ lim → L n st.1.1[k] acc = some (backP st.2 n st.1.1[k] acc, ()) := by
  intro k
  induction k using Nat.strongRecOn with
  | _ k ih =>
    intro hk n acc hn hl
    have hr := h.met.rng _ (List.getElem_mem hk)
    obtain ⟨n, rfl⟩ : ∃ n', n = n' + 1 := ⟨n - 1, by omega⟩
    rw [h1 n _ acc hr.1 (by rw [h.len]; omega) (by omega)]
    simp only [backP, hr.1, if_true]
    rcases h.from' k hk with ⟨e, _⟩ | ⟨j, hj, e, _⟩
    · rw [e]
      obtain ⟨n, rfl⟩ : ∃ n', n = n' + 1 := ⟨n - 1, by omega⟩
      rw [h3 n _ _ (by omega)]
      simp [backP]
    · rw [e]
      exact ih j hj (by omega) n _ (by omega) (by simp; omega)
end
section
variable {N : Nat} (hN : lim < N)
include hN

theorem sPathFrom_ok {g : Gr} (hs : smG g) (t n : Int) : FsPathFrom N (g, t, n, ()) = some ((pathOf g t n).1, (pathOf g t n).2, ()) := by
  unfold FsPathFrom
  dsimp only
  by_cases hc : okG g = true ∧ inG t g.2.1.length ∧ inG n g.1.length
  · obtain ⟨hg, ht, hn⟩ := hc
    have ht0 := ht
    have hn0 := hn
    unfold inG at ht hn
    have ht' : t.toNat < g.2.1.length := by omega
    have hg' := okG_iff.1 hg
    have c1 : ¬ t < 0 := by omega
    have c2 : ¬ (g.2.1.length : Int) ≤ t := by omega
    have c3 : ¬ n < 0 := by omega
    have c4 : ¬ (g.1.length : Int) ≤ n := by omega
    refine obind_eq (r := .inl (t, n, g, ())) (by simp [sGraphOk_ok hN hs, hg, c1, c2, c3, c4]) ?_
    dsimp only [Sum.elim_inl]
    have hl := sm_lim hs.1
    have e0 := meetsP_loop hN (xs := g.2.1[t.toNat]) (m := g.1.length) (c := -1) (rootsrng hg _ (List.getElem_mem ht')) hg'.1 (sm_lim (hs.2.2.2.1 _ (List.getElem_mem ht')))
      (L := fun k i st => lsPathFrom_0 N k (t, n, g, (i : Int), st.1.1, st.2, st.1.2, ())) (fin := fun st => (n, g, st.1.1, st.2, st.1.2, ()))
      (fun k i st hi hw hI hI2 hb hlim => by
        by_cases h0 : 0 ≤ g.2.1[t.toNat][i]
        · obtain ⟨hb1, hb2⟩ := hb h0
          cases hh : st.1.2.getD g.2.1[t.toNat][i].toNat false with
          | false =>
            have hh' := hh
            rw [getD_lt hb1] at hh'
            simp [lsPathFrom_0, ht.1, ht', hi, hw, h0, hb1, hb2, hlim, meetP, meet, hh']
          | true =>
            have hh' := hh
            rw [getD_lt hb1] at hh'
            simp [lsPathFrom_0, ht.1, ht', hi, hw, h0, hb1, hb2, hlim, meetP, meet, hh']
        · simp [lsPathFrom_0, ht.1, ht', hi, hw, h0, meetP])
      (fun k st hI => by simp [lsPathFrom_0, ht.1, ht']) (st := (met0 g.1.length, List.replicate g.1.length 0)) (met0_ok _) (by simp)
    have hS := startP_ok hg ht0
    have e4 : ∀ (k : Int) (st : Pst), Met g.1.length st.1 → st.2.length = g.1.length → ∀ (j : Nat) (hj : j < st.1.1.length), (k = (j : Int)) →
        lsPathFrom_4 N N (n, g, k, refsOf g st.1.1[j], (0 : Int), st.1.1, st.2, st.1.2, ()) = some (n, g, k, ((refsOf g st.1.1[j]).foldl (meetP st.1.1[j]) st).1.1, ((refsOf g st.1.1[j]).foldl (meetP st.1.1[j]) st).2, ((refsOf g st.1.1[j]).foldl (meetP st.1.1[j]) st).1.2, ()) := by
      intro k st hst hs2 j hj hkj
      subst hkj
      have hr := hst.rng _ (List.getElem_mem hj)
      have hr' : st.1.1[j].toNat < g.1.length := by omega
      have hsm : (refsOf g st.1.1[j]).length ≤ lim := by
        unfold refsOf; rw [getD_lt hr']; exact sm_lim (hs.2.1 _ (List.getElem_mem hr')).1
      have pre : ∀ (st' : Pst), st.1.1 <+: st'.1.1 → ∃ h : j < st'.1.1.length, st'.1.1[j] = st.1.1[j] := fun st' hp => ⟨Nat.lt_of_lt_of_le hj hp.length_le, (hp.getElem hj).symm⟩
      have := (fold_loop (xs := refsOf g st.1.1[j]) (n := N) (meetP st.1.1[j]) (fun _ st' => Met g.1.length st'.1 ∧ st'.2.length = g.1.length ∧ st.1.1 <+: st'.1.1)
        (L := fun k i st' => lsPathFrom_4 N k (n, g, (j : Int), refsOf g st.1.1[j], (i : Int), st'.1.1, st'.2, st'.1.2, ())) (fin := fun st' => (n, g, (j : Int), st'.1.1, st'.2, st'.1.2, ())) hsm
        (fun k i st' hi hw hI => by
          obtain ⟨hI1, hI2, hI3⟩ := hI
          have hx := refs_rng hg st.1.1[j] _ (List.getElem_mem hi)
          obtain ⟨hjl, hje⟩ := pre st' hI3
          have hlim : st'.1.1.length + 1 ≤ lim := by have := hI1.le; rw [lim_eq]; omega
          refine ⟨?_, by rw [meetP_fst]; exact hI1.meet hx, by rw [meetP_len]; exact hI2, hI3.trans (by rw [meetP_fst]; exact meet_pre _ _)⟩
          by_cases h0 : 0 ≤ (refsOf g st.1.1[j])[i]
          · have hb1 : (refsOf g st.1.1[j])[i].toNat < st'.1.2.length := by have := hI1.len; omega
            have hb2 : (refsOf g st.1.1[j])[i].toNat < st'.2.length := by omega
            cases hh : st'.1.2.getD (refsOf g st.1.1[j])[i].toNat false with
            | false =>
              have hh' := hh
              rw [getD_lt hb1] at hh'
              simp [lsPathFrom_4, hi, hw, h0, hb1, hb2, hlim, meetP, meet, hh', hjl, hje]
            | true =>
              have hh' := hh
              rw [getD_lt hb1] at hh'
              simp [lsPathFrom_4, hi, hw, h0, hb1, hb2, hlim, meetP, meet, hh', hjl, hje]
          · simp [lsPathFrom_4, hi, hw, h0, meetP])
        (fun k st' hI => by simp [lsPathFrom_4]) (by omega) (s := st) ⟨hst, hs2, List.prefix_refl _⟩).1
      simpa using this
    have e2 := walkP_loop hN (R := refsOf g) (m := g.1.length) (fun r _ _ => refs_rng hg r) hg'.1 (L := fun k i st => lsPathFrom_2 N k (n, g, (i : Int), st.1.1, st.2, st.1.2, ())) (fin := fun st => (n, st.2, st.1.2, ()))
      (fun k i st hi hw hI hI2 => by
        have hr := hI.rng _ (List.getElem_mem hi)
        have hr' : st.1.1[i].toNat < g.1.length := by omega
        have e := e4 (i : Int) st hI hI2 i hi rfl
        simp only [refsOf, getD_lt hr'] at e ⊢
        simp [lsPathFrom_2, hi, hw, hr.1, hr', e])
      (fun k i st hi hI _ => by simp [lsPathFrom_2, hi]) hS.met hS.len
    have hB := bfs_ok hg ht0
    simp only [Int.natCast_zero] at e0 e2
    have es : g.2.1[t.toNat].foldl (meetP (-1)) (met0 g.1.length, List.replicate g.1.length 0) = startP g t := by unfold startP; rw [getD_lt ht']
    rw [es] at e0
    have ew : walkP (refsOf g) (g.1.length + 1) 0 (startP g t) = bfs g t := rfl
    rw [ew] at e2
    simp only [met0] at e0
    have hnl : n.toNat < (bfs g t).1.2.length := by rw [hB.met.len]; omega
    simp only [Int.natCast_nonneg, decide_true, cond_true, Int.toNat_natCast, hl, e0, Option.bind_some, e2, hn.1, hnl]
    by_cases hh : (bfs g t).1.2.getD n.toNat false = true
    · have hm := (hB.met.had n hn.1).1 hh
      obtain ⟨k, hk, hke⟩ := List.getElem_of_mem hm
      have hle := hB.met.le
      have eb := back_loop hN hB hg'.1 (L := fun k x acc => lsPathFrom_6 N k (x, (bfs g t).2, acc, ()))
        (fun k x acc hx hx' hl' => by
          have hl'' : 1 + acc.length ≤ lim := by omega
          simp [lsPathFrom_6, hx, hx', hl''])
        (fun k x acc hx => by
          have : ¬ 0 ≤ x := by omega
          simp [lsPathFrom_6, this]) k hk N [] (by rw [lim_eq] at hN; omega) (by rw [lim_eq]; simp; omega)
      rw [hke] at eb
      obtain ⟨c, hc⟩ := hB.way k hk
      rw [hke] at hc
      have e1 := hc.back N [] (by rw [lim_eq] at hN; omega)
      have e3 := hc.back (g.1.length + 2) [] (by omega)
      rw [e1] at eb
      simp only [pathOf, hg, ht0, hn0, hh, and_self, if_true, e3, bif_neg, cond_true, eb, Option.bind_some]
    · have hf : (bfs g t).1.2.getD n.toNat false = false := by simpa using hh
      simp [-List.getD_eq_getElem?_getD, pathOf, hf]
  · have hp : pathOf g t n = (false, []) := by
      unfold pathOf
      rw [if_neg (fun h => hc ⟨h.1, h.2.1, h.2.2.1⟩)]
    rw [hp]
    cases hg : okG g with
    | false => simp [sGraphOk_ok hN hs, hg]
    | true =>
      by_cases h1 : t < 0
      · simp [sGraphOk_ok hN hs, hg, h1]
      by_cases h2 : (g.2.1.length : Int) ≤ t
      · simp [sGraphOk_ok hN hs, hg, h1, h2]
      by_cases h3 : n < 0
      · simp [sGraphOk_ok hN hs, hg, h1, h2, h3]
      by_cases h4 : (g.1.length : Int) ≤ n
      · simp [sGraphOk_ok hN hs, hg, h1, h2, h3, h4]
      exact absurd ⟨hg, by unfold inG; omega, by unfold inG; omega⟩ hc
end
section
variable {N : Nat} (hN : lim < N)
include hN

theorem sDrawPath_loop {b : List Int} (hb : byteL b) {g : Gr} (hs : smG g) (h1 : 1 ≤ g.1.length) : ∀ (n i : Nat) (t m p : Int), 12 - i < n → i ≤ 12 → 0 ≤ p → p < 2000000 + 10 * i →
    Ret (lsDrawPathFrom_0 N n (t, m, (i : Int), b, p, g.1, g.2.1, g.2.2.1, ())) (fun r => (∃ t' m' p', r = .inl (t', m', b, p', g) ∧ 0 ≤ p' ∧ p' < 3000000) ∨ ∃ t' m', r = .inr (t', m', g))
  | 0, _, _, _, _, h, _, _, _ => absurd h (Nat.not_lt_zero _)
  | n + 1, i, t, m, p, hn, hi, hp, hp' => by
    unfold lsDrawPathFrom_0
    dsimp only
    refine Ret.bind (fun o => (∃ p', o = .inl (t, m, b, p', g.1, g.2.1, g.2.2.1, ()) ∧ 0 ≤ p' ∧ p' < 3000000) ∨ ∃ v p' w, (i : Int) < 12 ∧ o = .inr (t, m, (i : Int), v, w, b, p', g.1, g.2.1, g.2.2.1, ()) ∧ 0 ≤ p' ∧ p' ≤ p + 1) ?_ (fun o ho => ?_)
    · refine Ret.dec (fun h => ?_) (fun h => ?_)
      · refine pick_bind hb (by omega) (by omega) (fun v v0 v1 => ?_)
        dsimp only
        refine Ret.dec (fun h2 => ?_) (fun h2 => ?_)
        · exact Ret.pure (.inr ⟨_, _, _, h, rfl, by omega, by omega⟩)
        · exact Ret.pure (.inl ⟨_, rfl, by omega, by omega⟩)
      · exact Ret.pure (.inl ⟨_, rfl, by omega, by omega⟩)
    rcases ho with ⟨p', rfl, q1, q2⟩ | ⟨v, p', w, hi12, rfl, q1, q2⟩
    · exact Ret.pure (.inl ⟨t, m, p', rfl, q1, q2⟩)
    · dsimp only [Sum.elim_inr]
      refine Ret.bindE (sPathFrom_ok hN (g := g) hs t m) ?_
      dsimp only
      refine Ret.bind (fun o => (∃ w' v', o = .inl (t, (i : Int), v', w', b, p', g.1, g.2.1, g.2.2.1, ())) ∨ o = .inr (t, m, g.1, g.2.1, g.2.2.1, ())) ?_ (fun o ho => ?_)
      · refine Ret.bif (fun _ => Ret.dec (fun _ => Ret.pure (.inr rfl)) (fun _ => Ret.pure (.inl ⟨_, _, rfl⟩))) (fun _ => Ret.pure (.inl ⟨_, _, rfl⟩))
      · rcases ho with ⟨w', v', rfl⟩ | rfl
        · dsimp only [Sum.elim_inl]
          refine pick_bind hb (by omega) (by omega) (fun m' m0 m1 => ?_)
          dsimp only
          have hw : w64 ((i : Int) + 1) = ((i + 1 : Nat) : Int) := w64_succ (by omega)
          rw [hw]
          exact sDrawPath_loop hb hs h1 n (i + 1) t m' (p' + 1) (by omega) (by omega) (by omega) (by omega)
        · exact Ret.pure (.inr ⟨t, m, rfl⟩)

theorem sDrawPathFrom_ok {code : List Int} (hb : ∀ x ∈ code, 0 ≤ x ∧ x < 256) : ∃ t n g, FsDrawPathFrom N (code, ()) = some (t, n, g) ∧ smG g := by
  obtain ⟨b, e, hb'⟩ := sl1Open_ok hN hb
  have hN' : 2147483648 < N := by rw [lim_eq] at hN; exact hN
  have key : Ret (FsDrawPathFrom N (code, ())) (fun r => smG r.2.2) := by
    unfold FsDrawPathFrom
    dsimp only
    refine Ret.bindE e ?_
    refine Ret.bind _ (l20Graph_ok hN hb' (p := 0) (by omega) (by omega)) (fun r hr => ?_)
    obtain ⟨ns, rs, ps, b2, p, ⟨⟩⟩ := r
    obtain ⟨hs, hl1, hl2, hb2, hp1, hp2⟩ := hr
    dsimp only at hb2 hp1 hp2 hl1 hl2 hs ⊢
    subst hb2
    refine pick_bind hb' (by omega) (by omega) (fun t t0 t1 => ?_)
    dsimp only
    refine pick_bind hb' (by omega) (by omega) (fun m m0 m1 => ?_)
    dsimp only
    have hl := sDrawPath_loop hN hb' (g := (ns, rs, ps, ())) hs hl1 N 0 t m (p + 1 + 1) (by omega) (by omega) (by omega) (by omega)
    refine Ret.bind _ hl (fun o ho => ?_)
    rcases ho with ⟨t', m', p', rfl, q1, q2⟩ | ⟨t', m', rfl⟩
    · dsimp only [Sum.elim_inl]
      refine Ret.bind (fun o => ∃ t m, o = (t, m, ns, rs, ps, ())) ?_ (fun o ho => ?_)
      · refine pick_bind hb' (by omega) (by omega) (fun v v0 v1 => ?_)
        dsimp only
        refine Ret.beq (fun _ => ?_) (fun _ => Ret.pure ⟨_, _, rfl⟩)
        refine pick_bind hb' (by omega) (by omega) (fun v v0 v1 => ?_)
        dsimp only
        refine pick_bind hb' (by omega) (by omega) (fun v v0 v1 => ?_)
        exact Ret.pure ⟨_, _, rfl⟩
      · obtain ⟨t, m, rfl⟩ := ho
        exact Ret.pure hs
    · exact Ret.pure hs
  obtain ⟨⟨t, n, g⟩, e, h⟩ := key
  exact ⟨t, n, g, e, h⟩
end
section
variable {N : Nat} (hN : lim < N)
include hN

theorem leads_ok {g : Gr} {xs : List Int} {low : Int} (hl : xs.length ≤ lim) :
    FiGraph_leads N (g, xs, low, ()) = some (xs.all fun x => decide (low ≤ x) && decide (x < (g.1.length : Int)), ()) := by
  have hL := find_loop (xs := xs) (n := N) (fun x => decide (x < low) || decide (x ≥ (g.1.length : Int))) (L := fun n i => lkIndexFunc_Sint_int_iGraph_leads_1_0 N n (xs, low, g, (xs.length : Int), (i : Int), ()))
    (yes := fun i => .inr ((i : Int), ())) (no := .inl ()) hl
    (fun n i h hw hq => by
      simp at hq
      simp [lkIndexFunc_Sint_int_iGraph_leads_1_0, FiGraph_leads_1, h, hw, Int.not_lt.2 hq.1, Int.not_le.2 hq.2])
    (fun n i h hq => by
      by_cases h1 : xs[i] < low
      · simp [lkIndexFunc_Sint_int_iGraph_leads_1_0, FiGraph_leads_1, h, h1]
      · simp [h1] at hq
        simp [lkIndexFunc_Sint_int_iGraph_leads_1_0, FiGraph_leads_1, h, h1, hq])
    (fun n => by simp [lkIndexFunc_Sint_int_iGraph_leads_1_0]) (by omega)
  simp only [Int.natCast_zero] at hL
  simp only [FiGraph_leads, FkContainsFunc_Sint_int_iGraph_leads_1, FkIndexFunc_Sint_int_iGraph_leads_1, hL]
  cases hf : xs.findIdx? (fun x => decide (x < low) || decide (x ≥ (g.1.length : Int))) with
  | none =>
    have : (xs.all fun x => decide (low ≤ x) && decide (x < (g.1.length : Int))) = true := by
      rw [List.findIdx?_eq_none_iff] at hf
      rw [List.all_eq_true]
      intro x hx
      have := hf x hx
      simp at this ⊢
      omega
    simp [this]
  | some i =>
    have : (xs.all fun x => decide (low ≤ x) && decide (x < (g.1.length : Int))) = false := by
      rw [List.findIdx?_eq_some_iff_getElem] at hf
      obtain ⟨h, h1, _⟩ := hf
      rw [List.all_eq_false]
      refine ⟨_, List.getElem_mem h, ?_⟩
      simp at h1 ⊢
      omega
    simp [this]

theorem leads1_ok {g : Gr} {xs : List Int} (hl : xs.length ≤ lim) : FiGraph_leads N (g, xs, -1, ()) = some (okR g.1.length xs, ()) := leads_ok hN hl

theorem iGraphOk_ok {g : Gr} (hs : smG g) : FiGraphOk N (g, ()) = some (okG g, ()) := by
  obtain ⟨a1, a2, a3, a4, a5⟩ := hs
  have h1 := all_loop (xs := g.1) (n := N) (okN g.1.length) (L := fun n i => liGraphOk_0 N n (g, g.1, (g.1.length : Int), (i : Int), ())) (yes := .inl (g, ())) (no := .inr (false, ())) (sm_lim a1)
    (fun n i h hw hq => by
      simp [okN] at hq
      simp [liGraphOk_0, h, hw, leads1_ok hN (sm_lim (a2 _ (List.getElem_mem h)).1), hq, Nat.not_lt.2 hq.1, Nat.not_lt.2 hq.2.1]
      )
    (fun n i h hq => by
      simp only [liGraphOk_0, leads1_ok hN (sm_lim (a2 _ (List.getElem_mem h)).1), getD_lt h, Int.toNat_natCast]
      simp only [okN] at hq
      by_cases h1 : g.1[i].1.length ≤ 4 <;> by_cases h2 : g.1[i].2.1.length ≤ 4 <;> simp_all)
    (fun n => by simp [liGraphOk_0]) (by have := sm_lim a1; omega)
  have h2 := all_loop (xs := g.2.1) (n := N) (fun r => decide (r.length ≤ 8) && okR g.1.length r) (L := fun n i => liGraphOk_2 N n (g, g.2.1, (g.2.1.length : Int), (i : Int), ())) (yes := .inl ()) (no := .inr (false, ())) (sm_lim a3)
    (fun n i h hw hq => by
      simp at hq
      simp [liGraphOk_2, h, hw, leads1_ok hN (sm_lim (a4 _ (List.getElem_mem h))), hq, Nat.not_lt.2 hq.1])
    (fun n i h hq => by
      simp only [liGraphOk_2, leads1_ok hN (sm_lim (a4 _ (List.getElem_mem h))), getD_lt h, Int.toNat_natCast]
      by_cases h1 : g.2.1[i].length ≤ 8 <;> simp_all)
    (fun n => by simp [liGraphOk_2]) (by have := sm_lim a3; omega)
  simp only [Int.natCast_zero] at h1 h2
  simp only [FiGraphOk, okG]
  have hp : (g.2.2.1.all (fun x => decide (0 ≤ x)) && okR g.1.length g.2.2.1) = g.2.2.1.all fun x => decide (0 ≤ x) && decide (x < (g.1.length : Int)) := by
    rw [Bool.eq_iff_iff]
    simp only [okR, Bool.and_eq_true, List.all_eq_true, decide_eq_true_eq]
    constructor
    · rintro ⟨h1, h2⟩ x hx; exact ⟨h1 x hx, (h2 x hx).2⟩
    · intro h; exact ⟨fun x hx => (h x hx).1, fun x hx => ⟨by have := (h x hx).1; omega, (h x hx).2⟩⟩
  rw [hp]
  by_cases b1 : g.1.length ≤ 200
  · by_cases b2 : 1 ≤ g.2.1.length
    · by_cases b3 : g.2.1.length ≤ 3
      · by_cases b4 : g.2.2.1.length ≤ 8
        · simp only [gt_iff_lt, lit_lt200, lt_lit1, lit_lt3, lit_lt8, Nat.not_lt.2 b1, Nat.not_lt.2 b2, Nat.not_lt.2 b3, Nat.not_lt.2 b4, b1, b2, b3, b4, decide_true, decide_false, cond_false, Option.bind_some, leads_ok hN (sm_lim a5), bif_neg]
          cases g.2.2.1.all fun x => decide (0 ≤ x) && decide (x < (g.1.length : Int))
          · simp
          · simp only [cond_true, Option.bind_some, Sum.elim_inl, h1]
            cases g.1.all (okN g.1.length)
            · simp
            · simp only [cond_true, Option.bind_some, Sum.elim_inl, h2]
              cases g.2.1.all fun r => decide (r.length ≤ 8) && okR g.1.length r <;> simp
        · simp [Nat.not_lt.2 b1, Nat.not_lt.2 b2, Nat.not_lt.2 b3, Nat.not_le.1 b4, b4]
      · simp [Nat.not_lt.2 b1, Nat.not_lt.2 b2, Nat.not_le.1 b3, b3]
    · simp [Nat.not_lt.2 b1, Nat.not_le.1 b2, b2]
  · simp [Nat.not_le.1 b1, b1]

end
theorem obind_eq2 {α β : Type} {o : Option α} {r : α} {k : α → Option β} {z : Option β} (e : o = some r) (h : k r = z) : o.bind k = z := by
  rw [e]; exact h
/-- A map that tells where the met come from. -/
def RelP (p : List (Int × Int)) (st : Pst) : Prop := ∀ r, 0 ≤ r → mget p r = if st.1.2.getD r.toNat false = true then some (st.2.getD r.toNat 0) else none

section
variable {N : Nat} (hN : lim < N)
include hN

theorem kReverse_ok {xs : List Int} (hl : xs.length ≤ lim) : FkReverse_Sint_int N (xs, ()) = some (xs.reverse, ()) := by
  have key : ∀ (n i : Nat) (s : List Int), s.length = xs.length → 2 * i ≤ xs.length + 1 → xs.length - i < n →
      (∀ k (hk : k < xs.length) (hk' : k < s.length), s[k] = if k < i ∨ xs.length - 1 - k < i then xs[xs.length - 1 - k]'(by omega) else xs[k]) →
      lkReverse_Sint_int_0 N n ((i : Int), (xs.length : Int) - 1 - i, s, ()) = some (xs.reverse, ()) := by
    intro n
    induction n with
    | zero => intro i s _ _ h; exact absurd h (Nat.not_lt_zero _)
    | succ n ih =>
      intro i s hs hi2 hn hv
      have hlim : lim = 2147483648 := rfl
      by_cases h : (i : Int) < (xs.length : Int) - 1 - i
      · have j0 : (0 : Int) ≤ (xs.length : Int) - 1 - i := by omega
        have jt : ((xs.length : Int) - 1 - i).toNat = xs.length - 1 - i := by omega
        have jl : xs.length - 1 - i < s.length := by omega
        have il : i < s.length := by omega
        have w1 : w64 ((i : Int) + 1) = ((i + 1 : Nat) : Int) := w64_succ (by omega)
        have w2 : w64 ((xs.length : Int) - 1 - i - 1) = (xs.length : Int) - 1 - ((i + 1 : Nat) : Int) := by rw [w64_id (by omega) (by omega)]; omega
        have := ih (i + 1) ((s.set i s[xs.length - 1 - i]).set (xs.length - 1 - i) s[i]) (by simpa using hs) (by omega) (by omega) (fun k hk hk' => by
          rw [List.getElem_set, List.getElem_set]
          by_cases e1 : xs.length - 1 - i = k
          · subst e1
            rw [if_pos rfl, hv i (by omega) il, if_neg (by omega), if_pos (by omega)]
            congr 1; omega
          · rw [if_neg e1]
            by_cases e2 : i = k
            · subst e2
              rw [if_pos rfl, hv (xs.length - 1 - i) (by omega) jl, if_neg (by omega), if_pos (by omega)]
            · rw [if_neg e2, hv k hk (by omega)]
              by_cases e3 : k < i ∨ xs.length - 1 - k < i
              · rw [if_pos e3, if_pos (by omega)]
              · rw [if_neg e3, if_neg (by omega)])
        simp only [lkReverse_Sint_int_0, w1, w2, jt]
        simp only [h, decide_true, cond_true, j0, jl, Int.natCast_nonneg, Int.toNat_natCast, il, List.length_set, getD_lt jl, getD_lt il]
        exact this
      · have e : s = xs.reverse := by
          apply List.ext_getElem
          · simp [hs]
          · intro k h1 h2
            have hk : k < xs.length := by omega
            rw [hv k hk h1, List.getElem_reverse]
            by_cases e3 : k < i ∨ xs.length - 1 - k < i
            · rw [if_pos e3]
            · rw [if_neg e3]
              congr 1; omega
        simp only [lkReverse_Sint_int_0]
        simp only [h, decide_false, cond_false, e]
  have hlim : lim = 2147483648 := rfl
  have w : w64 ((xs.length : Int) - 1) = (xs.length : Int) - 1 := w64_id (by omega) (by omega)
  have := key N 0 xs rfl (by omega) (by omega) (fun k hk hk' => by rw [if_neg (by omega)])
  simp only [Int.natCast_zero, Int.sub_zero] at this
  simp [FkReverse_Sint_int, w, this]

def stepP (c : Int) (s : List (Int × Int) × Pst) (r : Int) : List (Int × Int) × Pst := (if 0 ≤ r ∧ s.2.1.2.getD r.toNat false = false then mset s.1 r c else s.1, meetP c s.2 r)

omit hN in
theorem stepP_snd (c : Int) (l : List Int) : ∀ s : List (Int × Int) × Pst, (l.foldl (stepP c) s).2 = l.foldl (meetP c) s.2 := by
  induction l with
  | nil => intro s; rfl
  | cons r l ih => intro s; simp only [List.foldl_cons]; rw [ih]; rfl

omit hN in
theorem stepP_rel {m : Nat} {c : Int} {s : List (Int × Int) × Pst} {r : Int} (h : RelP s.1 s.2) (hm : Met m s.2.1) (hl : s.2.2.length = m) (hr : r < (m : Int)) : RelP (stepP c s r).1 (stepP c s r).2 := by
  unfold stepP meetP
  split
  · rename_i hc
    have h1 : r.toNat < s.2.1.2.length := by rw [hm.len]; omega
    have h2 : r.toNat < s.2.2.length := by omega
    intro x hx
    have e1 : (meet s.2.1 r).2 = s.2.1.2.set r.toNat true := by unfold meet; rw [if_pos hc]
    simp only [mget_mset, e1, List.getD_eq_getElem?_getD, List.getElem?_set]
    by_cases e : x = r
    · subst e; simp [h1, h2]
    · have e' : ¬ r.toNat = x.toNat := by omega
      simp only [e, e', if_false]
      have := h x hx
      simpa only [List.getD_eq_getElem?_getD] using this
  · exact h

theorem iPathFrom_1_ok {m : Nat} {c : Int} {xs : List Int} (hx : ∀ x ∈ xs, x < (m : Int)) (hm : m ≤ 200) (hl : xs.length ≤ lim) {s : List (Int × Int) × Pst} (hr : RelP s.1 s.2) (hst : Met m s.2.1) (hs2 : s.2.2.length = m) :
    FiPathFrom_1 N (xs, c, s.1, s.2.1.1, ()) = some ((xs.foldl (stepP c) s).1, (xs.foldl (stepP c) s).2.1.1, ()) ∧ RelP (xs.foldl (stepP c) s).1 (xs.foldl (stepP c) s).2 := by
  obtain ⟨e, hI⟩ := fold_loop (xs := xs) (n := N) (stepP c) (fun _ s => RelP s.1 s.2 ∧ Met m s.2.1 ∧ s.2.2.length = m)
    (L := fun n i s => liPathFrom_1_0 N n (c, xs, (xs.length : Int), (i : Int), s.1, s.2.1.1, ())) (fin := fun s => (s.1, s.2.1.1, ())) hl
    (fun n i s hi hw hI => by
      obtain ⟨h1, h2, h3⟩ := hI
      have hr := hx _ (List.getElem_mem hi)
      have hlim : s.2.1.1.length + 1 ≤ lim := by have := h2.le; rw [lim_eq]; omega
      refine ⟨?_, stepP_rel h1 h2 h3 hr, ?_, ?_⟩
      · by_cases h0 : 0 ≤ xs[i]
        · have hg := h1 _ h0
          cases hh : s.2.1.2.getD xs[i].toNat false with
          | false =>
            rw [hh] at hg
            simp only [Bool.false_eq_true, if_false] at hg
            simp [-List.getD_eq_getElem?_getD, liPathFrom_1_0, hi, hw, h0, hg, hlim, stepP, meetP, meet, hh, getD_lt hi]
          | true =>
            rw [hh] at hg
            simp only [if_true] at hg
            simp [-List.getD_eq_getElem?_getD, liPathFrom_1_0, hi, hw, h0, hg, hlim, stepP, meetP, meet, hh, getD_lt hi]
        · simp [-List.getD_eq_getElem?_getD, liPathFrom_1_0, hi, hw, h0, stepP, meetP, getD_lt hi]
      · show Met m (meetP c s.2 xs[i]).1
        rw [meetP_fst]; exact h2.meet hr
      · show (meetP c s.2 xs[i]).2.length = m
        rw [meetP_len]; exact h3)
    (fun n s hI => by simp [liPathFrom_1_0]) (by omega) ⟨hr, hst, hs2⟩
  simp only [Int.natCast_zero] at e
  exact ⟨by simp [FiPathFrom_1, e], hI.1⟩

theorem iback_loop {m : Nat} {R : Int → List Int} {rs : List Int} {st : Pst} {p : List (Int × Int)} (hp : RelP p st) (h : From m R rs st) (hm : m ≤ 200) :
    ∀ (k : Nat) (hk : k < st.1.1.length) (n : Nat) (acc : List Int), k + 1 < n → acc.length + k + 2 ≤ lim → liPathFrom_2 N n (st.1.1[k], p, acc, ()) = some ((backP st.2 n st.1.1[k] acc.reverse).reverse, ()) := by
  intro k
  induction k using Nat.strongRecOn with
  | _ k ih =>
    intro hk n acc hn hl
    have hr := h.met.rng _ (List.getElem_mem hk)
    have hh := (h.met.had _ hr.1).2 (List.getElem_mem hk)
    have hg := hp _ hr.1
    rw [hh] at hg
    simp only [if_true] at hg
    obtain ⟨n, rfl⟩ : ∃ n', n = n' + 1 := ⟨n - 1, by omega⟩
    have hl' : acc.length + 1 ≤ lim := by omega
    simp only [liPathFrom_2, backP, hr.1, if_true, ge_iff_le, decide_true, cond_true, hg, List.length_singleton, hl', Option.getD_some]
    have erev : st.1.1[k] :: acc.reverse = (acc ++ [st.1.1[k]]).reverse := by simp
    rw [erev]
    rcases h.from' k hk with ⟨e, _⟩ | ⟨j, hj, e, _⟩
    · rw [e]
      obtain ⟨n, rfl⟩ : ∃ n', n = n' + 1 := ⟨n - 1, by omega⟩
      simp [liPathFrom_2, backP]
    · rw [e]
      exact ih j hj (by omega) n _ (by omega) (by simp; omega)

theorem iPathFrom_ok {g : Gr} (hs : smG g) (t n : Int) : FiPathFrom N (g, t, n, ()) = some ((pathOf g t n).1, (pathOf g t n).2, ()) := by
  unfold FiPathFrom
  dsimp only
  by_cases hc : okG g = true ∧ inG t g.2.1.length ∧ inG n g.1.length
  · obtain ⟨hg, ht, hn⟩ := hc
    have ht0 := ht
    have hn0 := hn
    unfold inG at ht hn
    have ht' : t.toNat < g.2.1.length := by omega
    have hg' := okG_iff.1 hg
    have c1 : ¬ t < 0 := by omega
    have c2 : ¬ (g.2.1.length : Int) ≤ t := by omega
    refine obind_eq2 (r := .inl (t, n, g, ())) (by simp [iGraphOk_ok hN hs, hg, c1, c2, FiGraph_hasNode, hn.1, hn.2]) ?_
    dsimp only [Sum.elim_inl]
    obtain ⟨e0, hrel0⟩ := iPathFrom_1_ok hN (m := g.1.length) (c := -1) (xs := g.2.1[t.toNat]) (rootsrng hg _ (List.getElem_mem ht')) hg'.1 (sm_lim (hs.2.2.2.1 _ (List.getElem_mem ht')))
      (s := ([], (met0 g.1.length, List.replicate g.1.length 0))) (fun r hr => by
        have : (met0 g.1.length).2.getD r.toNat false = false := by
          simp only [met0, List.getD_eq_getElem?_getD, List.getElem?_replicate]
          split <;> rfl
        simp only [this, Bool.false_eq_true, if_false]; rfl) (met0_ok _) (by simp)
    have hS := startP_ok hg ht0
    have es : (g.2.1[t.toNat].foldl (stepP (-1)) ([], (met0 g.1.length, List.replicate g.1.length 0))).2 = startP g t := by
      rw [stepP_snd]; unfold startP; rw [getD_lt ht']
    generalize g.2.1[t.toNat].foldl (stepP (-1)) ([], (met0 g.1.length, List.replicate g.1.length 0)) = s0 at e0 hrel0 es
    -- the walk, with the map beside it
    have hwalk : ∀ (k i : Nat) (s : List (Int × Int) × Pst), RelP s.1 s.2 → Met g.1.length s.2.1 → s.2.2.length = g.1.length → i ≤ s.2.1.1.length → g.1.length - i < k →
        ∃ p, liPathFrom_0 N k (n, g, (i : Int), s.1, s.2.1.1, ()) = some (n, p, ()) ∧ RelP p (walkP (refsOf g) (g.1.length + 1 - i) i s.2) := by
      intro k
      induction k with
      | zero => intro i s _ _ _ _ h; exact absurd h (Nat.not_lt_zero _)
      | succ k ih =>
        intro i s h1 h2 h3 hi hk
        have hle := h2.le
        by_cases h : i < s.2.1.1.length
        · have hr := h2.rng _ (List.getElem_mem h)
          have hr' : s.2.1.1[i].toNat < g.1.length := by omega
          have hsm : (refsOf g s.2.1.1[i]).length ≤ lim := by
            unfold refsOf; rw [getD_lt hr']; exact sm_lim (hs.2.1 _ (List.getElem_mem hr')).1
          obtain ⟨e1, hrel⟩ := iPathFrom_1_ok hN (m := g.1.length) (c := s.2.1.1[i]) (xs := refsOf g s.2.1.1[i]) (refs_rng hg _) hg'.1 hsm h1 h2 h3
          have hm2 : Met g.1.length ((refsOf g s.2.1.1[i]).foldl (stepP s.2.1.1[i]) s).2.1 := by
            rw [stepP_snd, meetsP_fst]; exact h2.meets (refs_rng hg _)
          have hl2 : ((refsOf g s.2.1.1[i]).foldl (stepP s.2.1.1[i]) s).2.2.length = g.1.length := by
            rw [stepP_snd, meetsP_len]; exact h3
          have hp2 : s.2.1.1.length ≤ ((refsOf g s.2.1.1[i]).foldl (stepP s.2.1.1[i]) s).2.1.1.length := by
            rw [stepP_snd, meetsP_fst]; exact (meets_pre (l := refsOf g s.2.1.1[i]) (st := s.2.1)).length_le
          obtain ⟨p, e2, hrel2⟩ := ih (i + 1) _ hrel hm2 hl2 (by omega) (by omega)
          refine ⟨p, ?_, ?_⟩
          · have hw : w64 ((i : Int) + 1) = ((i + 1 : Nat) : Int) := w64_succ (by omega)
            simp only [refsOf, getD_lt hr'] at e1 e2
            simp only [liPathFrom_0, hw]
            simp only [Int.ofNat_lt, h, decide_true, cond_true, Int.natCast_nonneg, Int.toNat_natCast, getD_lt h, hr.1, hr', getD_lt hr', e1, Option.bind_some]
            exact e2
          · have e : g.1.length + 1 - i = (g.1.length + 1 - (i + 1)) + 1 := by omega
            rw [e]
            simp only [walkP, h, if_true, getD_lt h]
            rw [stepP_snd] at hrel2
            exact hrel2
        · refine ⟨s.1, by simp [liPathFrom_0, h], ?_⟩
          cases hk2 : g.1.length + 1 - i with
          | zero => exact h1
          | succ k => simp only [walkP, h, if_false]; exact h1
    have hS' : From g.1.length (refsOf g) (g.2.1.getD t.toNat []) s0.2 := by rw [es]; exact hS
    obtain ⟨p, ep, hrel⟩ := hwalk N 0 s0 hrel0 hS'.met hS'.len (by omega) (by rw [lim_eq] at hN; omega)
    rw [es] at hrel
    have hB := bfs_ok hg ht0
    have ew : walkP (refsOf g) (g.1.length + 1 - 0) 0 (startP g t) = bfs g t := rfl
    rw [ew] at hrel
    simp only [Int.natCast_zero] at ep
    simp only [met0] at e0
    simp only [ht.1, decide_true, cond_true, ht', getD_lt ht', e0, Option.bind_some, ep]
    have hgn := hrel n hn.1
    by_cases hh : (bfs g t).1.2.getD n.toNat false = true
    · have hm := (hB.met.had n hn.1).1 hh
      obtain ⟨k, hk, hke⟩ := List.getElem_of_mem hm
      have hle := hB.met.le
      have eb := iback_loop hN hrel hB hg'.1 k hk N [] (by rw [lim_eq] at hN; omega) (by rw [lim_eq]; simp; omega)
      rw [hke] at eb
      obtain ⟨c, hc⟩ := hB.way k hk
      rw [hke] at hc
      have e1 := hc.back N [] (by rw [lim_eq] at hN; omega)
      have e3 := hc.back (g.1.length + 2) [] (by omega)
      rw [List.reverse_nil, e1, List.append_nil] at eb
      rw [hh] at hgn
      simp only [if_true] at hgn
      have hcl := hc.len
      have hrv := kReverse_ok hN (xs := c.reverse) (by rw [lim_eq]; simp; omega)
      simp only [hgn, Option.isSome_some, Bool.not_true, cond_false, eb, Option.bind_some, hrv, List.reverse_reverse]
      simp only [pathOf, hg, ht0, hn0, hh, and_self, if_true, e3, List.append_nil]
    · have hf : (bfs g t).1.2.getD n.toNat false = false := by simpa using hh
      rw [hf] at hgn
      simp only [Bool.false_eq_true, if_false] at hgn
      simp [-List.getD_eq_getElem?_getD, pathOf, hf, hgn]
  · have hp : pathOf g t n = (false, []) := by
      unfold pathOf
      rw [if_neg (fun h => hc ⟨h.1, h.2.1, h.2.2.1⟩)]
    rw [hp]
    cases hg : okG g with
    | false => simp [iGraphOk_ok hN hs, hg]
    | true =>
      by_cases h1 : t < 0
      · simp [iGraphOk_ok hN hs, hg, h1]
      by_cases h2 : (g.2.1.length : Int) ≤ t
      · simp [iGraphOk_ok hN hs, hg, h1, h2]
      by_cases h3 : 0 ≤ n
      · by_cases h4 : n < (g.1.length : Int)
        · exact absurd ⟨hg, by unfold inG; omega, by unfold inG; omega⟩ hc
        · simp [iGraphOk_ok hN hs, hg, h1, h2, h3, h4, FiGraph_hasNode]
      · simp [iGraphOk_ok hN hs, hg, h1, h2, h3, FiGraph_hasNode]
end
section
variable {N : Nat} (hN : lim < N)
include hN

theorem pathOf_len (g : Gr) (t n : Int) : (pathOf g t n).2.length ≤ 201 := by
  by_cases h : (pathOf g t n).1 = true
  · obtain ⟨hg, _, _, k, hk, hw⟩ := pathOf_way h
    have := hw.len
    have := (okG_iff.1 hg).1
    omega
  · unfold pathOf at h ⊢
    split
    · rename_i hc; rw [if_pos hc] at h; exact absurd rfl h
    · simp

theorem FnPathBegins_ok {code : List Int} (hb : ∀ x ∈ code, 0 ≤ x ∧ x < 256) : FvFnPathBegins N (code, ()) = some (true, ()) := by
  by_cases hc : (code.length : Int) > 1048576
  · have hc' : 1048576 < code.length := by omega
    simp [FvFnPathBegins, hc']
  · have hc' : ¬ 1048576 < code.length := by omega
    obtain ⟨t, n, g, e, hs⟩ := sDrawPathFrom_ok hN hb
    obtain ⟨ns, rs, ps, ⟨⟩⟩ := g
    have hpl := pathOf_len hN (ns, rs, ps, ()) t n
    have hlim : (pathOf (ns, rs, ps, ()) t n).2.length ≤ lim := by rw [lim_eq]; omega
    have hL := all_loop (xs := (pathOf (ns, rs, ps, ()) t n).2) (n := N) (fun _ => true) (L := fun k i => lvFnPathBegins_0 N k (t, (pathOf (ns, rs, ps, ()) t n).1, (i : Int), ns, rs, ps, (pathOf (ns, rs, ps, ()) t n).2, ()))
      (yes := .inl ((pathOf (ns, rs, ps, ()) t n).1, (pathOf (ns, rs, ps, ()) t n).2, ())) (no := .inr (false, ())) hlim
      (fun k i hi hw _ => by
        have hf : (pathOf (ns, rs, ps, ()) t n).1 = true := by
          cases h : (pathOf (ns, rs, ps, ()) t n).1 with
          | true => rfl
          | false =>
            exfalso
            unfold pathOf at hi h
            split at h
            · cases h
            · rename_i hc; rw [if_neg hc] at hi; simp at hi
        have hp := pathOf_pre hf (List.getElem?_eq_getElem hi)
        have e1 := iPathFrom_ok hN hs t (pathOf (ns, rs, ps, ()) t n).2[i]
        rw [hp] at e1
        have h1 : ((i + 1 : Nat) : Int) ≤ ((pathOf (ns, rs, ps, ()) t n).2.length : Int) := by omega
        have h2 : (0 : Int) ≤ ((i + 1 : Nat) : Int) := by omega
        have h3 : ((pathOf (ns, rs, ps, ()) t n).2.take (i + 1)).length ≤ lim := by simp; omega
        simp only [lvFnPathBegins_0, hw]
        simp only [Int.ofNat_lt, hi, decide_true, cond_true, Int.natCast_nonneg, Int.toNat_natCast, getD_lt hi, e1, Option.bind_some, Bool.not_true, cond_false, h1, h2, Int.le_refl, List.drop_zero, Int.toNat_zero, Nat.sub_zero]
        rw [vflInts_ok hN h3]
        simp)
      (fun k i hi hq => by cases hq)
      (fun k => by simp [lvFnPathBegins_0]) (by omega)
    have hall : (pathOf (ns, rs, ps, ()) t n).2.all (fun _ => true) = true := by simp
    rw [hall] at hL
    simp only [Int.natCast_zero, cond_true] at hL
    have hend : ((pathOf (ns, rs, ps, ()) t n).1 == decide (0 < (pathOf (ns, rs, ps, ()) t n).2.length)) = true := by
      cases h : (pathOf (ns, rs, ps, ()) t n).1 with
      | true =>
        obtain ⟨_, _, _, k, _, hw⟩ := pathOf_way h
        simp [hw.ne]
      | false =>
        have : (pathOf (ns, rs, ps, ()) t n).2 = [] := by
          unfold pathOf at h ⊢
          split
          · rename_i hc; rw [if_pos hc] at h; cases h
          · rfl
        simp [this]
    simp only [FvFnPathBegins, e, iPathFrom_ok hN hs, sPathFrom_ok hN hs, vflInts_ok hN hlim, hL, Option.bind_some]
    simp [hc', hL]
    simpa using hend
end
end Go.Fl
