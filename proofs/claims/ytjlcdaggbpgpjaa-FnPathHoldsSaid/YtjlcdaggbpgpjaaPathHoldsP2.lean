/- Proved: for every input the law FnPathHolds returns true and leaves its arguments as they were. Part 2: the functions that the law reaches, as plain functions, and plain laws about them; no conditions. -/
import Derived.Test.YtjlcdaggbpgpjaaPathHoldsP1
set_option linter.all false
set_option linter.all false
set_option maxRecDepth 10000
namespace Go.Fl
open Go

/-- A law's inputs are at most so large. -/
abbrev sm (n : Nat) : Prop := n ≤ 1048576

abbrev Nd := List Int × List Int × Unit

abbrev Gr := List Nd × List (List Int) × List Int × Unit

def smN (x : Nd) : Prop := sm x.1.length ∧ sm x.2.1.length

def smG (g : Gr) : Prop := sm g.1.length ∧ (∀ x ∈ g.1, smN x) ∧ sm g.2.1.length ∧ (∀ x ∈ g.2.1, sm x.length) ∧ sm g.2.2.1.length

abbrev ml (n : Nat) : Prop := n ≤ 9223372036854775807

def mlN (x : Nd) : Prop := ml x.1.length ∧ ml x.2.1.length

def mlG (g : Gr) : Prop := ml g.1.length ∧ (∀ x ∈ g.1, mlN x) ∧ ml g.2.1.length ∧ (∀ x ∈ g.2.1, ml x.length) ∧ ml g.2.2.1.length

/-- A loop that tells what is left, or stops. -/
theorem size_loop {α : Type} {xs : List α} (P : α → Prop) {L : Nat → Nat → Int → Option ((Int × Unit) ⊕ (Int × Unit))} (hl : xs.length ≤ lim)
    (h1 : ∀ n i (h : i < xs.length) (left : Int), 0 ≤ left → left ≤ 1048576 → w64 ((i : Int) + 1) = ((i + 1 : Nat) : Int) →
      L (n + 1) i left = some (.inr (-1, ())) ∨ ∃ r, 0 ≤ r ∧ r ≤ left ∧ P xs[i] ∧ L (n + 1) i left = L n (i + 1) r)
    (h3 : ∀ n left, L (n + 1) xs.length left = some (.inl (left, ()))) {n : Nat} (hn : xs.length < n) {left : Int} (h0 : 0 ≤ left) (h1' : left ≤ 1048576) :
    L n 0 left = some (.inr (-1, ())) ∨ ∃ r, 0 ≤ r ∧ r ≤ left ∧ (∀ x ∈ xs, P x) ∧ L n 0 left = some (.inl (r, ())) := by
  have key : ∀ n i left, 0 ≤ left → left ≤ 1048576 → i ≤ xs.length → xs.length - i < n → L n i left = some (.inr (-1, ())) ∨ ∃ r, 0 ≤ r ∧ r ≤ left ∧ (∀ x ∈ xs.drop i, P x) ∧ L n i left = some (.inl (r, ())) := by
    intro n
    induction n with
    | zero => intro i left _ _ _ h; exact absurd h (Nat.not_lt_zero _)
    | succ n ih =>
      intro i left h0 h2 hi hn
      by_cases h : i < xs.length
      · rcases h1 n i h left h0 h2 (w64_succ (by have : lim = 2147483648 := rfl; omega)) with h4 | ⟨r, h4, h5, h6, h7⟩
        · exact .inl h4
        · rw [h7]
          rcases ih (i + 1) r h4 (by omega) (by omega) (by omega) with h8 | ⟨q, h8, h9, h10, h11⟩
          · exact .inl h8
          · refine .inr ⟨q, h8, by omega, ?_, h11⟩
            rw [drop_at h]
            exact List.forall_mem_cons.2 ⟨h6, h10⟩
      · have : i = xs.length := by omega
        subst this
        exact .inr ⟨left, h0, Int.le_refl _, by simp, h3 _ _⟩
  simpa using key n 0 left h0 h1' (by omega) (by omega)

theorem sm_lim {n : Nat} (h : sm n) : n ≤ lim := by simp only [sm] at h; rw [lim_eq]; omega


theorem wf_u8 {n : Int} (h : (Lit.int .u8 n).wf = true) : 0 ≤ n ∧ n < 256 := by
  simp only [Lit.wf, IntKind.min, IntKind.max, IntKind.signed, IntKind.bits] at h
  simp at h
  omega
theorem wf_i64 {n : Int} (h : (Lit.int .i64 n).wf = true) : -9223372036854775808 ≤ n ∧ n < 9223372036854775808 := by
  simp only [Lit.wf, IntKind.min, IntKind.max, IntKind.signed, IntKind.bits] at h
  simp at h
  omega

/-- It comes to an end, and what it comes to is so. -/
def Ret {α : Type} (o : Option α) (P : α → Prop) : Prop := ∃ r, o = some r ∧ P r

theorem Ret.pure {α : Type} {a : α} {P : α → Prop} (h : P a) : Ret (some a) P := ⟨a, rfl, h⟩
theorem Ret.bind {α β : Type} {o : Option α} {k : α → Option β} {P : β → Prop} (Q : α → Prop) (h : Ret o Q) (hk : ∀ r, Q r → Ret (k r) P) : Ret (o.bind k) P := by
  obtain ⟨r, e, hr⟩ := h
  rw [e]
  exact hk r hr
theorem Ret.bindE {α β : Type} {o : Option α} {k : α → Option β} {P : β → Prop} {r : α} (e : o = some r) (hk : Ret (k r) P) : Ret (o.bind k) P := by
  rw [e]; exact hk
theorem Ret.mono {α : Type} {o : Option α} {P Q : α → Prop} (h : Ret o P) (hm : ∀ r, P r → Q r) : Ret o Q := by
  obtain ⟨r, e, hr⟩ := h; exact ⟨r, e, hm r hr⟩
theorem Ret.bif {α : Type} {c : Bool} {a b : Option α} {P : α → Prop} (h1 : c = true → Ret a P) (h2 : c = false → Ret b P) : Ret (bif c then a else b) P := by
  cases c with
  | true => exact h1 rfl
  | false => exact h2 rfl
theorem Ret.dec {α : Type} {p : Prop} [Decidable p] {a b : Option α} {P : α → Prop} (h1 : p → Ret a P) (h2 : ¬ p → Ret b P) : Ret (_root_.cond (decide p) a b) P := by
  by_cases h : p
  · simpa [h] using h1 h
  · simpa [h] using h2 h
theorem Ret.guard {α : Type} {p : Prop} [Decidable p] {a : Option α} {P : α → Prop} (hp : p) (h : Ret a P) : Ret (_root_.cond (decide p) a none) P := by
  simpa [hp] using h
theorem Ret.guardN {α : Type} {p : Prop} [Decidable p] {a : Option α} {P : α → Prop} (hp : ¬ p) (h : Ret a P) : Ret (_root_.cond (decide p) none a) P := by
  simpa [hp] using h
theorem Ret.beq {α β : Type} [DecidableEq β] {x y : β} {a b : Option α} {P : α → Prop} (h1 : x = y → Ret a P) (h2 : ¬ x = y → Ret b P) : Ret (_root_.cond (x == y) a b) P := by
  rw [bif_beq]
  by_cases h : x = y
  · simpa [h] using h1 h
  · simpa [h] using h2 h
theorem obind_eq {α β : Type} {o : Option α} {r : α} {k : α → Option β} {z : Option β} (e : o = some r) (h : k r = z) : o.bind k = z := by
  rw [e]; exact h

/-- What a code is: bytes. -/
def byteL (b : List Int) : Prop := b.length ≤ 2000 ∧ ∀ x ∈ b, 0 ≤ x ∧ x < 256

theorem xor_rng {x y : Int} (hx : 0 ≤ x) (hx' : x < 9223372036854775808) (hy : 0 ≤ y) (hy' : y < 9223372036854775808) :
    0 ≤ w64 (((bitsOf .i64 x ^^^ bitsOf .i64 y).toNat : Int)) := by
  have h1 : (bitsOf .i64 x).toNat < 2 ^ 63 := by
    simp only [bitsOf, IntKind.bits, BitVec.toNat_ofInt]; omega
  have h2 : (bitsOf .i64 y).toNat < 2 ^ 63 := by
    simp only [bitsOf, IntKind.bits, BitVec.toNat_ofInt]; omega
  have h3 : (bitsOf .i64 x ^^^ bitsOf .i64 y).toNat < 2 ^ 63 := by
    rw [BitVec.toNat_xor]
    exact Nat.xor_lt_two_pow h1 h2
  rw [w64_id (by omega) (by omega)]
  omega

theorem tmod_rng {x n : Int} (hx : 0 ≤ x) (hn : 1 ≤ n) : 0 ≤ Int.tmod x n ∧ Int.tmod x n < n := by
  rw [Int.tmod_eq_emod_of_nonneg hx]
  exact ⟨Int.emod_nonneg _ (by omega), Int.emod_lt_of_pos _ (by omega)⟩

section
variable {N : Nat}

theorem pick_ok {b : List Int} {p n : Int} (hb : byteL b) (hp : 0 ≤ p) (hp' : p < 1099511627776) :
    ∃ v, Fsl1Rd_pick N (n, b, p, ()) = some (v, b, p + 1, ()) ∧ 0 ≤ v ∧ (v < n ∨ v = 0) := by
  obtain ⟨hl, hx⟩ := hb
  have e1 : w64 (p + 1) = p + 1 := w64_id (by omega) (by omega)
  have e2 : w64 (p + 1 - 1) = p := by rw [w64_id (by omega) (by omega)]; omega
  simp only [Fsl1Rd_pick, e1]
  by_cases hn : n < 1
  · exact ⟨0, by simp [hn], by omega, .inr rfl⟩
  · have hn' : ¬ n = 0 := by omega
    by_cases h0 : b.length = 0
    · have : (b.length : Int) = 0 := by omega
      exact ⟨0, by simp [hn, this], by omega, .inr rfl⟩
    · have h0' : ¬ (b.length : Int) = 0 := by omega
      simp only [hn, decide_false, cond_false, bif_beq, h0', if_false, Option.bind_some, Sum.elim_inl, e2]
      by_cases hk : p < (b.length : Int)
      · have hk' : p.toNat < b.length := by omega
        have := hx _ (List.getElem_mem hk')
        simp only [hk, decide_true, cond_true, hp, hk', getD_lt hk', hn', decide_false, cond_false]
        rw [w64_id (by omega) (by omega)]
        exact ⟨_, rfl, (tmod_rng this.1 (by omega)).1, .inl (tmod_rng this.1 (by omega)).2⟩
      · obtain ⟨a1, a2⟩ := tmod_rng hp (n := (b.length : Int)) (by omega)
        have a3 : (Int.tmod p b.length).toNat < b.length := by omega
        have a4 := hx _ (List.getElem_mem a3)
        have e3 : w64 (p * 7) = p * 7 := w64_id (by omega) (by omega)
        have e4 : w64 (p * 7 + 3) = p * 7 + 3 := w64_id (by omega) (by omega)
        obtain ⟨c1, c2⟩ := tmod_rng (x := p * 7 + 3) (by omega) (n := (b.length : Int)) (by omega)
        have c3 : (Int.tmod (p * 7 + 3) b.length).toNat < b.length := by omega
        have c4 := hx _ (List.getElem_mem c3)
        have e5 : w64 (p * 29) = p * 29 := w64_id (by omega) (by omega)
        have d0 : 0 ≤ Int.tdiv p b.length ∧ Int.tdiv p b.length ≤ p := by
          rw [Int.tdiv_eq_ediv_of_nonneg hp]
          exact ⟨Int.ediv_nonneg hp (by omega), Int.ediv_le_self _ hp⟩
        have e6 : w64 (Int.tdiv p b.length) = Int.tdiv p b.length := w64_id (by omega) (by omega)
        simp only [hk, decide_false, cond_false, h0', a1, a3, decide_true, cond_true, getD_lt a3, e3, e4, c1, c3, getD_lt c3, e5, e6]
        generalize b[(Int.tmod p b.length).toNat] = u at a4 ⊢
        generalize b[(Int.tmod (p * 7 + 3) b.length).toNat] = v at c4 ⊢
        generalize Int.tdiv p b.length = q at d0 ⊢
        have f1 : w64 u = u := w64_id (by omega) (by omega)
        have f2 : w64 v = v := w64_id (by omega) (by omega)
        have f3 : w64 (u * 131) = u * 131 := w64_id (by omega) (by omega)
        have f4 : w64 (v * 1117) = v * 1117 := w64_id (by omega) (by omega)
        have f5 : w64 (u * 131 + v * 1117) = u * 131 + v * 1117 := w64_id (by omega) (by omega)
        have f6 : w64 (u * 131 + v * 1117 + p * 29) = u * 131 + v * 1117 + p * 29 := w64_id (by omega) (by omega)
        have f7 : w64 (q * 53) = q * 53 := w64_id (by omega) (by omega)
        have f8 : w64 (u * 131 + v * 1117 + p * 29 + q * 53) = u * 131 + v * 1117 + p * 29 + q * 53 := w64_id (by omega) (by omega)
        simp only [f1, f2, f3, f4, f5, f6, f7, f8]
        generalize hz : u * 131 + v * 1117 + p * 29 + q * 53 = z
        have z0 : 0 ≤ z ∧ z < 9223372036854775808 := by omega
        have g0 : 0 ≤ Int.tdiv z 64 ∧ Int.tdiv z 64 ≤ z := by
          rw [Int.tdiv_eq_ediv_of_nonneg z0.1]
          exact ⟨Int.ediv_nonneg z0.1 (by omega), Int.ediv_le_self _ z0.1⟩
        have g1 : w64 (Int.tdiv z 64) = Int.tdiv z 64 := w64_id (by omega) (by omega)
        have hxr := xor_rng z0.1 z0.2 g0.1 (by omega : Int.tdiv z 64 < 9223372036854775808)
        rw [g1]
        have h64 : ¬ (64 : Int) = 0 := by omega
        simp only [h64, decide_false, cond_false, hn']
        exact ⟨_, rfl, (tmod_rng hxr (by omega)).1, .inl (tmod_rng hxr (by omega)).2⟩

theorem pick_bind {β : Type} {b : List Int} {p n : Int} {k : Int × List Int × Int × Unit → Option β} {P : β → Prop} (hb : byteL b) (hp : 0 ≤ p) (hp' : p < 1099511627776)
    (hk : ∀ v, 0 ≤ v → (v < n ∨ v = 0) → Ret (k (v, b, p + 1, ())) P) : Ret ((Fsl1Rd_pick N (n, b, p, ())).bind k) P := by
  obtain ⟨v, e, h1, h2⟩ := pick_ok (N := N) (n := n) hb hp hp'
  exact Ret.bindE e (hk v h1 h2)
end

section
variable {N : Nat}

theorem l20Shape_ok {b : List Int} {p : Int} (hb : byteL b) (hp : 0 ≤ p) (hp' : p < 1099511627700) :
    Ret (Fsl20Shape N (b, p, ())) (fun r => r.2.2.1 = b ∧ p ≤ r.2.2.2.1 ∧ r.2.2.2.1 ≤ p + 3) := by
  unfold Fsl20Shape
  repeat' (first
    | refine pick_bind hb (by omega) (by omega) (fun v a c => ?_)
    | refine Ret.guard (by first | omega | (simp; omega)) ?_
    | refine Ret.beq (fun e => ?_) (fun e => ?_)
    | refine Ret.pure ?_
    | dsimp only)
  all_goals exact ⟨rfl, by omega, by omega⟩

theorem l20Op_ok {n : Int} {b : List Int} {p : Int} (hb : byteL b) (hp : 0 ≤ p) (hp' : p < 1099511627600) :
    Ret (Fsl20Op N (n, b, p, ())) (fun r => r.2.2.2.2.2.2.2.2.1 = b ∧ p ≤ r.2.2.2.2.2.2.2.2.2.1 ∧ r.2.2.2.2.2.2.2.2.2.1 ≤ p + 30) := by
  unfold Fsl20Op
  dsimp only
  refine pick_bind hb (by omega) (by omega) (fun v1 a1 c1 => ?_)
  dsimp only
  refine pick_bind hb (by omega) (by omega) (fun v2 a2 c2 => ?_)
  dsimp only
  refine pick_bind hb (by omega) (by omega) (fun v3 a3 c3 => ?_)
  dsimp only
  refine pick_bind hb (by omega) (by omega) (fun v4 a4 c4 => ?_)
  dsimp only
  refine pick_bind hb (by omega) (by omega) (fun v5 a5 c5 => ?_)
  dsimp only
  refine Ret.bind (fun o => o.1 = b ∧ p ≤ o.2.1 ∧ o.2.1 ≤ p + 9) ?_ (fun o ho => ?_)
  · repeat' (first
      | refine pick_bind hb (by omega) (by omega) (fun v a c => ?_)
      | refine Ret.dec (fun e => ?_) (fun e => ?_)
      | refine Ret.pure ?_
      | dsimp only)
    all_goals exact ⟨rfl, by omega, by omega⟩
  obtain ⟨b', p1, o⟩ := o
  simp only at ho
  obtain ⟨rfl, h1, h2⟩ := ho
  dsimp only
  refine pick_bind hb (by omega) (by omega) (fun v6 a6 c6 => ?_)
  dsimp only
  refine Ret.bind (fun o => o.1 = b' ∧ p ≤ o.2.1 ∧ o.2.1 ≤ p + 15) ?_ (fun o ho => ?_)
  · repeat' (first
      | refine pick_bind hb (by omega) (by omega) (fun v a c => ?_)
      | refine Ret.bind _ (l20Shape_ok hb (by omega) (by omega)) (fun r hr => ?_)
      | refine Ret.guard (by first | omega | (simp; omega)) ?_
      | refine Ret.dec (fun e => ?_) (fun e => ?_)
      | refine Ret.beq (fun e => ?_) (fun e => ?_)
      | refine Ret.pure ?_
      | dsimp only)
    · exact ⟨hr.1, by have := hr.2; omega, by have := hr.2; omega⟩
    all_goals exact ⟨rfl, by omega, by omega⟩
  obtain ⟨b'', p2, o⟩ := o
  simp only at ho
  obtain ⟨rfl, h3, h4⟩ := ho
  dsimp only
  refine Ret.bind (fun o => o.1 = b'' ∧ p ≤ o.2.1 ∧ o.2.1 ≤ p + 16) ?_ (fun o ho => ?_)
  · repeat' (first
      | refine pick_bind hb (by omega) (by omega) (fun v a c => ?_)
      | refine Ret.beq (fun e => ?_) (fun e => ?_)
      | refine Ret.pure ?_
      | dsimp only)
    all_goals exact ⟨rfl, by omega, by omega⟩
  obtain ⟨b3, p3, o⟩ := o
  simp only at ho
  obtain ⟨rfl, h5, h6⟩ := ho
  dsimp only
  repeat' (first
      | refine pick_bind hb (by omega) (by omega) (fun v a c => ?_)
      | refine Ret.guard (by first | omega | (simp; omega)) ?_
      | refine Ret.beq (fun e => ?_) (fun e => ?_)
      | refine Ret.pure ?_
      | dsimp only)
  all_goals exact ⟨rfl, by omega, by omega⟩
end

def okR (m : Nat) (l : List Int) : Bool := l.all fun x => decide (-1 ≤ x) && decide (x < (m : Int))

def okN (m : Nat) (x : Nd) : Bool := decide (x.1.length ≤ 4) && (decide (x.2.1.length ≤ 4) && okR m x.1)

def okG (g : Gr) : Bool :=
  decide (g.1.length ≤ 200) && (decide (1 ≤ g.2.1.length) && (decide (g.2.1.length ≤ 3) && (g.1.all (okN g.1.length) && (g.2.1.all (fun r => decide (r.length ≤ 8) && okR g.1.length r) &&
    (decide (g.2.2.1.length ≤ 8) && (g.2.2.1.all (fun x => decide (0 ≤ x)) && okR g.1.length g.2.2.1))))))

theorem okG_iff {g : Gr} : okG g = true ↔ g.1.length ≤ 200 ∧ 1 ≤ g.2.1.length ∧ g.2.1.length ≤ 3 ∧ (∀ x ∈ g.1, x.1.length ≤ 4 ∧ x.2.1.length ≤ 4 ∧ okR g.1.length x.1 = true) ∧
    (∀ r ∈ g.2.1, r.length ≤ 8 ∧ okR g.1.length r = true) ∧ g.2.2.1.length ≤ 8 ∧ (∀ x ∈ g.2.2.1, 0 ≤ x) ∧ okR g.1.length g.2.2.1 = true := by
  simp only [okG, okN, Bool.and_eq_true, decide_eq_true_eq, List.all_eq_true]

theorem okR_iff {m : Nat} {l : List Int} : okR m l = true ↔ ∀ x ∈ l, -1 ≤ x ∧ x < (m : Int) := by
  simp only [okR, List.all_eq_true, Bool.and_eq_true, decide_eq_true_eq]


abbrev Mst := List Int × List Bool

/-- A reference is met. -/
def meet (st : Mst) (r : Int) : Mst := if 0 ≤ r ∧ st.2.getD r.toNat false = false then (st.1 ++ [r], st.2.set r.toNat true) else st

structure Met (m : Nat) (st : Mst) : Prop where
  len : st.2.length = m
  cnt : st.1.length + st.2.count false = m
  rng : ∀ r ∈ st.1, 0 ≤ r ∧ r < (m : Int)
  had : ∀ r : Int, 0 ≤ r → (st.2.getD r.toNat false = true ↔ r ∈ st.1)
  nd : st.1.Nodup

theorem count_set_true : ∀ {l : List Bool} {i : Nat}, i < l.length → l.getD i false = false → (l.set i true).count false + 1 = l.count false
  | [], _, h, _ => by simp at h
  | b :: l, 0, _, h => by simp at h; subst h; simp
  | b :: l, i + 1, h, h2 => by
    have ih := count_set_true (l := l) (i := i) (by simpa using h) (by simpa using h2)
    simp only [List.set_cons_succ, List.count_cons]
    omega

theorem Met.le {m : Nat} {st : Mst} (h : Met m st) : st.1.length ≤ m := by have := h.cnt; omega

theorem Met.meet {m : Nat} {st : Mst} (h : Met m st) {r : Int} (hr : r < (m : Int)) : Met m (meet st r) := by
  unfold Fl.meet
  split
  · rename_i hc
    have hl : r.toNat < st.2.length := by rw [h.len]; omega
    have hn : ¬ r ∈ st.1 := fun hm => by
      have := (h.had r hc.1).2 hm
      rw [hc.2] at this
      cases this
    refine ⟨by simp [h.len], ?_, ?_, ?_, ?_⟩
    · have := count_set_true hl hc.2
      have := h.cnt
      simp only [List.length_append, List.length_singleton]
      omega
    · intro x hx
      simp only [List.mem_append, List.mem_singleton] at hx
      rcases hx with hx | rfl
      · exact h.rng x hx
      · exact ⟨hc.1, hr⟩
    · intro x hx
      simp only [List.mem_append, List.mem_singleton]
      rw [← h.had x hx]
      simp only [List.getD_eq_getElem?_getD, List.getElem?_set]
      by_cases e : r.toNat = x.toNat
      · have : x = r := by omega
        subst this
        simp [hl]
      · have : ¬ x = r := fun e' => e (by rw [e'])
        simp [e, this]
    · rw [List.nodup_append]
      refine ⟨h.nd, by simp, ?_⟩
      intro a ha b hb e
      simp at hb
      subst hb
      subst e
      exact hn ha
  · exact h

theorem Met.meets {m : Nat} {l : List Int} : ∀ {st : Mst}, Met m st → (∀ r ∈ l, r < (m : Int)) → Met m (l.foldl Fl.meet st) := by
  induction l with
  | nil => intro st h _; exact h
  | cons r l ih => intro st h hl; exact ih (h.meet (hl r (by simp))) fun x hx => hl x (by simp [hx])

/-- Met is only more and more. -/
theorem meet_pre (st : Mst) (r : Int) : st.1 <+: (meet st r).1 := by
  unfold meet
  split
  · exact List.prefix_append _ _
  · exact List.prefix_refl _

theorem meets_pre {l : List Int} : ∀ {st : Mst}, st.1 <+: (l.foldl meet st).1 := by
  induction l with
  | nil => intro st; exact List.prefix_refl _
  | cons r l ih => intro st; exact (meet_pre st r).trans ih

theorem meet_mem {m : Nat} {st : Mst} (h : Met m st) {r : Int} (h0 : 0 ≤ r) : r ∈ (meet st r).1 := by
  unfold meet
  split
  · simp
  · rename_i hc
    exact (h.had r h0).1 (by
      cases hb : st.2.getD r.toNat false with
      | true => rfl
      | false => exact absurd ⟨h0, hb⟩ hc)

theorem meets_mem {m : Nat} {l : List Int} : ∀ {st : Mst}, Met m st → (∀ r ∈ l, r < (m : Int)) → ∀ r ∈ l, 0 ≤ r → r ∈ (l.foldl meet st).1 := by
  induction l with
  | nil => intro st _ _ r hr; simp at hr
  | cons x l ih =>
    intro st h hl r hr h0
    have h1 := h.meet (hl x (by simp))
    simp only [List.mem_cons] at hr
    rcases hr with rfl | hr
    · exact (meets_pre (l := l)).subset (meet_mem h h0)
    · exact ih h1 (fun y hy => hl y (by simp [hy])) r hr h0

theorem meet_sub {st : Mst} {r x : Int} (hx : x ∈ (meet st r).1) : x ∈ st.1 ∨ (x = r ∧ 0 ≤ r) := by
  unfold meet at hx
  split at hx
  · rename_i hc
    simp only [List.mem_append, List.mem_singleton] at hx
    rcases hx with hx | hx
    · exact .inl hx
    · exact .inr ⟨hx, hc.1⟩
  · exact .inl hx

theorem meets_sub {l : List Int} : ∀ {st : Mst} {x : Int}, x ∈ (l.foldl meet st).1 → x ∈ st.1 ∨ (x ∈ l ∧ 0 ≤ x) := by
  induction l with
  | nil => intro st x hx; exact .inl hx
  | cons r l ih =>
    intro st x hx
    rcases ih hx with h | ⟨h, h0⟩
    · rcases meet_sub h with h | ⟨rfl, h0⟩
      · exact .inl h
      · exact .inr ⟨by simp, h0⟩
    · exact .inr ⟨by simp [h], h0⟩

/-- What a node leads to. -/
def refsOf (g : Gr) (r : Int) : List Int := (g.1.getD r.toNat ([], [], ())).1

/-- The met are gone through. -/
def walk (R : Int → List Int) : Nat → Nat → Mst → Mst
  | 0, _, st => st
  | n + 1, i, st => if i < st.1.length then walk R n (i + 1) ((R (st.1.getD i 0)).foldl meet st) else st

def met0 (m : Nat) : Mst := ([], List.replicate m false)

theorem met0_ok (m : Nat) : Met m (met0 m) := by
  refine ⟨by simp [met0], by simp [met0], by simp [met0], ?_, by simp [met0]⟩
  intro r _
  simp only [met0, List.getD_eq_getElem?_getD, List.getElem?_replicate]
  split <;> simp

theorem walk_met {m : Nat} {R : Int → List Int} (hR : ∀ r, 0 ≤ r → r < (m : Int) → ∀ x ∈ R r, x < (m : Int)) : ∀ (n i : Nat) {st : Mst}, Met m st → Met m (walk R n i st)
  | 0, _, _, h => h
  | n + 1, i, st, h => by
    unfold walk
    split
    · rename_i hi
      refine walk_met hR n (i + 1) (h.meets ?_)
      rw [getD_lt hi]
      exact hR _ (h.rng _ (List.getElem_mem hi)).1 (h.rng _ (List.getElem_mem hi)).2
    · exact h

theorem walk_pre {R : Int → List Int} : ∀ (n i : Nat) {st : Mst}, st.1 <+: (walk R n i st).1
  | 0, _, st => List.prefix_refl _
  | n + 1, i, st => by
    unfold walk
    split
    · exact (meets_pre (l := R (st.1.getD i 0))).trans (walk_pre n (i + 1))
    · exact List.prefix_refl _

/-- What is behind the places that were gone through, was met. -/
theorem walk_closed {m : Nat} {R : Int → List Int} (hR : ∀ r, 0 ≤ r → r < (m : Int) → ∀ x ∈ R r, x < (m : Int)) : ∀ (n i : Nat) {st : Mst}, Met m st → m - i < n →
    (∀ j (hj : j < st.1.length), j < i → ∀ x ∈ R st.1[j], 0 ≤ x → x ∈ st.1) → ∀ r ∈ (walk R n i st).1, ∀ x ∈ R r, 0 ≤ x → x ∈ (walk R n i st).1
  | 0, _, _, _, h, _ => absurd h (Nat.not_lt_zero _)
  | n + 1, i, st, h, hn, hc => by
    unfold walk
    split
    · rename_i hi
      have hb : ∀ x ∈ R (st.1.getD i 0), x < (m : Int) := by
        rw [getD_lt hi]
        exact hR _ (h.rng _ (List.getElem_mem hi)).1 (h.rng _ (List.getElem_mem hi)).2
      have hle := h.le
      refine walk_closed hR n (i + 1) (h.meets hb) (by omega) ?_
      intro j hj hji x hx h0
      have hp := meets_pre (l := R (st.1.getD i 0)) (st := st)
      rcases Nat.lt_or_ge j i with hlt | hge
      · have hj' : j < st.1.length := by omega
        have e : ((R (st.1.getD i 0)).foldl meet st).1[j] = st.1[j] := (hp.getElem hj').symm
        rw [e] at hx
        exact hp.subset (hc j hj' hlt x hx h0)
      · have : j = i := by omega
        subst this
        have e : ((R (st.1.getD j 0)).foldl meet st).1[j] = st.1[j] := (hp.getElem hi).symm
        rw [e] at hx
        exact meets_mem h hb x (by rw [getD_lt hi]; exact hx) h0
    · rename_i hi
      intro r hr x hx h0
      obtain ⟨j, hj, rfl⟩ := List.getElem_of_mem hr
      exact hc j hj (by omega) x hx h0

/-- Whatever holds of the first ones and is handed on, holds of all. -/
theorem walk_ind {R : Int → List Int} {P : Int → Prop} (hP : ∀ r, P r → ∀ x ∈ R r, 0 ≤ x → P x) : ∀ (n i : Nat) {st : Mst}, (∀ r ∈ st.1, P r) → ∀ r ∈ (walk R n i st).1, P r
  | 0, _, _, h => h
  | n + 1, i, st, h => by
    unfold walk
    split
    · rename_i hi
      refine walk_ind hP n (i + 1) fun r hr => ?_
      rcases meets_sub hr with h1 | ⟨h1, h0⟩
      · exact h r h1
      · rw [getD_lt hi] at h1
        exact hP _ (h _ (List.getElem_mem hi)) r h1 h0
    · exact h

def begin0 (g : Gr) : Mst := g.2.2.1.foldl meet (g.2.1.foldl (fun s l => l.foldl meet s) (met0 g.1.length))

/-- The nodes that are reached, as they are met. -/
def order (g : Gr) : List Int := (walk (refsOf g) (g.1.length + 1) 0 (begin0 g)).1

theorem refs_rng {g : Gr} (h : okG g = true) (r : Int) : ∀ x ∈ refsOf g r, x < (g.1.length : Int) := by
  obtain ⟨_, _, _, h4, _⟩ := okG_iff.1 h
  intro x hx
  unfold refsOf at hx
  by_cases hr : r.toNat < g.1.length
  · rw [getD_lt hr] at hx
    exact (okR_iff.1 (h4 _ (List.getElem_mem hr)).2.2 x hx).2
  · rw [List.getD_eq_getElem?_getD, List.getElem?_eq_none (by omega)] at hx
    simp at hx

theorem roots_met {m : Nat} {ls : List (List Int)} : ∀ {st : Mst}, Met m st → (∀ l ∈ ls, ∀ x ∈ l, x < (m : Int)) → Met m (ls.foldl (fun s l => l.foldl meet s) st) := by
  induction ls with
  | nil => intro st h _; exact h
  | cons l ls ih => intro st h hl; exact ih (h.meets (hl l (by simp))) fun x hx => hl x (by simp [hx])

theorem roots_pre {ls : List (List Int)} : ∀ {st : Mst}, st.1 <+: (ls.foldl (fun s l => l.foldl meet s) st).1 := by
  induction ls with
  | nil => intro st; exact List.prefix_refl _
  | cons r l ih => intro st; exact meets_pre.trans ih

theorem roots_mem {m : Nat} {ls : List (List Int)} : ∀ {st : Mst}, Met m st → (∀ l ∈ ls, ∀ x ∈ l, x < (m : Int)) → ∀ l ∈ ls, ∀ r ∈ l, 0 ≤ r → r ∈ (ls.foldl (fun s l => l.foldl meet s) st).1 := by
  induction ls with
  | nil => intro st _ _ r hr; simp at hr
  | cons x ls ih =>
    intro st h hl l hm r hr h0
    have h1 := h.meets (hl x (by simp))
    simp only [List.mem_cons] at hm
    rcases hm with rfl | hm
    · exact (roots_pre (ls := ls)).subset (meets_mem h (hl l (by simp)) r hr h0)
    · exact ih h1 (fun y hy => hl y (by simp [hy])) l hm r hr h0

theorem roots_sub {ls : List (List Int)} : ∀ {st : Mst} {x : Int}, x ∈ (ls.foldl (fun s l => l.foldl meet s) st).1 → x ∈ st.1 ∨ ∃ l ∈ ls, x ∈ l ∧ 0 ≤ x := by
  induction ls with
  | nil => intro st x hx; exact .inl hx
  | cons r l ih =>
    intro st x hx
    rcases ih hx with h | ⟨l', h, h0⟩
    · rcases meets_sub h with h | h
      · exact .inl h
      · exact .inr ⟨r, by simp, h⟩
    · exact .inr ⟨l', by simp [h], h0⟩

theorem rootsrng {g : Gr} (h : okG g = true) : ∀ l ∈ g.2.1, ∀ x ∈ l, x < (g.1.length : Int) := fun l hl x hx => by
  obtain ⟨_, _, _, _, h5, _⟩ := okG_iff.1 h
  exact (okR_iff.1 (h5 l hl).2 x hx).2

theorem pinsrng {g : Gr} (h : okG g = true) : ∀ x ∈ g.2.2.1, x < (g.1.length : Int) := fun x hx => by
  obtain ⟨_, _, _, _, _, _, _, h8⟩ := okG_iff.1 h
  exact (okR_iff.1 h8 x hx).2

theorem begin0_ok {g : Gr} (h : okG g = true) : Met g.1.length (begin0 g) :=
  (roots_met (met0_ok _) (rootsrng h)).meets (pinsrng h)

theorem order_met {g : Gr} (h : okG g = true) : Met g.1.length (walk (refsOf g) (g.1.length + 1) 0 (begin0 g)) :=
  walk_met (fun r _ _ => refs_rng h r) _ _ (begin0_ok h)

theorem order_rng {g : Gr} (h : okG g = true) : ∀ r ∈ order g, 0 ≤ r ∧ r < (g.1.length : Int) := (order_met h).rng

theorem order_nodup {g : Gr} (h : okG g = true) : (order g).Nodup := (order_met h).nd

theorem order_le {g : Gr} (h : okG g = true) : (order g).length ≤ g.1.length := (order_met h).le

theorem order_closed {g : Gr} (h : okG g = true) : ∀ r ∈ order g, ∀ x ∈ refsOf g r, 0 ≤ x → x ∈ order g :=
  walk_closed (fun r _ _ => refs_rng h r) _ _ (begin0_ok h) (by omega) fun j _ hj => absurd hj (Nat.not_lt_zero _)

theorem order_roots {g : Gr} (h : okG g = true) : ∀ l ∈ g.2.1, ∀ x ∈ l, 0 ≤ x → x ∈ order g := fun l hl x hx h0 =>
  (walk_pre _ _).subset (meets_pre.subset (roots_mem (met0_ok _) (rootsrng h) l hl x hx h0))

theorem order_pins {g : Gr} (h : okG g = true) : ∀ x ∈ g.2.2.1, x ∈ order g := fun x hx => by
  obtain ⟨_, _, _, _, _, _, h7, _⟩ := okG_iff.1 h
  exact (walk_pre _ _).subset (meets_mem (roots_met (met0_ok _) (rootsrng h)) (pinsrng h) x hx (h7 x hx))

/-- The reached are the least that holds what is begun with and is closed. -/
theorem order_ind {g : Gr} {P : Int → Prop} (hr : ∀ l ∈ g.2.1, ∀ x ∈ l, 0 ≤ x → P x) (hp : ∀ x ∈ g.2.2.1, 0 ≤ x → P x) (hP : ∀ r, P r → ∀ x ∈ refsOf g r, 0 ≤ x → P x) : ∀ r ∈ order g, P r :=
  walk_ind hP _ _ fun r h => by
    rcases meets_sub h with h | ⟨h, h0⟩
    · rcases roots_sub h with h | ⟨l, hl, h, h0⟩
      · simp [met0] at h
      · exact hr l hl r h h0
    · exact hp r h h0


abbrev Opx := Int × Int × Int × Int × Int × Int × (Int × Int × Unit) × Unit
def shOk (s : Int × Int × Unit) : Bool := decide (0 ≤ s.1) && (decide (s.1 ≤ 4) && (decide (0 ≤ s.2.1) && decide (s.2.1 ≤ 4)))
def opOk (o : Opx) : Bool := decide (1 ≤ o.1) && (decide (o.1 ≤ 11) && (!(decide (o.1 = 1)) || shOk o.2.2.2.2.2.2.1))
/-- A place of a list. -/
def inB (i : Int) (n : Nat) : Prop := 0 ≤ i ∧ i < (n : Int)
instance (i : Int) (n : Nat) : Decidable (inB i n) := by unfold inB; infer_instance
/-- The code told ahead of an operation. -/
def beginC (o : Opx) (rs : List Int) (nil : Int) : Int :=
  if (o.1 = 8 ∧ rs.length = 0) ∨ (o.1 ≠ 1 ∧ o.1 ≠ 8 ∧ ¬ inB o.2.1 rs.length) ∨ ((o.1 = 3 ∨ o.1 = 6 ∨ o.1 = 7) ∧ ¬ inB o.2.2.1 rs.length) ∨ (o.1 = 7 ∧ ¬ inB o.2.2.2.1 rs.length) then 2
  else if o.1 ≠ 1 ∧ o.1 ≠ 6 ∧ o.1 ≠ 8 ∧ o.1 ≠ 9 ∧ rs.getD o.2.1.toNat 0 = nil then 3
  else if (o.1 = 1 ∨ o.1 = 2 ∨ o.1 = 9) ∧ rs.length = 8 then 5
  else 0
/-- The last place of a number. -/
def lastFrom : List Int → Int → Int → Int → Int
  | [], _, _, at' => at'
  | x :: l, a, i, at' => lastFrom l a (i + 1) (if x = a then i else at')
def lastP (l : List Int) (a : Int) : Int := lastFrom l a 0 (-1)

abbrev nd0 : Nd := ([], [], ())
/-- What an operation does when no code was told ahead. -/
def actG (g : Gr) (t : Int) (o : Opx) (rs : List Int) : Int × Int × Gr :=
  let ra := rs.getD o.2.1.toNat 0
  let rb := rs.getD o.2.2.1.toNat 0
  let rc := rs.getD o.2.2.2.1.toNat 0
  let n := g.1.getD ra.toNat nd0
  let f := o.2.2.2.2.1
  if o.1 = 1 then if g.1.length = 200 then (0, 6, g) else (0, 0, g.1 ++ [(List.replicate o.2.2.2.2.2.2.1.1.toNat (-1), List.replicate o.2.2.2.2.2.2.1.2.1.toNat 0, ())], g.2.1.set t.toNat (rs ++ [(g.1.length : Int)]), g.2.2.1, ())
  else if o.1 = 2 then if inB f n.1.length then (0, 0, g.1, g.2.1.set t.toNat (rs ++ [n.1.getD f.toNat 0]), g.2.2.1, ()) else (0, 4, g)
  else if o.1 = 3 then if inB f n.1.length then (0, 0, g.1.set ra.toNat (n.1.set f.toNat rb, n.2), g.2.1, g.2.2.1, ()) else (0, 4, g)
  else if o.1 = 4 then if inB f n.2.1.length then (0, 0, g.1.set ra.toNat (n.1, n.2.1.set f.toNat o.2.2.2.2.2.1, ()), g.2.1, g.2.2.1, ()) else (0, 4, g)
  else if o.1 = 5 then if inB f n.2.1.length then (n.2.1.getD f.toNat 0, 0, g) else (0, 4, g)
  else if o.1 = 6 then (if ra = rb then 1 else 0, 0, g)
  else if o.1 = 7 then if inB f n.1.length then (if n.1.getD f.toNat 0 = rb then (1, 0, g.1.set ra.toNat (n.1.set f.toNat rc, n.2), g.2.1, g.2.2.1, ()) else (0, 0, g)) else (0, 4, g)
  else if o.1 = 8 then (0, 0, g.1, g.2.1.set t.toNat (rs.take (rs.length - 1)), g.2.2.1, ())
  else if o.1 = 9 then (0, 0, g.1, g.2.1.set t.toNat (rs ++ [ra]), g.2.2.1, ())
  else if o.1 = 10 then if g.2.2.1.length = 8 then (0, 7, g) else (0, 0, g.1, g.2.1, g.2.2.1 ++ [ra], ())
  else if lastP g.2.2.1 ra < 0 then (0, 7, g) else (0, 0, g.1, g.2.1, g.2.2.1.take (lastP g.2.2.1 ra).toNat ++ g.2.2.1.drop ((lastP g.2.2.1 ra).toNat + 1), ())

/-- An operation on a graph: the answer, the code, the graph behind it. -/
def doG (g : Gr) (t : Int) (o : Opx) : Int × Int × Gr :=
  if okG g = true ∧ inB t g.2.1.length ∧ opOk o = true then
    (if beginC o (g.2.1.getD t.toNat []) (-1) = 0 then actG g t o (g.2.1.getD t.toNat []) else (0, beginC o (g.2.1.getD t.toNat []) (-1), g))
  else (0, 1, [], [], [], ())

theorem lastFrom_rng : ∀ (l : List Int) (a i at' : Int), -1 ≤ at' → at' < i → -1 ≤ lastFrom l a i at' ∧ lastFrom l a i at' < i + l.length
  | [], _, _, _, h, h' => by simp only [lastFrom, List.length_nil]; omega
  | x :: l, a, i, at', h, h' => by
    simp only [lastFrom]
    have := lastFrom_rng l a (i + 1) (if x = a then i else at') (by split <;> omega) (by split <;> omega)
    simp only [List.length_cons]
    omega

theorem opOk_kind {o : Opx} (h : opOk o = true) : 1 ≤ o.1 ∧ o.1 ≤ 11 := by
  simp only [opOk, Bool.and_eq_true, decide_eq_true_eq] at h
  exact ⟨h.1, h.2.1⟩

theorem kind_cases {k : Int} (h1 : 1 ≤ k) (h2 : k ≤ 11) : k = 1 ∨ k = 2 ∨ k = 3 ∨ k = 4 ∨ k = 5 ∨ k = 6 ∨ k = 7 ∨ k = 8 ∨ k = 9 ∨ k = 10 ∨ k = 11 := by omega

section
variable {N : Nat} (hN : lim < N)
include hN

theorem sl5Ints_ok {xs : List Int} (hl : xs.length ≤ lim) : Fsl5Ints N (xs, ()) = some (xs, ()) := by
  simp [Fsl5Ints, hl]

end

section
variable {N : Nat}

theorem sShapeOk_ok (s : Int × Int × Unit) : FsShapeOk N (s, ()) = some (shOk s, ()) := by
  simp only [FsShapeOk, shOk, ge_iff_le]
  by_cases h1 : 0 ≤ s.1 <;> by_cases h2 : s.1 ≤ 4 <;> by_cases h3 : 0 ≤ s.2.1 <;> simp [h1, h2, h3]

theorem sOpOk_ok (o : Opx) : FsOpOk N (o, ()) = some (opOk o, ()) := by
  simp only [FsOpOk, opOk, sShapeOk_ok, ge_iff_le]
  by_cases h1 : 1 ≤ o.1 <;> by_cases h2 : o.1 ≤ 11 <;> by_cases h3 : o.1 = 1 <;> simp [h1, h2, h3]

theorem sl5Fields_ok (k : Int) : Fsl5Fields N (k, ()) = some (decide (k = 2 ∨ k = 3 ∨ k = 4 ∨ k = 5 ∨ k = 7), ()) := by
  simp only [Fsl5Fields]
  by_cases h1 : k = 2
  · simp [h1]
  by_cases h2 : k = 3
  · simp [h2]
  by_cases h3 : k = 4
  · simp [h3]
  by_cases h4 : k = 5
  · simp [h4]
  by_cases h5 : k = 7 <;> simp [h1, h2, h3, h4, h5]

set_option maxHeartbeats 1000000 in
theorem sl5Begin_ok {o : Opx} {rs : List Int} {nil : Int} (h1 : 1 ≤ o.1) (h2 : o.1 ≤ 11) : Fsl5Begin N (o, rs, nil, ()) = some (beginC o rs nil, ()) := by
  obtain ⟨k, A, B, C, F, V, S, ⟨⟩⟩ := o
  simp only at h1 h2
  unfold Fsl5Begin
  dsimp only
  refine obind_eq (r := (rs, nil, (k, A, B, C, F, V, S, ()), (rs.length : Int), decide (inB A rs.length), ())) (by by_cases a0 : 0 ≤ A <;> simp [a0, inB]) ?_
  dsimp only
  refine obind_eq (r := (rs, nil, (k, A, B, C, F, V, S, ()), (rs.length : Int), decide (inB A rs.length), decide (inB B rs.length), ())) (by by_cases a0 : 0 ≤ B <;> simp [a0, inB]) ?_
  dsimp only
  refine obind_eq (r := (rs, nil, (k, A, B, C, F, V, S, ()), (rs.length : Int), decide (inB A rs.length), decide (inB B rs.length), decide (inB C rs.length), ())) (by by_cases a0 : 0 ≤ C <;> simp [a0, inB]) ?_
  dsimp only
  have l8 : ((rs.length : Int) = 8) ↔ rs.length = 8 := by omega
  have l0 : (0 < rs.length) ↔ ¬ rs.length = 0 := by omega
  have key : ∀ {i : Int}, inB i rs.length → 0 ≤ i ∧ i.toNat < rs.length := fun h => by unfold inB at h; omega
  have pe := Classical.propComplete (rs.length = 8)
  have pe0 := Classical.propComplete (rs.length = 0)
  rcases kind_cases h1 h2 with h | h | h | h | h | h | h | h | h | h | h <;> subst h
  · rcases pe with e | e <;> simp [beginC, sl5Fields_ok, l8, e]
  · by_cases a : inB A rs.length
    · obtain ⟨a1, a2⟩ := key a
      rcases pe with e | e <;> by_cases n : rs[A.toNat] = nil <;> simp [beginC, sl5Fields_ok, l8, e, a, a1, a2, n]
    · simp [beginC, a]
  · by_cases a : inB A rs.length
    · obtain ⟨a1, a2⟩ := key a
      by_cases b : inB B rs.length
      · by_cases n : rs[A.toNat] = nil <;> simp [beginC, sl5Fields_ok, a, b, a1, a2, n]
      · simp [beginC, a, b]
    · simp [beginC, a]
  · by_cases a : inB A rs.length
    · obtain ⟨a1, a2⟩ := key a
      by_cases n : rs[A.toNat] = nil <;> simp [beginC, sl5Fields_ok, a, a1, a2, n]
    · simp [beginC, a]
  · by_cases a : inB A rs.length
    · obtain ⟨a1, a2⟩ := key a
      by_cases n : rs[A.toNat] = nil <;> simp [beginC, sl5Fields_ok, a, a1, a2, n]
    · simp [beginC, a]
  · by_cases a : inB A rs.length
    · obtain ⟨a1, a2⟩ := key a
      by_cases b : inB B rs.length
      · by_cases n : rs[A.toNat] = nil <;> simp [beginC, sl5Fields_ok, a, b, a1, a2, n]
      · simp [beginC, a, b]
    · simp [beginC, a]
  · by_cases a : inB A rs.length
    · obtain ⟨a1, a2⟩ := key a
      by_cases b : inB B rs.length
      · by_cases c : inB C rs.length
        · by_cases n : rs[A.toNat] = nil <;> simp [beginC, sl5Fields_ok, a, b, c, a1, a2, n]
        · simp [beginC, a, b, c]
      · simp [beginC, a, b]
    · simp [beginC, a]
  · rcases pe0 with e0 | e0 <;> simp [beginC, sl5Fields_ok, e0, l0]
  · by_cases a : inB A rs.length
    · obtain ⟨a1, a2⟩ := key a
      rcases pe with e | e <;> by_cases n : rs[A.toNat] = nil <;> simp [beginC, sl5Fields_ok, l8, e, a, a1, a2, n]
    · simp [beginC, a]
  · by_cases a : inB A rs.length
    · obtain ⟨a1, a2⟩ := key a
      by_cases n : rs[A.toNat] = nil <;> simp [beginC, sl5Fields_ok, a, a1, a2, n]
    · simp [beginC, a]
  · by_cases a : inB A rs.length
    · obtain ⟨a1, a2⟩ := key a
      by_cases n : rs[A.toNat] = nil <;> simp [beginC, sl5Fields_ok, a, a1, a2, n]
    · simp [beginC, a]
end

section
variable {N : Nat}

theorem sl5Field_ok {o : Opx} {r m : Nat} : Fsl5Field N (o, (r : Int), (m : Int), ()) = some (decide (inB o.2.2.2.2.1 (if o.1 = 4 ∨ o.1 = 5 then m else r)), ()) := by
  obtain ⟨k, A, B, C, F, V, S, ⟨⟩⟩ := o
  simp only [Fsl5Field, inB]
  by_cases h1 : k = 4
  · by_cases h : 0 ≤ F <;> simp [h1, h]
  by_cases h2 : k = 5
  · by_cases h : 0 ≤ F <;> simp [h2, h]
  by_cases h : 0 ≤ F <;> simp [h1, h2, h]

theorem sl5One_ok (b : Bool) : Fsl5One N (b, ()) = some (if b = true then 1 else 0, ()) := by
  cases b <;> simp [Fsl5One]

variable (hN : lim < N)
include hN

theorem sl5Pins_loop {xs : List Int} {a : Int} (hl : xs.length ≤ lim) : lsl5Pins_0 N N (xs, a, -1, 0, ()) = some (xs, lastP xs a, ()) := by
  have key : ∀ n i at', i ≤ xs.length → xs.length - i < n → lsl5Pins_0 N n (xs, a, at', (i : Int), ()) = some (xs, lastFrom (xs.drop i) a i at', ()) := by
    intro n
    induction n with
    | zero => intro i at' _ h; exact absurd h (Nat.not_lt_zero _)
    | succ n ih =>
      intro i at' hi hn
      by_cases h : i < xs.length
      · have hw : w64 ((i : Int) + 1) = ((i + 1 : Nat) : Int) := w64_succ (by have : lim = 2147483648 := rfl; omega)
        rw [drop_at h]
        by_cases e : xs[i] = a
        · have := ih (i + 1) (i : Int) (by omega) (by omega)
          simp only [lsl5Pins_0, hw]
          simp [h, e, lastFrom]
          simpa using this
        · have := ih (i + 1) at' (by omega) (by omega)
          simp only [lsl5Pins_0, hw]
          simp [h, e, lastFrom]
          simpa using this
      · have : i = xs.length := by omega
        subst this
        simp [lsl5Pins_0, lastFrom]
  have := key N 0 (-1) (by omega) (by omega)
  simpa [lastP] using this

theorem sl5Pins_pin {xs : List Int} {a : Int} (hl : xs.length + 1 ≤ lim) : Fsl5Pins N (xs, 10, a, ()) = some (if xs.length = 8 then (false, [], ()) else (true, xs ++ [a], ())) := by
  have l8 : ((xs.length : Int) = 8) ↔ xs.length = 8 := by omega
  rcases Classical.propComplete (xs.length = 8) with e | e <;> simp [Fsl5Pins, l8, e, sl5Ints_ok hN (show xs.length ≤ lim by omega), hl]

theorem sl5Pins_unpin {xs : List Int} {a : Int} (hl : xs.length ≤ lim) : Fsl5Pins N (xs, 11, a, ()) = some (if lastP xs a < 0 then (false, [], ()) else (true, xs.take (lastP xs a).toNat ++ xs.drop ((lastP xs a).toNat + 1), ())) := by
  have hr := lastFrom_rng xs a 0 (-1) (by omega) (by omega)
  have e0 : lastFrom xs a 0 (-1) = lastP xs a := rfl
  rw [e0] at hr
  have hw : w64 (lastP xs a + 1) = lastP xs a + 1 := w64_id (by omega) (by have : lim = 2147483648 := rfl; omega)
  unfold Fsl5Pins
  simp only [show ((11 : Int) == 10) = false from rfl, cond_false, sl5Pins_loop hN hl, Option.bind_some]
  by_cases h : lastP xs a < 0
  · simp [h]
  · have h0 : 0 ≤ lastP xs a := by omega
    have h1 : lastP xs a ≤ (xs.length : Int) := by omega
    have h2 : 0 ≤ lastP xs a + 1 := by omega
    have h3 : lastP xs a + 1 ≤ (xs.length : Int) := by omega
    have h4 : (lastP xs a + 1).toNat = (lastP xs a).toNat + 1 := by omega
    have h5 : ((xs.drop 0).take (lastP xs a).toNat).length ≤ lim := by simp; omega
    have h6 : (xs.drop ((lastP xs a).toNat + 1)).take (xs.length - ((lastP xs a).toNat + 1)) = xs.drop ((lastP xs a).toNat + 1) := by
      apply List.take_of_length_le; simp
    have h7 : (xs.take (lastP xs a).toNat).length + (xs.drop ((lastP xs a).toNat + 1)).length ≤ lim := by simp; omega
    have h8 : (0 : Int).toNat = 0 := rfl
    simp only [h, decide_false, cond_false, h0, h1, h2, h3, decide_true, cond_true, Int.le_refl, Int.natCast_nonneg, hw, h4, h8, Nat.sub_zero, Int.toNat_natCast, h6, if_false, List.drop_zero]
    rw [sl5Ints_ok hN (by simpa using h5)]
    simp only [Option.bind_some, h7, decide_true, cond_true]
end

section
variable {N : Nat} (hN : lim < N)
include hN

theorem sl5Copy_ok {g : Gr} (hs : smG g) : Fsl5Copy N (g, ()) = some g := by
  obtain ⟨a1, a2, a3, a4, a5⟩ := hs
  have l1 := sm_lim a1
  have l3 := sm_lim a3
  have e1 := fun Q => (fold_loop (xs := g.1) (n := N) (fun s x => s ++ [x]) (fun i s => s.length = i)
    (L := fun n i s => lsl5Copy_0 N n (g, (i : Int), s, ([] : List (List Int)), Q, ())) (fin := fun s => (g, s, ([] : List (List Int)), Q, ())) l1
    (fun n i s h hw hI => by
      subst hI
      have hlim : s.length + 1 ≤ lim := by omega
      have hx := a2 _ (List.getElem_mem h)
      simp [lsl5Copy_0, h, hw, sl5Ints_ok hN (sm_lim hx.1), sl5Ints_ok hN (sm_lim hx.2), hlim])
    (fun n s hI => by simp [lsl5Copy_0]) (by omega) (s := []) rfl).1
  have e2 := fun S Q => (fold_loop (xs := g.2.1) (n := N) (fun s x => s ++ [x]) (fun i s => s.length = i)
    (L := fun n i s => lsl5Copy_2 N n (g, (i : Int), S, s, Q, ())) (fin := fun s => (S, s, Q, ())) l3
    (fun n i s h hw hI => by
      subst hI
      have hlim : s.length + 1 ≤ lim := by omega
      have hx := a4 _ (List.getElem_mem h)
      simp [lsl5Copy_2, h, hw, sl5Ints_ok hN (sm_lim hx), hlim])
    (fun n s hI => by simp [lsl5Copy_2]) (by omega) (s := []) rfl).1
  have f1 := foldl_push (fun x : Nd => x) g.1 []
  have f2 := foldl_push (fun x : List Int => x) g.2.1 []
  simp only [Int.natCast_zero, f1, f2, List.nil_append, List.map_id'] at e1 e2
  simp [Fsl5Copy, sl5Ints_ok hN (sm_lim a5), e1, e2]
end

section
variable {N : Nat} (hN : lim < N)
include hN

theorem sl5Refs_ok {xs : List Int} {m : Nat} (hx : sm xs.length) : Fsl5Refs N (xs, (m : Int), ()) = some (okR m xs, ()) := by
  have hl := sm_lim hx
  have hL := all_loop (xs := xs) (n := N) (fun x => decide (-1 ≤ x) && decide (x < (m : Int))) (L := fun n i => lsl5Refs_0 N n (xs, (m : Int), (i : Int), ())) (yes := .inl ()) (no := .inr (false, ())) hl
    (fun n i h hw hq => by
      simp at hq
      simp [lsl5Refs_0, h, hw, Int.not_lt.2 hq.1, Int.not_le.2 hq.2])
    (fun n i h hq => by
      simp at hq
      by_cases h1 : xs[i] < -1
      · simp [lsl5Refs_0, h, h1]
      · simp [lsl5Refs_0, h, h1, hq (by omega)])
    (fun n => by simp [lsl5Refs_0]) (by omega)
  simp only [Int.natCast_zero] at hL
  simp only [Fsl5Refs, hL, okR]
  cases xs.all (fun x => decide (-1 ≤ x) && decide (x < (m : Int))) <;> simp

theorem sGraphOk_ok {g : Gr} (hx : smG g) : FsGraphOk N (g, ()) = some (okG g, ()) := by
  obtain ⟨a1, a2, a3, a4, a5⟩ := hx
  have h1 := all_loop (xs := g.1) (n := N) (okN g.1.length) (L := fun n i => lsGraphOk_0 N n (g, (i : Int), ())) (yes := .inl (g, ())) (no := .inr (false, ())) (sm_lim a1)
    (fun n i h hw hq => by
      simp [okN] at hq
      simp [lsGraphOk_0, h, hw, sl5Refs_ok hN (a2 _ (List.getElem_mem h)).1, hq, Nat.not_lt.2 hq.1, Nat.not_lt.2 hq.2.1])
    (fun n i h hq => by
      simp [lsGraphOk_0, h, sl5Refs_ok hN (a2 _ (List.getElem_mem h)).1]
      simp [okN] at hq
      by_cases h1 : g.1[i].1.length ≤ 4 <;> by_cases h2 : g.1[i].2.1.length ≤ 4 <;> simp_all)
    (fun n => by simp [lsGraphOk_0]) (by have := sm_lim a1; omega)
  have h2 := all_loop (xs := g.2.1) (n := N) (fun r => decide (r.length ≤ 8) && okR g.1.length r) (L := fun n i => lsGraphOk_2 N n (g, (i : Int), ())) (yes := .inl (g, ())) (no := .inr (false, ())) (sm_lim a3)
    (fun n i h hw hq => by
      simp at hq
      simp [lsGraphOk_2, h, hw, sl5Refs_ok hN (a4 _ (List.getElem_mem h)), hq, Nat.not_lt.2 hq.1])
    (fun n i h hq => by
      simp [lsGraphOk_2, h, sl5Refs_ok hN (a4 _ (List.getElem_mem h))]
      simp at hq
      by_cases h1 : g.2.1[i].length ≤ 8 <;> simp_all)
    (fun n => by simp [lsGraphOk_2]) (by have := sm_lim a3; omega)
  have h3 := all_loop (xs := g.2.2.1) (n := N) (fun x => decide (0 ≤ x)) (L := fun n i => lsGraphOk_4 N n (g, (i : Int), ())) (yes := .inl (g, ())) (no := .inr (false, ())) (sm_lim a5)
    (fun n i h hw hq => by
      simp at hq
      simp [lsGraphOk_4, h, hw, Int.not_lt.2 hq])
    (fun n i h hq => by
      simp at hq
      simp [lsGraphOk_4, h, hq])
    (fun n => by simp [lsGraphOk_4]) (by have := sm_lim a5; omega)
  simp only [Int.natCast_zero] at h1 h2 h3
  simp only [FsGraphOk, okG]
  by_cases b1 : g.1.length ≤ 200
  · by_cases b2 : 1 ≤ g.2.1.length
    · by_cases b3 : g.2.1.length ≤ 3
      · have c1 : ¬ ((g.1.length : Int) > 200) := by omega
        have c2 : ¬ ((g.2.1.length : Int) < 1) := by omega
        have c3 : ¬ ((g.2.1.length : Int) > 3) := by omega
        simp only [c1, c2, c3, b1, b2, b3, decide_true, decide_false, cond_false, Option.bind_some, Sum.elim_inl, h1, Bool.true_and]
        cases g.1.all (okN g.1.length)
        · simp
        · simp only [cond_true, Option.bind_some, Sum.elim_inl, h2, Bool.true_and]
          cases g.2.1.all (fun r => decide (r.length ≤ 8) && okR g.1.length r)
          · simp
          · simp only [cond_true, Option.bind_some, Sum.elim_inl, h3, Bool.true_and, sl5Refs_ok hN a5]
            by_cases b4 : g.2.2.1.length ≤ 8
            · have c4 : ((g.2.2.1.length : Int) ≤ 8) := by omega
              cases g.2.2.1.all (fun x => decide (0 ≤ x)) <;> simp [b4, c4, sl5Refs_ok hN a5]
            · have c4 : ¬ ((g.2.2.1.length : Int) ≤ 8) := by omega
              cases g.2.2.1.all (fun x => decide (0 ≤ x)) <;> simp [b4, c4, sl5Refs_ok hN a5]
      · have c1 : ¬ ((g.1.length : Int) > 200) := by omega
        have c2 : ¬ ((g.2.1.length : Int) < 1) := by omega
        have c3 : ((g.2.1.length : Int) > 3) := by omega
        simp [c1, c2, c3, b3]
    · have c1 : ¬ ((g.1.length : Int) > 200) := by omega
      have c2 : ((g.2.1.length : Int) < 1) := by omega
      simp [c1, c2, b2]
  · have c1 : ((g.1.length : Int) > 200) := by omega
    simp [c1, b1]

end

section
variable {N : Nat} (hN : lim < N)
include hN

theorem okG_small {g : Gr} (h : okG g = true) : smG g := by
  obtain ⟨h1, h2, h3, h4, h5, h6, h7, h8⟩ := okG_iff.1 h
  simp only [smG, smN, sm]
  refine ⟨by omega, fun x hx => ?_, by omega, fun x hx => ?_, by omega⟩
  · have := h4 x hx; omega
  · have := h5 x hx; omega

/-- One list of references, by the places. -/
theorem meets_loop {m : Nat} {xs : List Int} (hx : ∀ x ∈ xs, x < (m : Int)) (hm : m ≤ 200) (hl : xs.length ≤ lim) {ρ : Type} {L : Nat → Nat → Mst → Option ρ} {fin : Mst → ρ}
    (h1 : ∀ n i st (h : i < xs.length), w64 ((i : Int) + 1) = ((i + 1 : Nat) : Int) → Met m st → (0 ≤ xs[i] → xs[i].toNat < st.2.length) → st.1.length + 1 ≤ lim → L (n + 1) i st = L n (i + 1) (meet st xs[i]))
    (h3 : ∀ n st, Met m st → L (n + 1) xs.length st = some (fin st)) {st : Mst} (hst : Met m st) : L N 0 st = some (fin (xs.foldl meet st)) :=
  (fold_loop (xs := xs) (n := N) meet (fun _ st => Met m st) (L := L) (fin := fin) hl
    (fun n i st h hw hI => by
      have hr := hx _ (List.getElem_mem h)
      refine ⟨h1 n i st h hw hI (fun h0 => by have := hI.len; omega) ?_, hI.meet hr⟩
      have := hI.le; rw [lim_eq]; omega)
    (fun n st hI => h3 n st hI) (by omega) hst).1

theorem roots_loop {m : Nat} {ls : List (List Int)} (hx : ∀ l ∈ ls, ∀ x ∈ l, x < (m : Int)) (hl : ls.length ≤ lim) {ρ : Type} {L : Nat → Nat → Mst → Option ρ} {fin : Mst → ρ}
    (h1 : ∀ n i st (h : i < ls.length), w64 ((i : Int) + 1) = ((i + 1 : Nat) : Int) → Met m st → L (n + 1) i st = L n (i + 1) (ls[i].foldl meet st))
    (h3 : ∀ n st, Met m st → L (n + 1) ls.length st = some (fin st)) {st : Mst} (hst : Met m st) : L N 0 st = some (fin (ls.foldl (fun s l => l.foldl meet s) st)) :=
  (fold_loop (xs := ls) (n := N) (fun s l => l.foldl meet s) (fun _ st => Met m st) (L := L) (fin := fin) hl
    (fun n i st h hw hI => ⟨h1 n i st h hw hI, hI.meets (hx _ (List.getElem_mem h))⟩)
    (fun n st hI => h3 n st hI) (by omega) hst).1

theorem walk_loop {m : Nat} {R : Int → List Int} (hR : ∀ r, 0 ≤ r → r < (m : Int) → ∀ x ∈ R r, x < (m : Int)) (hm : m ≤ 200) {ρ : Type} {L : Nat → Nat → Mst → Option ρ} {fin : Mst → ρ}
    (h1 : ∀ n (i : Nat) st (h : i < st.1.length), w64 ((i : Int) + 1) = ((i + 1 : Nat) : Int) → Met m st → L (n + 1) i st = L n (i + 1) ((R st.1[i]).foldl meet st))
    (h3 : ∀ n i st, ¬ i < st.1.length → Met m st → L (n + 1) i st = some (fin st)) {st : Mst} (hst : Met m st) : L N 0 st = some (fin (walk R (m + 1) 0 st)) := by
  have key : ∀ n i st, Met m st → i ≤ st.1.length → m - i < n → L n i st = some (fin (walk R (m + 1 - i) i st)) := by
    intro n
    induction n with
    | zero => intro i st _ _ h; exact absurd h (Nat.not_lt_zero _)
    | succ n ih =>
      intro i st hI hi hn
      have hle := hI.le
      by_cases h : i < st.1.length
      · have e : m + 1 - i = (m + 1 - (i + 1)) + 1 := by omega
        rw [h1 n i st h (w64_succ (by omega)) hI, e]
        have hb := hI.meets (hR _ (hI.rng _ (List.getElem_mem h)).1 (hI.rng _ (List.getElem_mem h)).2)
        have hp := (meets_pre (l := R st.1[i]) (st := st)).length_le
        rw [ih (i + 1) _ hb (by omega) (by omega)]
        simp only [walk, h, if_true, getD_lt h]
      · rw [h3 n i st h hI]
        cases hk : m + 1 - i with
        | zero => rfl
        | succ k => simp only [walk, h, if_false]
  have := key N 0 st hst (by omega) (by rw [lim_eq] at hN; omega)
  simpa using this

end

theorem cguard {α : Type} {p : Prop} [Decidable p] {a z : Option α} (hp : p) (h : a = z) : (_root_.cond (decide p) a none) = z := by
  simpa [hp] using h

theorem begin_zero {o : Opx} {rs : List Int} {nil : Int} (h : beginC o rs nil = 0) : (o.1 = 8 → rs.length ≠ 0) ∧ (o.1 ≠ 1 → o.1 ≠ 8 → inB o.2.1 rs.length) ∧ (o.1 = 3 ∨ o.1 = 6 ∨ o.1 = 7 → inB o.2.2.1 rs.length) ∧ (o.1 = 7 → inB o.2.2.2.1 rs.length) ∧
    (o.1 ≠ 1 → o.1 ≠ 6 → o.1 ≠ 8 → o.1 ≠ 9 → rs.getD o.2.1.toNat 0 ≠ nil) ∧ (o.1 = 1 ∨ o.1 = 2 ∨ o.1 = 9 → rs.length ≠ 8) := by
  unfold beginC at h
  split at h
  · cases h
  · rename_i h1
    split at h
    · cases h
    · rename_i h2
      split at h
      · cases h
      · rename_i h3
        simp only [not_or, not_and, Decidable.not_not] at h1
        refine ⟨fun e => h1.1 e, fun e1 e2 => h1.2.1 e1 e2, fun e => h1.2.2.1 e, fun e => h1.2.2.2 e, fun e1 e2 e3 e4 e5 => h2 ⟨e1, e2, e3, e4, e5⟩, fun e1 e2 => h3 ⟨e1, e2⟩⟩

theorem inB_nat {i : Int} {n : Nat} (h : inB i n) : 0 ≤ i ∧ i.toNat < n := by unfold inB at h; omega
theorem inB_all {i : Int} {n : Nat} (h : inB i n) : 0 ≤ i ∧ i.toNat < n ∧ i < (n : Int) := by unfold inB at h; omega


section
variable {N : Nat} (hN : lim < N)
include hN

theorem sGraphDo_new {v : Int × Opx × Int × Int × Int × List Nd × List (List Int) × List Int × List Int × List Int × Unit} (hR : v.2.1.2.2.2.2.2.2.1.1 ≤ 4) (hR0 : 0 ≤ v.2.1.2.2.2.2.2.2.1.1) (hi : v.2.2.2.2.1 = 0) (hl : v.2.2.2.2.2.2.2.2.1 = []) (ht : 0 ≤ v.2.2.1) :
    lsGraphDo_1 N N v = some (v.1, v.2.2.1, v.2.2.2.1, v.2.2.2.2.2.1, v.2.2.2.2.2.2.1, v.2.2.2.2.2.2.2.1, List.replicate v.2.1.2.2.2.2.2.2.1.1.toNat (-1), v.2.2.2.2.2.2.2.2.2.1, ()) := by
  obtain ⟨t, o, u1, c, i, ns, rs, ps, l, m, ⟨⟩⟩ := v
  simp only at hR hR0 hi hl ht
  subst hi hl
  have hu : ((u1.toNat : Nat) : Int) = u1 := by omega
  have key : ∀ (n i : Nat), (i : Int) ≤ o.2.2.2.2.2.2.1.1 → o.2.2.2.2.2.2.1.1.toNat - i < n →
      lsGraphDo_1 N n (t, o, u1, c, (i : Int), ns, rs, ps, List.replicate i (-1), m, ()) = some (t, u1, c, ns, rs, ps, List.replicate o.2.2.2.2.2.2.1.1.toNat (-1), m, ()) := by
    intro n
    induction n with
    | zero => intro i _ h; exact absurd h (Nat.not_lt_zero _)
    | succ n ih =>
      intro i hi hn
      by_cases h : (i : Int) < o.2.2.2.2.2.2.1.1
      · have hw : w64 ((i : Int) + 1) = ((i + 1 : Nat) : Int) := w64_succ (by omega)
        have hlim : i + 1 ≤ lim := by rw [lim_eq]; omega
        have := ih (i + 1) (by omega) (by omega)
        simp only [lsGraphDo_1, hw]
        simp only [h, decide_true, cond_true, List.length_replicate, List.length_singleton, hlim, ← List.replicate_succ', Int.ofNat_eq_natCast, hu]
        exact this
      · have e : o.2.2.2.2.2.2.1.1.toNat = i := by omega
        simp [lsGraphDo_1, h, e, hu]
  have := key N 0 (by omega) (by rw [lim_eq] at hN; omega)
  simpa using this

theorem sGraphDo_act {g : Gr} {t : Int} {o : Opx} (hg : okG g = true) (ht : inB t g.2.1.length) (ho : opOk o = true) (hz : beginC o (g.2.1.getD t.toNat []) (-1) = 0) :
    FsGraphDo N (g, t, o, ()) = some (actG g t o (g.2.1.getD t.toNat [])) := by
  have hs := okG_small hN hg
  obtain ⟨k1, k11⟩ := opOk_kind ho
  obtain ⟨t0, t1⟩ := inB_nat ht
  have t1' : ¬ t < 0 := by omega
  have t2' : ¬ t ≥ (g.2.1.length : Int) := by unfold inB at ht; omega
  obtain ⟨z1, z2, z3, z4, z5, z6⟩ := begin_zero hz
  have hok := okG_iff.1 hg
  have hrs : okR g.1.length (g.2.1.getD t.toNat []) = true ∧ (g.2.1.getD t.toNat []).length ≤ 8 := by
    rw [getD_lt t1]
    have := hok.2.2.2.2.1 _ (List.getElem_mem t1)
    exact ⟨this.2, this.1⟩
  unfold FsGraphDo
  dsimp only
  refine obind_eq (r := .inl (t, g, o, ())) (by simp [sGraphOk_ok hN hs, hg, sOpOk_ok, ho, t1', t2']) ?_
  dsimp only [Sum.elim_inl]
  refine obind_eq (sl5Copy_ok hN hs) (cguard t0 (cguard t1 (obind_eq (sl5Begin_ok k1 k11) ?_)))
  dsimp only
  rw [hz]
  generalize hrse : g.2.1.getD t.toNat [] = rs at *
  have hra : ∀ {i : Int}, inB i rs.length → rs.getD i.toNat 0 ≠ -1 → 0 ≤ rs.getD i.toNat 0 ∧ (rs.getD i.toNat 0).toNat < g.1.length ∧ rs.getD i.toNat 0 < (g.1.length : Int) := by
    intro i hi hne
    obtain ⟨a, b⟩ := inB_nat hi
    rw [getD_lt b] at hne ⊢
    have := okR_iff.1 hrs.1 _ (List.getElem_mem b)
    omega
  obtain ⟨k, A, B, C, F, V, ⟨R, M, ⟨⟩⟩, ⟨⟩⟩ := o
  simp only at k1 k11 z1 z2 z3 z4 z5 z6
  have hmx : max t 0 = t := by omega
  rcases kind_cases k1 k11 with h | h | h | h | h | h | h | h | h | h | h <;> subst h
  · -- new
    simp only [opOk, shOk, Bool.and_eq_true, decide_eq_true_eq, Bool.or_eq_true, Bool.not_eq_true', decide_eq_false_iff_not] at ho
    have hsh := (ho.2.2.resolve_left (by simp))
    obtain ⟨r0, r4, m0, m4⟩ := hsh
    have m4' : M.toNat ≤ lim := by rw [lim_eq]; omega
    have l200 : ((g.1.length : Int) = 200) ↔ g.1.length = 200 := by omega
    rcases Classical.propComplete (g.1.length = 200) with e | e
    · simp [-List.getD_eq_getElem?_getD, l200, e, actG, sl5Fields_ok]
    · have hl1 : g.1.length + 1 ≤ lim := by rw [lim_eq]; omega
      have hl2 : rs.length + 1 ≤ lim := by rw [lim_eq]; omega
      have hw : w64 ((g.1.length : Int) + 1 - 1) = g.1.length := by rw [w64_id (by omega) (by omega)]; omega
      have hw2 : w64 (g.1.length : Int) = g.1.length := w64_id (by omega) (by omega)
      have m5 : M ≤ (lim : Int) := by have : (lim : Int) = 2147483648 := rfl; omega
      simp [-List.getD_eq_getElem?_getD, l200, e, actG, m0, m4', m5, hmx, hw2, sGraphDo_new hN, r0, r4, t0, t1, hl1, hl2, hw, hrse, sl5Fields_ok]
  · -- load
    obtain ⟨a1, a2, a3⟩ := inB_all (z2 (by omega) (by omega))
    obtain ⟨n1, n2, n3⟩ := hra (z2 (by omega) (by omega)) (z5 (by omega) (by omega) (by omega) (by omega))
    have hl2 : rs.length + 1 ≤ lim := by rw [lim_eq]; omega
    by_cases f : inB F (g.1.getD (rs.getD A.toNat 0).toNat nd0).1.length
    · obtain ⟨f1, f2, f3⟩ := inB_all f
      simp [-List.getD_eq_getElem?_getD, actG, sl5Fields_ok, a1, a2, a3, n1, n2, n3, hmx, sl5Field_ok, f, f1, f2, f3, t0, t1, hl2, hrse]
    · simp [-List.getD_eq_getElem?_getD, actG, sl5Fields_ok, a1, a2, a3, n1, n2, n3, hmx, sl5Field_ok, f]
  · -- store
    obtain ⟨a1, a2, a3⟩ := inB_all (z2 (by omega) (by omega))
    obtain ⟨b1, b2, b3⟩ := inB_all (z3 (by omega))
    obtain ⟨n1, n2, n3⟩ := hra (z2 (by omega) (by omega)) (z5 (by omega) (by omega) (by omega) (by omega))
    by_cases f : inB F (g.1.getD (rs.getD A.toNat 0).toNat nd0).1.length
    · obtain ⟨f1, f2, f3⟩ := inB_all f
      simp [-List.getD_eq_getElem?_getD, actG, sl5Fields_ok, a1, a2, a3, b1, b2, b3, n1, n2, n3, hmx, sl5Field_ok, f, f1, f2, f3, hrse]
    · simp [-List.getD_eq_getElem?_getD, actG, sl5Fields_ok, a1, a2, a3, n1, n2, n3, hmx, sl5Field_ok, f]
  · -- put
    obtain ⟨a1, a2, a3⟩ := inB_all (z2 (by omega) (by omega))
    obtain ⟨n1, n2, n3⟩ := hra (z2 (by omega) (by omega)) (z5 (by omega) (by omega) (by omega) (by omega))
    by_cases f : inB F (g.1.getD (rs.getD A.toNat 0).toNat nd0).2.1.length
    · obtain ⟨f1, f2, f3⟩ := inB_all f
      simp [-List.getD_eq_getElem?_getD, actG, sl5Fields_ok, a1, a2, a3, n1, n2, n3, hmx, sl5Field_ok, f, f1, f2, f3, hrse]
    · simp [-List.getD_eq_getElem?_getD, actG, sl5Fields_ok, a1, a2, a3, n1, n2, n3, hmx, sl5Field_ok, f]
  · -- get
    obtain ⟨a1, a2, a3⟩ := inB_all (z2 (by omega) (by omega))
    obtain ⟨n1, n2, n3⟩ := hra (z2 (by omega) (by omega)) (z5 (by omega) (by omega) (by omega) (by omega))
    by_cases f : inB F (g.1.getD (rs.getD A.toNat 0).toNat nd0).2.1.length
    · obtain ⟨f1, f2, f3⟩ := inB_all f
      simp [-List.getD_eq_getElem?_getD, actG, sl5Fields_ok, a1, a2, a3, n1, n2, n3, hmx, sl5Field_ok, f, f1, f2, f3, hrse]
    · simp [-List.getD_eq_getElem?_getD, actG, sl5Fields_ok, a1, a2, a3, n1, n2, n3, hmx, sl5Field_ok, f]
  · -- same
    obtain ⟨a1, a2, a3⟩ := inB_all (z2 (by omega) (by omega))
    obtain ⟨b1, b2, b3⟩ := inB_all (z3 (by omega))
    simp [-List.getD_eq_getElem?_getD, actG, sl5Fields_ok, a1, a2, a3, b1, b2, b3, hrse, hmx, sl5One_ok]
  · -- cas
    obtain ⟨a1, a2, a3⟩ := inB_all (z2 (by omega) (by omega))
    obtain ⟨b1, b2, b3⟩ := inB_all (z3 (by omega))
    obtain ⟨c1, c2, c3⟩ := inB_all (z4 (by omega))
    obtain ⟨n1, n2, n3⟩ := hra (z2 (by omega) (by omega)) (z5 (by omega) (by omega) (by omega) (by omega))
    by_cases f : inB F (g.1.getD (rs.getD A.toNat 0).toNat nd0).1.length
    · obtain ⟨f1, f2, f3⟩ := inB_all f
      by_cases e : (g.1.getD (rs.getD A.toNat 0).toNat nd0).1.getD F.toNat 0 = rs.getD B.toNat 0
      · simp [-List.getD_eq_getElem?_getD, actG, sl5Fields_ok, a1, a2, a3, b1, b2, b3, c1, c2, c3, n1, n2, n3, hmx, sl5Field_ok, f, f1, f2, f3, hrse, e]
      · simp [-List.getD_eq_getElem?_getD, actG, sl5Fields_ok, a1, a2, a3, b1, b2, b3, c1, c2, c3, n1, n2, n3, hmx, sl5Field_ok, f, f1, f2, f3, hrse, e]
    · simp [-List.getD_eq_getElem?_getD, actG, sl5Fields_ok, a1, a2, a3, n1, n2, n3, hmx, sl5Field_ok, f]
  · -- drop
    have hl := z1 rfl
    have hw : w64 ((rs.length : Int) - 1) = ((rs.length - 1 : Nat) : Int) := by rw [w64_id (by omega) (by omega)]; omega
    have h1 : ((rs.length - 1 : Nat) : Int) ≤ (rs.length : Int) := by omega
    simp [-List.getD_eq_getElem?_getD, actG, sl5Fields_ok, t0, t1, hw, hrse, hmx, h1]
  · -- dup
    obtain ⟨a1, a2, a3⟩ := inB_all (z2 (by omega) (by omega))
    have hl2 : rs.length + 1 ≤ lim := by rw [lim_eq]; omega
    simp [-List.getD_eq_getElem?_getD, actG, sl5Fields_ok, a1, a2, a3, t0, t1, hrse, hmx, hl2]
  · -- pin
    obtain ⟨a1, a2, a3⟩ := inB_all (z2 (by omega) (by omega))
    have hl2 : g.2.2.1.length + 1 ≤ lim := by rw [lim_eq]; omega
    by_cases e : g.2.2.1.length = 8
    · simp [-List.getD_eq_getElem?_getD, actG, sl5Fields_ok, a1, a2, a3, hrse, hmx, sl5Pins_pin hN hl2, e]
    · simp [-List.getD_eq_getElem?_getD, actG, sl5Fields_ok, a1, a2, a3, hrse, hmx, sl5Pins_pin hN hl2, e]
  · -- unpin
    obtain ⟨a1, a2, a3⟩ := inB_all (z2 (by omega) (by omega))
    have hl2 : g.2.2.1.length ≤ lim := by rw [lim_eq]; omega
    by_cases e : lastP g.2.2.1 (rs.getD A.toNat 0) < 0
    · simp [-List.getD_eq_getElem?_getD, actG, sl5Fields_ok, a1, a2, a3, hrse, hmx, sl5Pins_unpin hN hl2, e]
    · simp [-List.getD_eq_getElem?_getD, actG, sl5Fields_ok, a1, a2, a3, hrse, hmx, sl5Pins_unpin hN hl2, e]

theorem sGraphDo_ok {g : Gr} {t : Int} {o : Opx} (hs : smG g) : FsGraphDo N (g, t, o, ()) = some (doG g t o) := by
  by_cases hc : okG g = true ∧ inB t g.2.1.length ∧ opOk o = true
  · obtain ⟨hg, ht, ho⟩ := hc
    by_cases hz : beginC o (g.2.1.getD t.toNat []) (-1) = 0
    · rw [sGraphDo_act hN hg ht ho hz]
      simp only [doG, hg, ht, ho, hz, and_self, if_true]
    · obtain ⟨k1, k11⟩ := opOk_kind ho
      obtain ⟨t0, t1⟩ := inB_nat ht
      have t1' : ¬ t < 0 := by omega
      have t2' : ¬ t ≥ (g.2.1.length : Int) := by unfold inB at ht; omega
      unfold FsGraphDo
      dsimp only
      refine obind_eq (r := .inl (t, g, o, ())) (by simp [sGraphOk_ok hN hs, hg, sOpOk_ok, ho, t1', t2']) ?_
      dsimp only [Sum.elim_inl]
      refine obind_eq (sl5Copy_ok hN hs) (cguard t0 (cguard t1 (obind_eq (sl5Begin_ok k1 k11) ?_)))
      simp only [doG, hg, ht, ho, hz, and_self, if_true, if_false]
      generalize beginC o (g.2.1.getD t.toNat []) (-1) = c at hz ⊢
      simp [hz]
  · simp only [doG, hc, if_false]
    unfold FsGraphDo
    dsimp only
    cases hg : okG g with
    | false => simp [sGraphOk_ok hN hs, hg]
    | true =>
      by_cases h1 : t < 0
      · simp [sGraphOk_ok hN hs, hg, h1]
      · by_cases h2 : t ≥ (g.2.1.length : Int)
        · have h2' : (g.2.1.length : Int) ≤ t := h2
          simp [sGraphOk_ok hN hs, hg, h1, h2']
        · have ht : inB t g.2.1.length := by unfold inB; omega
          have ho : opOk o = false := by
            cases h : opOk o with
            | false => rfl
            | true => exact absurd ⟨hg, ht, h⟩ hc
          have h2' : ¬ (g.2.1.length : Int) ≤ t := h2
          simp [sGraphOk_ok hN hs, hg, h1, h2', sOpOk_ok, ho]
end

theorem okR_mono {m m' : Nat} {l : List Int} (h : okR m l = true) (hm : m ≤ m') : okR m' l = true := by
  rw [okR_iff] at h ⊢
  intro x hx
  have := h x hx
  omega

theorem okR_push {m : Nat} {l : List Int} {x : Int} (h : okR m l = true) (h1 : -1 ≤ x) (h2 : x < (m : Int)) : okR m (l ++ [x]) = true := by
  rw [okR_iff] at h ⊢
  intro y hy
  simp only [List.mem_append, List.mem_singleton] at hy
  rcases hy with hy | rfl
  · exact h y hy
  · exact ⟨h1, h2⟩

theorem okR_set {m : Nat} {l : List Int} {x : Int} {i : Nat} (h : okR m l = true) (h1 : -1 ≤ x) (h2 : x < (m : Int)) : okR m (l.set i x) = true := by
  rw [okR_iff] at h ⊢
  intro y hy
  rcases List.mem_or_eq_of_mem_set hy with hy | rfl
  · exact h y hy
  · exact ⟨h1, h2⟩

theorem okR_sub {m : Nat} {l l' : List Int} (h : okR m l = true) (hs : ∀ x ∈ l', x ∈ l) : okR m l' = true := by
  rw [okR_iff] at h ⊢
  exact fun y hy => h y (hs y hy)

theorem okR_get {m : Nat} {l : List Int} {i : Nat} (h : okR m l = true) (hi : i < l.length) : -1 ≤ l.getD i 0 ∧ l.getD i 0 < (m : Int) := by
  rw [getD_lt hi]
  exact okR_iff.1 h _ (List.getElem_mem hi)

theorem inBn {i : Int} {n : Nat} (h : inB i n) : 0 ≤ i ∧ i.toNat < n := by unfold inB at h; omega

theorem beginZ {o : Opx} {rs : List Int} {nil : Int} (h : beginC o rs nil = 0) : (o.1 = 8 → rs.length ≠ 0) ∧ (o.1 ≠ 1 → o.1 ≠ 8 → inB o.2.1 rs.length) ∧ (o.1 = 3 ∨ o.1 = 6 ∨ o.1 = 7 → inB o.2.2.1 rs.length) ∧ (o.1 = 7 → inB o.2.2.2.1 rs.length) ∧
    (o.1 ≠ 1 → o.1 ≠ 6 → o.1 ≠ 8 → o.1 ≠ 9 → rs.getD o.2.1.toNat 0 ≠ nil) ∧ (o.1 = 1 ∨ o.1 = 2 ∨ o.1 = 9 → rs.length ≠ 8) := by
  unfold beginC at h
  split at h
  · cases h
  · rename_i h1
    split at h
    · cases h
    · rename_i h2
      split at h
      · cases h
      · rename_i h3
        simp only [not_or, not_and, Decidable.not_not] at h1
        refine ⟨fun e => h1.1 e, fun e1 e2 => h1.2.1 e1 e2, fun e => h1.2.2.1 e, fun e => h1.2.2.2 e, fun e1 e2 e3 e4 e5 => h2 ⟨e1, e2, e3, e4, e5⟩, fun e1 e2 => h3 ⟨e1, e2⟩⟩

/-- A graph with other roots of a thread. -/
theorem okG_roots {g : Gr} {t : Int} {l : List Int} (h : okG g = true) (hl : l.length ≤ 8) (hr : okR g.1.length l = true) : okG (g.1, g.2.1.set t.toNat l, g.2.2.1, ()) = true := by
  obtain ⟨h1, h2, h3, h4, h5, h6, h7, h8⟩ := okG_iff.1 h
  refine okG_iff.2 ⟨h1, by simpa using h2, by simpa using h3, h4, fun r hm => ?_, h6, h7, h8⟩
  rcases List.mem_or_eq_of_mem_set hm with hm | rfl
  · exact h5 r hm
  · exact ⟨hl, hr⟩

/-- A graph with another node. -/
theorem okG_node {g : Gr} {i : Nat} {n : Nd} (h : okG g = true) (hn : n.1.length ≤ 4 ∧ n.2.1.length ≤ 4 ∧ okR g.1.length n.1 = true) : okG (g.1.set i n, g.2.1, g.2.2.1, ()) = true := by
  obtain ⟨h1, h2, h3, h4, h5, h6, h7, h8⟩ := okG_iff.1 h
  refine okG_iff.2 ⟨by simpa using h1, h2, h3, fun x hm => ?_, by simpa using h5, h6, h7, by simpa using h8⟩
  simp only [List.length_set]
  rcases List.mem_or_eq_of_mem_set hm with hm | rfl
  · exact h4 x hm
  · exact hn

theorem actG_ok {g : Gr} {t : Int} {o : Opx} (hg : okG g = true) (ht : inB t g.2.1.length) (ho : opOk o = true) (hz : beginC o (g.2.1.getD t.toNat []) (-1) = 0) : okG (actG g t o (g.2.1.getD t.toNat [])).2.2 = true := by
  obtain ⟨k1, k11⟩ := opOk_kind ho
  obtain ⟨t0, t1⟩ := inBn ht
  obtain ⟨z1, z2, z3, z4, z5, z6⟩ := beginZ hz
  have hok := okG_iff.1 hg
  have hrs : okR g.1.length (g.2.1.getD t.toNat []) = true ∧ (g.2.1.getD t.toNat []).length ≤ 8 := by
    rw [getD_lt t1]
    have := hok.2.2.2.2.1 _ (List.getElem_mem t1)
    exact ⟨this.2, this.1⟩
  generalize hrse : g.2.1.getD t.toNat [] = rs at *
  have hra : ∀ {i : Int}, inB i rs.length → -1 ≤ rs.getD i.toNat 0 ∧ rs.getD i.toNat 0 < (g.1.length : Int) := fun hi => okR_get hrs.1 (inBn hi).2
  have hnode : ∀ {i : Int}, inB i rs.length → rs.getD i.toNat 0 ≠ -1 → (g.1.getD (rs.getD i.toNat 0).toNat nd0).1.length ≤ 4 ∧ (g.1.getD (rs.getD i.toNat 0).toNat nd0).2.1.length ≤ 4 ∧ okR g.1.length (g.1.getD (rs.getD i.toNat 0).toNat nd0).1 = true := by
    intro i hi hne
    have := hra hi
    have hlt : (rs.getD i.toNat 0).toNat < g.1.length := by omega
    rw [getD_lt hlt]
    exact hok.2.2.2.1 _ (List.getElem_mem hlt)
  obtain ⟨k, A, B, C, F, V, ⟨R, M, ⟨⟩⟩, ⟨⟩⟩ := o
  simp only at k1 k11 z1 z2 z3 z4 z5 z6
  unfold actG
  dsimp only
  rcases kind_cases k1 k11 with h | h | h | h | h | h | h | h | h | h | h <;> subst h <;> simp only [Int.reduceEq, ↓reduceIte]
  · simp only [opOk, shOk, Bool.and_eq_true, decide_eq_true_eq, Bool.or_eq_true, Bool.not_eq_true', decide_eq_false_iff_not] at ho
    obtain ⟨r0, r4, m0, m4⟩ := ho.2.2.resolve_left (by simp)
    split
    · exact hg
    · rename_i hne
      have z6 := z6 (.inl rfl)
      obtain ⟨h1, h2, h3, h4, h5, h6, h7, h8⟩ := hok
      refine okG_iff.2 ⟨by simp; omega, by simpa using h2, by simpa using h3, fun x hm => ?_, fun r hm => ?_, h6, h7, okR_mono h8 (by simp)⟩
      · simp only [List.mem_append, List.mem_singleton] at hm
        rcases hm with hm | rfl
        · exact ⟨(h4 x hm).1, (h4 x hm).2.1, okR_mono (h4 x hm).2.2 (by simp)⟩
        · refine ⟨by simp; omega, by simp; omega, okR_iff.2 fun y hy => ?_⟩
          have := List.eq_of_mem_replicate hy
          subst this
          simp only [List.length_append, List.length_singleton]
          omega
      · rcases List.mem_or_eq_of_mem_set hm with hm | rfl
        · exact ⟨(h5 r hm).1, okR_mono (h5 r hm).2 (by simp)⟩
        · refine ⟨by simp; omega, okR_push (okR_mono hrs.1 (by simp)) (by omega) (by simp only [List.length_append, List.length_singleton]; omega)⟩
  · have hA := z2 (by omega) (by omega)
    have hn := hnode hA (z5 (by omega) (by omega) (by omega) (by omega))
    have z6 := z6 (.inr (.inl rfl))
    split
    · rename_i hF
      have := okR_get hn.2.2 (inBn hF).2
      exact okG_roots hg (by simp; omega) (okR_push hrs.1 this.1 this.2)
    · exact hg
  · have hA := z2 (by omega) (by omega)
    have hn := hnode hA (z5 (by omega) (by omega) (by omega) (by omega))
    have hB := hra (z3 (by omega))
    split
    · exact okG_node hg ⟨by simpa using hn.1, hn.2.1, okR_set hn.2.2 hB.1 hB.2⟩
    · exact hg
  · have hA := z2 (by omega) (by omega)
    have hn := hnode hA (z5 (by omega) (by omega) (by omega) (by omega))
    split
    · exact okG_node hg ⟨hn.1, by simpa using hn.2.1, hn.2.2⟩
    · exact hg
  · split <;> exact hg
  · exact hg
  · have hA := z2 (by omega) (by omega)
    have hn := hnode hA (z5 (by omega) (by omega) (by omega) (by omega))
    have hC := hra (z4 (by omega))
    split
    · split
      · exact okG_node hg ⟨by simpa using hn.1, hn.2.1, okR_set hn.2.2 hC.1 hC.2⟩
      · exact hg
    · exact hg
  · exact okG_roots hg (by simp; omega) (okR_sub hrs.1 fun x hx => List.mem_of_mem_take hx)
  · have hA := hra (z2 (by omega) (by omega))
    have z6 := z6 (.inr (.inr rfl))
    exact okG_roots hg (by simp; omega) (okR_push hrs.1 hA.1 hA.2)
  · have hA := z2 (by omega) (by omega)
    have hAr := hra hA
    have hne := z5 (by omega) (by omega) (by omega) (by omega)
    split
    · exact hg
    · obtain ⟨h1, h2, h3, h4, h5, h6, h7, h8⟩ := hok
      refine okG_iff.2 ⟨h1, h2, h3, h4, h5, by simp; omega, fun x hx => ?_, okR_push h8 hAr.1 hAr.2⟩
      simp only [List.mem_append, List.mem_singleton] at hx
      rcases hx with hx | rfl
      · exact h7 x hx
      · omega
  · split
    · exact hg
    · obtain ⟨h1, h2, h3, h4, h5, h6, h7, h8⟩ := hok
      have hsub : ∀ x ∈ g.2.2.1.take (lastP g.2.2.1 (rs.getD A.toNat 0)).toNat ++ g.2.2.1.drop ((lastP g.2.2.1 (rs.getD A.toNat 0)).toNat + 1), x ∈ g.2.2.1 := by
        intro x hx
        rcases List.mem_append.1 hx with hx | hx
        · exact List.mem_of_mem_take hx
        · exact List.mem_of_mem_drop hx
      exact okG_iff.2 ⟨h1, h2, h3, h4, h5, by simp; omega, fun x hx => h7 x (hsub x hx), okR_sub h8 hsub⟩

theorem doG_ok {g : Gr} {t : Int} {o : Opx} (h : (doG g t o).2.1 ≠ 1) : okG g = true ∧ okG (doG g t o).2.2 = true := by
  unfold doG at h ⊢
  split
  · rename_i hc
    refine ⟨hc.1, ?_⟩
    split
    · rename_i hz; exact actG_ok hc.1 hc.2.1 hc.2.2 hz
    · exact hc.1
  · rename_i hc; simp [hc] at h

theorem actG_len {g : Gr} {t : Int} {o : Opx} {rs : List Int} : g.1.length ≤ (actG g t o rs).2.2.1.length ∧ (actG g t o rs).2.2.2.1.length = g.2.1.length := by
  by_cases h1 : o.1 = 1
  · simp only [actG, h1, Int.reduceEq, ↓reduceIte]
    split <;> simp
  by_cases h2 : o.1 = 2
  · simp only [actG, h2, Int.reduceEq, ↓reduceIte]
    split <;> simp
  by_cases h3 : o.1 = 3
  · simp only [actG, h3, Int.reduceEq, ↓reduceIte]
    split <;> simp
  by_cases h4 : o.1 = 4
  · simp only [actG, h4, Int.reduceEq, ↓reduceIte]
    split <;> simp
  by_cases h5 : o.1 = 5
  · simp only [actG, h5, Int.reduceEq, ↓reduceIte]
    split <;> simp
  by_cases h6 : o.1 = 6
  · simp only [actG, h6, Int.reduceEq, ↓reduceIte]
    simp
  by_cases h7 : o.1 = 7
  · simp only [actG, h7, Int.reduceEq, ↓reduceIte]
    (repeat' split) <;> simp
  by_cases h8 : o.1 = 8
  · simp only [actG, h8, Int.reduceEq, ↓reduceIte]
    simp
  by_cases h9 : o.1 = 9
  · simp only [actG, h9, Int.reduceEq, ↓reduceIte]
    simp
  by_cases h10 : o.1 = 10
  · simp only [actG, h10, Int.reduceEq, ↓reduceIte]
    split <;> simp
  simp only [actG, h1, h2, h3, h4, h5, h6, h7, h8, h9, h10, if_false]
  split <;> simp

theorem doG_len {g : Gr} {t : Int} {o : Opx} (h : (doG g t o).2.1 ≠ 1) : g.1.length ≤ (doG g t o).2.2.1.length ∧ (doG g t o).2.2.2.1.length = g.2.1.length := by
  unfold doG at h ⊢
  split
  · split
    · exact actG_len
    · exact ⟨Nat.le_refl _, rfl⟩
  · rename_i hc; simp [hc] at h

section
variable {N : Nat} (hN : lim < N)
include hN

theorem sGraphNew_ok {n : Int} (h1 : 1 ≤ n) (h3 : n ≤ 3) : FsGraphNew N (n, ()) = some (true, [([-1, -1, -1, -1], [0, 0], ())], List.replicate n.toNat [0], ()) := by
  have hN' : 2147483648 < N := by rw [lim_eq] at hN; exact hN
  obtain ⟨m, rfl⟩ : ∃ m, N = m + 10 := ⟨N - 10, by omega⟩
  have e0 : ∀ a b, lsGraphNew_0 (m + 10) (m + 10) (a, 0, [], b, ()) = some (a, [-1, -1, -1, -1], b, ()) := by
    intro a b
    have w1 : w64 1 = 1 := by decide
    have w2 : w64 2 = 2 := by decide
    have w3 : w64 3 = 3 := by decide
    have w4 : w64 4 = 4 := by decide
    simp [lsGraphNew_0, w1, w2, w3, w4, lim_eq]
  have e2 : ∀ a, lsGraphNew_2 (m + 10) (m + 10) (n, 0, a, [], ()) = some (a, List.replicate n.toNat [0], ()) := by
    intro a
    have w1 : w64 1 = 1 := by decide
    have w2 : w64 2 = 2 := by decide
    have w3 : w64 3 = 3 := by decide
    have : n = 1 ∨ n = 2 ∨ n = 3 := by omega
    rcases this with h | h | h <;> subst h <;> simp [lsGraphNew_2, w1, w2, w3, lim_eq] <;> rfl
  have c1 : ¬ n < 1 := by omega
  have c2 : ¬ n > 3 := by omega
  have c3 : ¬ 3 < n := by omega
  simp [FsGraphNew, c1, c2, c3, e0, e2, lim_eq]

theorem newG_ok {n : Int} (h1 : 1 ≤ n) (h3 : n ≤ 3) : okG ([([-1, -1, -1, -1], [0, 0], ())], List.replicate n.toNat [0], [], ()) = true := by
  refine okG_iff.2 ⟨by simp, by simp; omega, by simp; omega, ?_, ?_, by simp, by simp, by rfl⟩
  · intro x hx
    simp only [List.mem_singleton] at hx
    subst hx
    exact ⟨by decide, by decide, by simp [okR]⟩
  · intro r hr
    have := List.eq_of_mem_replicate hr
    subst this
    exact ⟨by decide, by simp [okR]⟩

theorem l20Graph_0_ok {cnt : Int} {b : List Int} (hb : byteL b) (hc : cnt ≤ 30) : ∀ (n i : Nat) (p : Int) (g : Gr), 30 - i < n → i ≤ 30 → okG g = true → 1 ≤ g.1.length → 0 ≤ p → p < 1099511000000 - 40 * (30 - i) →
    Ret (lsl20Graph_0 N n (cnt, (i : Int), b, p, g.1, g.2.1, g.2.2.1, ())) (fun r => r.1 = b ∧ p ≤ r.2.1 ∧ r.2.1 ≤ p + 40 * (30 - i) ∧ okG r.2.2 = true ∧ 1 ≤ r.2.2.1.length)
  | 0, _, _, _, h, _, _, _, _, _ => absurd h (Nat.not_lt_zero _)
  | n + 1, i, p, g, hn, hi0, hg, h1, hp, hp' => by
    have hok := okG_iff.1 hg
    have hs := okG_small hN hg
    unfold lsl20Graph_0
    dsimp only
    refine Ret.dec (fun hi => ?_) (fun hi => ?_)
    · refine pick_bind hb (by omega) (by omega) (fun t t0 t1 => ?_)
      dsimp only
      have ht : t.toNat < g.2.1.length := by omega
      refine Ret.guard t0 (Ret.guard ht ?_)
      refine Ret.bind _ (l20Op_ok hb (by omega) (by omega)) (fun r hr => ?_)
      obtain ⟨k, A, B, C, F, V, R, M, b', p', ⟨⟩⟩ := r
      simp only at hr
      obtain ⟨rfl, p1, p2⟩ := hr
      dsimp only
      have hw : w64 ((i : Int) + 1) = ((i + 1 : Nat) : Int) := w64_succ (by omega)
      refine Ret.bindE (sGraphDo_ok hN (g := g) (t := t) (o := (k, A, B, C, F, V, (R, M, ()), ())) hs) ?_
      have hi30 : (i : Int) < 30 := by omega
      rw [hw]
      by_cases hcode : (doG g t (k, A, B, C, F, V, (R, M, ()), ())).2.1 = 1
      · simp only [hcode, bne_self_eq_false, cond_false]
        refine (l20Graph_0_ok hb hc n (i + 1) p' g (by omega) (by omega) hg h1 (by omega) (by omega)).mono fun r hr => ?_
        obtain ⟨r1, r2, r3, r5, r6⟩ := hr
        exact ⟨r1, by omega, by omega, r5, r6⟩
      · have hb2 : ((doG g t (k, A, B, C, F, V, (R, M, ()), ())).2.1 != 1) = true := by simpa using hcode
        simp only [hb2, cond_true]
        obtain ⟨_, hg'⟩ := doG_ok hcode
        obtain ⟨hl', _⟩ := doG_len hcode
        refine (l20Graph_0_ok hb hc n (i + 1) p' (doG g t (k, A, B, C, F, V, (R, M, ()), ())).2.2 (by omega) (by omega) hg' (by omega) (by omega) (by omega)).mono fun r hr => ?_
        obtain ⟨r1, r2, r3, r5, r6⟩ := hr
        exact ⟨r1, by omega, by omega, r5, r6⟩
    · exact Ret.pure ⟨rfl, by dsimp only; omega, by dsimp only; omega, hg, h1⟩

theorem l20Graph_3_ok {b : List Int} (hb : byteL b) (rs : List (List Int)) (ps : List Int) : ∀ (n : Nat) (p : Int) (ns : List Nd), 201 - ns.length < n → ns.length ≤ 201 → 0 ≤ p → p < 1099511500000 + ns.length → (∀ x ∈ ns, smN x) →
    Ret (lsl20Graph_3 N n (b, p, ns, rs, ps, ())) (fun r => r.1.length ≤ 201 ∧ ns.length ≤ r.1.length ∧ (∀ x ∈ r.1, smN x) ∧ r.2.1 = rs ∧ r.2.2.1 = ps ∧ r.2.2.2.1 = b ∧ p ≤ r.2.2.2.2.1 ∧ r.2.2.2.2.1 ≤ p + 202 - ns.length)
  | 0, _, _, h, _, _, _, _ => absurd h (Nat.not_lt_zero _)
  | n + 1, p, ns, hn, hl, hp, hp', hx => by
    unfold lsl20Graph_3
    dsimp only
    refine pick_bind hb (by omega) (by omega) (fun v v0 v1 => ?_)
    dsimp only
    have hw : w64 (200 + v) = 200 + v := w64_id (by omega) (by omega)
    rw [hw]
    refine Ret.dec (fun h => ?_) (fun h => ?_)
    · refine Ret.guard (by rw [lim_eq]; simp; omega) ?_
      refine (l20Graph_3_ok hb rs ps n (p + 1) (ns ++ [([], [], ())]) (by simp; omega) (by simp; omega) (by omega) (by simp; omega) ?_).mono fun r hr => ?_
      · intro x hm
        simp only [List.mem_append, List.mem_singleton] at hm
        rcases hm with hm | rfl
        · exact hx x hm
        · exact ⟨by simp [sm], by simp [sm]⟩
      · obtain ⟨r1, r2, r3, r4, r5, r6, r7, r8⟩ := hr
        simp only [List.length_append, List.length_singleton] at r2 r8
        exact ⟨r1, by omega, r3, r4, r5, r6, by omega, by omega⟩
    · exact Ret.pure ⟨hl, Nat.le_refl _, hx, rfl, rfl, rfl, by dsimp only; omega, by dsimp only; omega⟩

theorem l20Graph_ok {b : List Int} {p : Int} (hb : byteL b) (hp : 0 ≤ p) (hp' : p < 1000000) :
    Ret (Fsl20Graph N (b, p, ())) (fun r => smG (r.1, r.2.1, r.2.2.1, ()) ∧ 1 ≤ r.1.length ∧ 1 ≤ r.2.1.length ∧ r.2.2.2.1 = b ∧ p ≤ r.2.2.2.2.1 ∧ r.2.2.2.2.1 ≤ p + 2000) := by
  have hN' : 2147483648 < N := by rw [lim_eq] at hN; exact hN
  unfold Fsl20Graph
  dsimp only
  refine pick_bind hb (by omega) (by omega) (fun v1 a1 c1 => ?_)
  dsimp only
  have hw : w64 (1 + v1) = 1 + v1 := w64_id (by omega) (by omega)
  rw [hw]
  refine Ret.bindE (sGraphNew_ok hN (by omega) (by omega)) ?_
  dsimp only
  refine pick_bind hb (by omega) (by omega) (fun v2 a2 c2 => ?_)
  dsimp only
  have h0 := l20Graph_0_ok hN (cnt := v2) hb (by omega) N 0 (p + 1 + 1) ([([-1, -1, -1, -1], [0, 0], ())], List.replicate (1 + v1).toNat [0], [], ()) (by omega) (by omega) (newG_ok hN (by omega) (by omega)) (by simp) (by omega) (by omega)
  refine Ret.bind _ h0 (fun o ho => ?_)
  obtain ⟨b', p', g⟩ := o
  simp only at ho
  obtain ⟨rfl, q1, q2, hg, hg1⟩ := ho
  have hok := okG_iff.1 hg
  have hs := okG_small hN hg
  dsimp only
  refine pick_bind hb (by omega) (by omega) (fun v3 a3 c3 => ?_)
  dsimp only
  refine Ret.beq (fun e => ?_) (fun e => ?_)
  · refine pick_bind hb (by omega) (by omega) (fun v4 a4 c4 => ?_)
    dsimp only
    refine Ret.guard (by omega) (Ret.guard (by show (0 : Nat) < _; omega) (Ret.pure ?_))
    refine ⟨⟨by simpa using hs.1, fun x hm => ?_, hs.2.2⟩, by simpa using hg1, hok.2.1, rfl, by dsimp only; omega, by dsimp only; omega⟩
    rcases List.mem_or_eq_of_mem_set hm with hm | rfl
    · exact hs.2.1 x hm
    · refine ⟨by simp [sm], ?_⟩
      have := hs.2.1 _ (List.getElem_mem (show 0 < g.1.length by omega))
      have e0 : g.1.getD (0 : Int).toNat ([], [], ()) = g.1[0]'(by omega) := getD_lt (show 0 < g.1.length by omega)
      rw [e0]
      exact this.2
  refine Ret.beq (fun e => ?_) (fun e => ?_)
  · refine Ret.guard (by omega) (Ret.guard (by show (0 : Nat) < _; omega) ?_)
    have hr0 := hok.2.2.2.2.1 _ (List.getElem_mem (show 0 < g.2.1.length by omega))
    have e0 : g.2.1.getD (0 : Int).toNat [] = g.2.1[0]'(by omega) := getD_lt (show 0 < g.2.1.length by omega)
    refine Ret.bindE (sl5Ints_ok hN (by rw [e0, lim_eq]; omega)) ?_
    dsimp only
    refine pick_bind hb (by omega) (by omega) (fun v4 a4 c4 => ?_)
    dsimp only
    refine Ret.guard (by rw [e0, lim_eq]; simp; omega) (Ret.guard (by omega) (Ret.guard (by show (0 : Nat) < _; omega) (Ret.pure ?_)))
    refine ⟨⟨hs.1, hs.2.1, by simpa using hs.2.2.1, fun x hm => ?_, hs.2.2.2.2⟩, hg1, by simpa using hok.2.1, rfl, by dsimp only; omega, by dsimp only; omega⟩
    rcases List.mem_or_eq_of_mem_set hm with hm | rfl
    · exact hs.2.2.2.1 x hm
    · rw [e0]; simp [sm]; omega
  refine Ret.beq (fun e => ?_) (fun e => ?_)
  · refine Ret.guard (by rw [lim_eq]; simp; omega) (Ret.pure ?_)
    refine ⟨⟨hs.1, hs.2.1, by simp [sm]; omega, fun x hm => ?_, hs.2.2.2.2⟩, hg1, by simp, rfl, by dsimp only; omega, by dsimp only; omega⟩
    simp only [List.mem_append, List.mem_cons, List.not_mem_nil, or_false] at hm
    rcases hm with hm | rfl | rfl
    · exact hs.2.2.2.1 x hm
    · simp [sm]
    · simp [sm]
  refine Ret.beq (fun e => ?_) (fun e => ?_)
  · refine Ret.bind _ (l20Graph_3_ok hN hb g.2.1 g.2.2.1 N (p' + 1) g.1 (by omega) (by omega) (by omega) (by omega) hs.2.1) (fun r hr => ?_)
    obtain ⟨r1, r2, r3, r4, r5, r6, r7, r8⟩ := hr
    refine Ret.pure ⟨⟨by simp [sm]; omega, r3, ?_⟩, by dsimp only; omega, by dsimp only; rw [r4]; exact hok.2.1, r6, by dsimp only; omega, by dsimp only; omega⟩
    dsimp only
    rw [r4, r5]
    exact hs.2.2
  · exact Ret.pure ⟨hs, hg1, hok.2.1, rfl, by dsimp only; omega, by dsimp only; omega⟩

theorem sl1Open_ok {code : List Int} (hb : ∀ x ∈ code, 0 ≤ x ∧ x < 256) : ∃ b, Fsl1Open_o_ N (code, ()) = some (b, 0, ()) ∧ byteL b := by
  by_cases h : code.length > 2000
  · have h1 : (code.length : Int) > 2000 := by omega
    have h2 : (2000 : Int) ≤ code.length := by omega
    refine ⟨(code.drop 0).take (2000 - 0), by simp only [Fsl1Open_o_, h1, h2]; rfl, by simp; omega, fun x hx => hb x ?_⟩
    exact List.mem_of_mem_take (i := 2000) (by simpa using hx)
  · have h1 : ¬ (code.length : Int) > 2000 := by omega
    exact ⟨code, by simp only [Fsl1Open_o_, h1]; rfl, by omega, hb⟩
end

section
variable {N : Nat} (hN : lim < N)
include hN

theorem vflInts_ok {xs ys : List Int} (hl : xs.length ≤ lim) : FvflInts N (xs, ys, ()) = some (decide (xs = ys), ()) := by
  by_cases hlen : xs.length = ys.length
  · have hL := eq_loop (xs := xs) (ys := ys) (n := N) (L := fun n i => lvflInts_0 N n (xs, ys, (i : Int), ())) (yes := .inl ()) (no := .inr (false, ())) hl hlen
      (fun n i h1 h2 hw hq => by simp [lvflInts_0, h1, h2, hw, hq])
      (fun n i h1 h2 hq => by simp [lvflInts_0, h1, h2, hq])
      (fun n => by simp [lvflInts_0, hlen]) (by omega)
    simp only [Int.natCast_zero] at hL
    rcases Decidable.em (xs = ys) with rfl | h
    · simp [FvflInts, hL]
    · simp [FvflInts, hL, h, hlen]
  · have h : xs ≠ ys := fun h => hlen (by rw [h])
    have h2 : (xs.length : Int) ≠ ys.length := by omega
    simp [FvflInts, h, h2]
end

/-- What a list of references leads to, not through one node. -/
inductive Rch (R : Int → List Int) (skip : Int) (l : List Int) : Int → Prop
  | root {r : Int} : r ∈ l → 0 ≤ r → r ≠ skip → Rch R skip l r
  | step {a r : Int} : Rch R skip l a → r ∈ R a → 0 ≤ r → r ≠ skip → Rch R skip l r

theorem Rch.mono {R : Int → List Int} {skip : Int} {l l' : List Int} (h : ∀ x ∈ l, x ∈ l') {k : Int} (hk : Rch R skip l k) : Rch R skip l' k := by
  induction hk with
  | root h1 h2 h3 => exact .root (h _ h1) h2 h3
  | step _ h1 h2 h3 ih => exact .step ih h1 h2 h3

theorem Rch.trans {R : Int → List Int} {skip : Int} {l : List Int} {r k : Int} (hr : Rch R skip l r) (hk : Rch R skip (R r) k) : Rch R skip l k := by
  induction hk with
  | root h1 h2 h3 => exact .step hr h1 h2 h3
  | step _ h1 h2 h3 ih => exact .step ih h1 h2 h3

abbrev Sn := List (Int × Bool)
abbrev keys (s : Sn) : List Int := s.map Prod.fst

structure Seen (m : Nat) (s : Sn) : Prop where
  nd : (keys s).Nodup
  tr : ∀ p ∈ s, p.2 = true
  rng : ∀ k ∈ keys s, 0 ≤ k ∧ k < (m : Int)

theorem pigeon : ∀ {m : Nat} {l : List Int}, l.Nodup → (∀ k ∈ l, 0 ≤ k ∧ k < (m : Int)) → l.length ≤ m
  | 0, [], _, _ => Nat.le_refl _
  | 0, x :: l, _, h => by have := h x (by simp); omega
  | m + 1, l, hn, h => by
    by_cases hm : (m : Int) ∈ l
    · have h1 := pigeon (m := m) (l := l.erase (m : Int)) (hn.erase _) (fun k hk => by
        have h2 := (hn.mem_erase_iff).1 hk
        have := h k h2.2
        have := h2.1
        omega)
      rw [List.length_erase_of_mem hm] at h1
      omega
    · have h1 := pigeon (m := m) hn (fun k hk => by
        have := h k hk
        have : k ≠ m := fun e => hm (e ▸ hk)
        omega)
      omega

theorem Seen.le {m : Nat} {s : Sn} (h : Seen m s) : s.length ≤ m := by
  have := pigeon h.nd h.rng
  simpa using this

theorem mget_keys : ∀ {s : Sn} {k : Int}, (∀ p ∈ s, p.2 = true) → ((mget s k).getD false = true ↔ k ∈ keys s)
  | [], k, _ => by simp [mget]
  | (q, b) :: s, k, h => by
    have hb : b = true := h (q, b) (by simp)
    subst hb
    have ih := mget_keys (s := s) (k := k) (fun p hp => h p (by simp [hp]))
    by_cases e : k = q
    · simp [mget, e]
    · simp only [mget, e, decide_false, cond_false, ih]
      simp [e]

theorem mset_fresh : ∀ {s : Sn} {k : Int} {b : Bool}, k ∉ keys s → mset s k b = s ++ [(k, b)]
  | [], _, _, _ => rfl
  | (q, c) :: s, k, b, h => by
    have h1 : k ≠ q := fun e => h (by simp [e])
    have h2 : k ∉ keys s := fun e => h (by simp only [keys, List.map_cons, List.mem_cons]; exact .inr e)
    simp only [mset, h1, decide_false, cond_false, mset_fresh h2, List.cons_append]

theorem Seen.add {m : Nat} {s : Sn} (h : Seen m s) {k : Int} (h0 : 0 ≤ k) (h1 : k < (m : Int)) (h2 : k ∉ keys s) : Seen m (s ++ [(k, true)]) := by
  refine ⟨?_, ?_, ?_⟩
  · simp only [keys, List.map_append, List.map_cons, List.map_nil]
    rw [List.nodup_append]
    refine ⟨h.nd, by simp, ?_⟩
    intro a ha b hb e
    simp only [List.mem_singleton] at hb
    subst hb; subst e
    exact h2 ha
  · intro p hp
    simp only [List.mem_append, List.mem_singleton] at hp
    rcases hp with hp | rfl
    · exact h.tr p hp
    · rfl
  · intro p hp
    simp only [keys, List.map_append, List.mem_append, List.map_cons, List.map_nil, List.mem_singleton] at hp
    rcases hp with hp | rfl
    · exact h.rng p hp
    · exact ⟨h0, h1⟩

/-- From one seen to the next. -/
structure Dfs (g : Gr) (skip : Int) (l : List Int) (s s' : Sn) : Prop where
  ok : Seen g.1.length s'
  le : s.length ≤ s'.length
  sub : ∀ k ∈ keys s, k ∈ keys s'
  new : ∀ k ∈ keys s', k ∈ keys s ∨ Rch (refsOf g) skip l k
  roots : ∀ r ∈ l, 0 ≤ r → r ≠ skip → r ∈ keys s'
  closed : ∀ k ∈ keys s', k ∉ keys s → ∀ r ∈ refsOf g k, 0 ≤ r → r ≠ skip → r ∈ keys s'

theorem Dfs.nil {g : Gr} {skip : Int} {s : Sn} (h : Seen g.1.length s) : Dfs g skip [] s s :=
  ⟨h, Nat.le_refl _, fun _ h => h, fun _ h => .inl h, fun _ h => by simp at h, fun _ h h' => absurd h h'⟩

theorem Dfs.skip {g : Gr} {skip r : Int} {l : List Int} {s s' : Sn} (h : Dfs g skip l s s') (hr : 0 ≤ r → r ≠ skip → r ∈ keys s') : Dfs g skip (l ++ [r]) s s' :=
  ⟨h.ok, h.le, h.sub, fun k hk => (h.new k hk).imp_right (Rch.mono fun x hx => by simp [hx]), fun x hx h0 h1 => by
    simp only [List.mem_append, List.mem_singleton] at hx
    rcases hx with hx | rfl
    · exact h.roots x hx h0 h1
    · exact hr h0 h1, h.closed⟩

theorem keys_push {s : Sn} {r k : Int} : k ∈ keys (s ++ [(r, true)]) ↔ k ∈ keys s ∨ k = r := by
  simp only [keys, List.map_append, List.mem_append, List.map_cons, List.map_nil, List.mem_singleton]

theorem Dfs.go {g : Gr} {skip r : Int} {l : List Int} {s s1 s2 : Sn} (h : Dfs g skip l s s1) (h0 : 0 ≤ r) (hs : r ≠ skip) (hn : r ∉ keys s1)
    (h2 : Dfs g skip (refsOf g r) (s1 ++ [(r, true)]) s2) : Dfs g skip (l ++ [r]) s s2 := by
  have hr : Rch (refsOf g) skip (l ++ [r]) r := .root (by simp) h0 hs
  have hsub : ∀ k ∈ keys s1, k ∈ keys s2 := fun k hk => h2.sub k (keys_push.2 (.inl hk))
  have hrm : r ∈ keys s2 := h2.sub r (keys_push.2 (.inr rfl))
  refine ⟨h2.ok, ?_, fun k hk => hsub k (h.sub k hk), ?_, ?_, ?_⟩
  · have := h2.le; have := h.le; simp only [List.length_append, List.length_singleton] at *; omega
  · intro k hk
    rcases h2.new k hk with h3 | h3
    · rcases keys_push.1 h3 with h4 | rfl
      · exact (h.new k h4).imp_right (Rch.mono fun x hx => by simp [hx])
      · exact .inr hr
    · exact .inr (hr.trans h3)
  · intro x hx h3 h4
    simp only [List.mem_append, List.mem_singleton] at hx
    rcases hx with hx | rfl
    · exact hsub x (h.roots x hx h3 h4)
    · exact hrm
  · intro k hk hks x hx h3 h4
    by_cases hk2 : k ∈ keys (s1 ++ [(r, true)])
    · rcases keys_push.1 hk2 with h5 | rfl
      · exact hsub x (h.closed k h5 hks x hx h3 h4)
      · exact h2.roots x hx h3 h4
    · exact h2.closed k hk hk2 x hx h3 h4

/-- From nothing: just what is reached. -/
theorem Dfs.all {g : Gr} {skip : Int} {l : List Int} {s : Sn} (h : Dfs g skip l [] s) (k : Int) : k ∈ keys s ↔ Rch (refsOf g) skip l k := by
  constructor
  · intro hk
    rcases h.new k hk with h1 | h1
    · simp at h1
    · exact h1
  · intro hk
    induction hk with
    | root h1 h2 h3 => exact h.roots _ h1 h2 h3
    | step _ h1 h2 h3 ih => exact h.closed _ ih (by simp) _ h1 h2 h3

/-- The order's members. -/
theorem order_rch {g : Gr} {l : List Int} (h : okG (g.1, [l], [], ()) = true) (k : Int) : k ∈ order (g.1, [l], [], ()) ↔ Rch (refsOf g) (-1) l k := by
  constructor
  · intro hk
    refine order_ind (g := (g.1, [l], [], ())) (P := fun k => Rch (refsOf g) (-1) l k) ?_ ?_ ?_ k hk
    · intro l' hl x hx h0
      simp only [List.mem_singleton] at hl
      subst hl
      exact .root hx h0 (by omega)
    · intro x hx; simp at hx
    · intro r hr x hx h0
      exact .step hr hx h0 (by omega)
  · intro hk
    induction hk with
    | root h1 h2 h3 => exact order_roots h _ (by simp) _ h1 h2
    | step _ h1 h2 h3 ih => exact order_closed h _ ih _ h1 h2

def mark (out : List Bool) (l : List Int) : List Bool := l.foldl (fun o r => o.set r.toNat true) out
def reachL (g : Gr) : List Bool := mark (List.replicate g.1.length false) (order g)

theorem mark_len {l : List Int} : ∀ {out : List Bool}, (mark out l).length = out.length := by
  induction l with
  | nil => intro out; rfl
  | cons r l ih => intro out; simp only [mark, List.foldl_cons]; exact (ih (out := out.set r.toNat true)).trans (by simp)

theorem mark_get {l : List Int} : ∀ {out : List Bool} {k : Nat}, (∀ r ∈ l, 0 ≤ r ∧ r < (out.length : Int)) → ((mark out l).getD k false = true ↔ out.getD k false = true ∨ (k : Int) ∈ l) := by
  induction l with
  | nil => intro out k _; simp [mark]
  | cons r l ih =>
    intro out k h
    have hr := h r (by simp)
    have := ih (out := out.set r.toNat true) (k := k) (fun x hx => by simpa using h x (by simp [hx]))
    simp only [mark, List.foldl_cons] at this ⊢
    rw [this]
    simp only [List.getD_eq_getElem?_getD, List.getElem?_set, List.mem_cons]
    by_cases e : r.toNat = k
    · have e' : (k : Int) = r := by omega
      have hlt : r.toNat < out.length := by omega
      simp only [e, if_true, e', true_or, or_true, iff_true]
      rw [if_pos (by omega)]
      simp
    · have e' : ¬ (k : Int) = r := by omega
      simp only [e, if_false, e', false_or]

theorem count_mark : ∀ {l : List Bool} {i : Nat}, i < l.length → l.getD i false = false → (l.set i true).count true = l.count true + 1
  | [], _, h, _ => by simp at h
  | b :: l, 0, _, h => by simp at h; subst h; simp
  | b :: l, i + 1, h, h2 => by
    have ih := count_mark (l := l) (i := i) (by simpa using h) (by simpa using h2)
    simp only [List.set_cons_succ, List.count_cons]
    omega

theorem mark_count {l : List Int} : ∀ {out : List Bool}, l.Nodup → (∀ r ∈ l, 0 ≤ r ∧ r < (out.length : Int)) → (∀ r ∈ l, out.getD r.toNat false = false) → (mark out l).count true = out.count true + l.length := by
  induction l with
  | nil => intro out _ _ _; simp [mark]
  | cons r l ih =>
    intro out hn h hf
    have hr := h r (by simp)
    have hn' := List.nodup_cons.1 hn
    have := ih (out := out.set r.toNat true) hn'.2 (fun x hx => by simpa using h x (by simp [hx])) (fun x hx => by
      have hx0 := h x (by simp [hx])
      have : r.toNat ≠ x.toNat := fun e => hn'.1 (by have : r = x := by omega
                                                     rw [this]; exact hx)
      simp only [List.getD_eq_getElem?_getD, List.getElem?_set, this, if_false]
      simpa using hf x (by simp [hx]))
    simp only [mark, List.foldl_cons] at this ⊢
    rw [this, count_mark (by omega) (hf r (by simp)), List.length_cons]
    omega

theorem reachL_len (g : Gr) : (reachL g).length = g.1.length := by simp [reachL, mark_len]

theorem reachL_get {g : Gr} (h : okG g = true) {k : Nat} : (reachL g).getD k false = true ↔ (k : Int) ∈ order g := by
  unfold reachL
  rw [mark_get (fun r hr => by simpa using order_rng h r hr)]
  simp only [List.getD_eq_getElem?_getD, List.getElem?_replicate]
  constructor
  · rintro (h | h)
    · split at h <;> simp at h
    · exact h
  · exact .inr

theorem reachL_count {g : Gr} (h : okG g = true) : (reachL g).count true = (order g).length := by
  unfold reachL
  rw [mark_count (order_nodup h) (fun r hr => by simpa using order_rng h r hr)]
  · simp [List.count_replicate]
  · intro r hr
    simp only [List.getD_eq_getElem?_getD, List.getElem?_replicate]
    split <;> rfl

def bump (c : List Int) (p : Nat → Bool) : List Int := (List.range c.length).map fun k => c.getD k 0 + if p k = true then 1 else 0

theorem bump_len {c : List Int} {p : Nat → Bool} : (bump c p).length = c.length := by simp [bump]

theorem bump_get {c : List Int} {p : Nat → Bool} {k : Nat} (h : k < (bump c p).length) : (bump c p)[k] = c.getD k 0 + if p k = true then 1 else 0 := by
  simp [bump]

theorem bump_congr {c : List Int} {p q : Nat → Bool} (h : ∀ k, k < c.length → p k = q k) : bump c p = bump c q := by
  apply List.ext_getElem (by simp [bump_len])
  intro k h1 h2
  rw [bump_get, bump_get, h k (by simpa [bump_len] using h1)]

theorem bump_none {c : List Int} {p : Nat → Bool} (h : ∀ k, k < c.length → p k = false) : bump c p = c := by
  apply List.ext_getElem (by simp [bump_len])
  intro k h1 h2
  rw [bump_get, h k h2, getD_lt h2]
  simp

theorem bump_set {c : List Int} {p q : Nat → Bool} {k : Nat} (hk : k < c.length) (hp : p k = true) (hq : q k = false) (h : ∀ j, j ≠ k → p j = q j) : bump (c.set k (c.getD k 0 + 1)) q = bump c p := by
  apply List.ext_getElem (by simp [bump_len])
  intro j h1 h2
  rw [bump_get, bump_get]
  simp only [bump_len, List.length_set] at h1
  by_cases e : j = k
  · subst e
    rw [getD_lt (by simpa using h1), List.getElem_set_self, hp, hq]; simp
  · rw [getD_lt (by simpa using h1), List.getElem_set_ne (by omega), h j e, getD_lt h1]

/-- The nodes that the list leads to. -/
def isRch (g : Gr) (l : List Int) (k : Nat) : Bool := (reachL (g.1, [l], [], ())).getD k false

def counts (g : Gr) : List Int := g.2.1.foldl (fun c l => bump c (isRch g l)) (List.replicate g.1.length 0)

def pushIf (c : List Int) (s : List Int) (k : Int) : List Int := if c.getD k.toNat 0 > 1 then s ++ [k] else s

def upto (n : Nat) : List Int := (List.range n).map fun k : Nat => (k : Int)

def shared (g : Gr) : List Int := (upto g.1.length).foldl (pushIf (counts g)) []

theorem upto_len {n : Nat} : (upto n).length = n := by simp [upto]
theorem upto_get {n i : Nat} (h : i < (upto n).length) : (upto n)[i] = (i : Int) := by simp [upto]

theorem okG_one {g : Gr} (h : okG g = true) {l : List Int} (hl : l.length ≤ 8) (hr : okR g.1.length l = true) : okG (g.1, [l], [], ()) = true := by
  have := okG_iff.1 h
  refine okG_iff.2 ⟨this.1, by simp, by simp, this.2.2.2.1, ?_, by simp, by simp, by simp [okR]⟩
  intro r hm
  simp only [List.mem_singleton] at hm
  subst hm
  exact ⟨hl, hr⟩

theorem okG_root {g : Gr} (h : okG g = true) {l : List Int} (hl : l ∈ g.2.1) : okG (g.1, [l], [], ()) = true := by
  have := (okG_iff.1 h).2.2.2.2.1 l hl
  exact okG_one h this.1 this.2

theorem isRch_iff {g : Gr} {l : List Int} (h : okG (g.1, [l], [], ()) = true) {k : Nat} : isRch g l k = true ↔ Rch (refsOf g) (-1) l k := by
  rw [isRch, reachL_get h, order_rch h]

/-- What is counted stays small. -/
structure Cnt (m i : Nat) (c : List Int) : Prop where
  len : c.length = m
  lo : ∀ k, 0 ≤ c.getD k 0
  hi : ∀ k, c.getD k 0 ≤ (i : Int)

theorem Cnt.zero (m : Nat) : Cnt m 0 (List.replicate m 0) := by
  refine ⟨by simp, ?_, ?_⟩ <;> intro k <;> simp only [List.getD_eq_getElem?_getD, List.getElem?_replicate] <;> split <;> simp

theorem Cnt.bump {m i : Nat} {c : List Int} (h : Cnt m i c) (p : Nat → Bool) : Cnt m (i + 1) (bump c p) := by
  have hg : ∀ k, (Fl.bump c p).getD k 0 = if k < m then c.getD k 0 + (if p k = true then 1 else 0) else 0 := by
    intro k
    by_cases hk : k < m
    · rw [getD_lt (by rw [bump_len, h.len]; exact hk), bump_get]; simp [hk]
    · rw [List.getD_eq_getElem?_getD, List.getElem?_eq_none (by rw [bump_len, h.len]; omega)]; simp [hk]
  refine ⟨by rw [bump_len, h.len], ?_, ?_⟩ <;> intro k <;> rw [hg k] <;> have := h.lo k <;> have := h.hi k <;> split <;> (try split) <;> omega

theorem counts_cnt {g : Gr} (h : okG g = true) : Cnt g.1.length g.2.1.length (counts g) := by
  have key : ∀ (ls : List (List Int)) (i : Nat) (c : List Int), Cnt g.1.length i c → Cnt g.1.length (i + ls.length) (ls.foldl (fun c l => bump c (isRch g l)) c) := by
    intro ls
    induction ls with
    | nil => intro i c hc; simpa using hc
    | cons l ls ih =>
      intro i c hc
      have := ih (i + 1) _ (hc.bump (isRch g l))
      simp only [List.foldl_cons, List.length_cons]
      rw [show i + (ls.length + 1) = i + 1 + ls.length by omega]
      exact this
  have := key g.2.1 0 _ (Cnt.zero g.1.length)
  simpa [counts] using this

theorem pushIf_one {c s : List Int} {x : Int} : (pushIf c s x).length ≤ s.length + 1 := by unfold pushIf; split <;> simp

theorem pushIf_len {c : List Int} : ∀ {xs : List Int} {s : List Int}, (xs.foldl (pushIf c) s).length ≤ s.length + xs.length
  | [], s => by simp
  | x :: xs, s => by
    have := pushIf_len (c := c) (xs := xs) (s := pushIf c s x)
    simp only [List.foldl_cons, List.length_cons]
    have h2 : (pushIf c s x).length ≤ s.length + 1 := by unfold pushIf; split <;> simp
    omega

theorem shared_len (g : Gr) : (shared g).length ≤ g.1.length := by
  have := pushIf_len (c := counts g) (xs := upto g.1.length) (s := [])
  simpa [shared, upto_len] using this

theorem Rch.split {R : Int → List Int} {skip : Int} {l : List Int} {k : Int} (h : Rch R skip l k) : ∃ f ∈ l, 0 ≤ f ∧ f ≠ skip ∧ (f = k ∨ Rch R skip (R f) k) := by
  induction h with
  | root h1 h2 h3 => exact ⟨_, h1, h2, h3, .inl rfl⟩
  | step _ h1 h2 h3 ih =>
    obtain ⟨f, hf, h0, hs, h4⟩ := ih
    refine ⟨f, hf, h0, hs, .inr ?_⟩
    rcases h4 with rfl | h4
    · exact .root h1 h2 h3
    · exact .step h4 h1 h2 h3

theorem Rch.one {R : Int → List Int} {skip : Int} {l : List Int} {k : Int} : Rch R skip l k ↔ ∃ f ∈ l, Rch R skip [f] k := by
  constructor
  · intro h
    obtain ⟨f, hf, h0, hs, h4⟩ := h.split
    refine ⟨f, hf, ?_⟩
    have h5 : Rch R skip [f] f := .root (by simp) h0 hs
    rcases h4 with rfl | h4
    · exact h5
    · exact h5.trans h4
  · rintro ⟨f, hf, h⟩
    exact h.mono fun x hx => by simp only [List.mem_singleton] at hx; exact hx ▸ hf

open Classical in
noncomputable def ringB (g : Gr) (k : Int) : Bool := decide (Rch (refsOf g) (-1) (refsOf g k) k)

noncomputable def rings (g : Gr) : List Int := (upto g.1.length).filter (ringB g)

theorem ringB_iff {g : Gr} {k : Int} : ringB g k = true ↔ Rch (refsOf g) (-1) (refsOf g k) k := by simp [ringB]

theorem foldl_filter {p : Int → Bool} {xs : List Int} : ∀ {s : List Int}, xs.foldl (fun s x => if p x = true then s ++ [x] else s) s = s ++ xs.filter p := by
  induction xs with
  | nil => intro s; simp
  | cons x xs ih =>
    intro s
    rw [List.foldl_cons, ih, List.filter_cons]
    cases p x <;> simp

theorem mem_upto {n : Nat} {k : Int} : k ∈ upto n ↔ 0 ≤ k ∧ k < (n : Int) := by
  simp only [upto, List.mem_map, List.mem_range]
  constructor
  · rintro ⟨a, h, rfl⟩; omega
  · intro h; exact ⟨k.toNat, by omega, by omega⟩

theorem shared_filter (g : Gr) : shared g = (upto g.1.length).filter (fun k => decide ((counts g).getD k.toNat 0 > 1)) := by
  have : pushIf (counts g) = fun s x => if (fun k : Int => decide ((counts g).getD k.toNat 0 > 1)) x = true then s ++ [x] else s := by
    funext s x; simp only [pushIf, decide_eq_true_eq]
  rw [shared, this, foldl_filter]; rfl

/-- Whoever is on a ring leads on to one that is. -/
theorem rings_next {g : Gr} (h : okG g = true) {a : Int} (ha : a ∈ rings g) : ∃ f ∈ refsOf g a, f ∈ rings g := by
  simp only [rings, List.mem_filter, ringB_iff, mem_upto] at ha
  obtain ⟨f, hf, h0, hs, h4⟩ := ha.2.split
  refine ⟨f, hf, ?_⟩
  simp only [rings, List.mem_filter, ringB_iff, mem_upto]
  refine ⟨⟨h0, refs_rng h a f hf⟩, ?_⟩
  rcases h4 with rfl | h4
  · exact ha.2
  · exact .step h4 hf h0 hs

theorem counts_mono {g : Gr} (h : okG g = true) {a b : Nat} (ha : a < g.1.length) (hb : b < g.1.length) (hab : (b : Int) ∈ refsOf g a) : (counts g).getD a 0 ≤ (counts g).getD b 0 := by
  have key : ∀ (ls : List (List Int)) (c : List Int), (∀ l ∈ ls, l ∈ g.2.1) → c.length = g.1.length → c.getD a 0 ≤ c.getD b 0 → (ls.foldl (fun c l => bump c (isRch g l)) c).getD a 0 ≤ (ls.foldl (fun c l => bump c (isRch g l)) c).getD b 0 := by
    intro ls
    induction ls with
    | nil => intro c _ _ hc; exact hc
    | cons l ls ih =>
      intro c hm hl hc
      refine ih _ (fun x hx => hm x (by simp [hx])) (by rw [bump_len, hl]) ?_
      rw [getD_lt (by rw [bump_len, hl]; exact ha), getD_lt (by rw [bump_len, hl]; exact hb), bump_get, bump_get]
      have hone := okG_root h (hm l (by simp))
      have : isRch g l a = true → isRch g l b = true := fun hx => (isRch_iff hone).2 (.step ((isRch_iff hone).1 hx) hab (by omega) (by omega))
      cases h1 : isRch g l a with
      | false => simp only [Bool.false_eq_true, if_false]; split <;> omega
      | true => rw [this h1]; simpa using hc
  exact key g.2.1 _ (fun _ h => h) (by simp) (by simp [ha, hb])

theorem shared_closed {g : Gr} (h : okG g = true) {a r : Int} (ha : a ∈ shared g) (hr : r ∈ refsOf g a) (h0 : 0 ≤ r) : r ∈ shared g := by
  rw [shared_filter] at ha ⊢
  simp only [List.mem_filter, mem_upto, decide_eq_true_eq] at ha ⊢
  have hr2 := refs_rng h a r hr
  have := counts_mono h (a := a.toNat) (b := r.toNat) (by omega) (by omega) (by rw [show ((a.toNat : Nat) : Int) = a by omega, show ((r.toNat : Nat) : Int) = r by omega]; exact hr)
  exact ⟨⟨h0, hr2⟩, by omega⟩

theorem upto_filter_len {n : Nat} {p : Int → Bool} : ((upto n).filter p).length ≤ n := by
  have := List.length_filter_le p (upto n)
  rwa [upto_len] at this

def orF (i : Nat) (a b : List Bool) : List Bool := (List.range a.length).map fun k => a.getD k false || (decide (i ≤ k) && b.getD k false)

theorem orF_len {i : Nat} {a b : List Bool} : (orF i a b).length = a.length := by simp [orF]
theorem orF_get {i k : Nat} {a b : List Bool} (h : k < (orF i a b).length) : (orF i a b)[k] = (a.getD k false || (decide (i ≤ k) && b.getD k false)) := by simp [orF]
theorem orF_getD {i k : Nat} {a b : List Bool} (h : k < a.length) : (orF i a b).getD k false = (a.getD k false || (decide (i ≤ k) && b.getD k false)) := by
  rw [getD_lt (by rw [orF_len]; exact h), orF_get]
theorem orF_end {i : Nat} {a b : List Bool} (h : a.length ≤ i) : orF i a b = a := by
  apply List.ext_getElem (by simp [orF_len])
  intro k h1 h2
  have : ¬ i ≤ k := by omega
  rw [orF_get, getD_lt h2, decide_eq_false this]; simp
theorem orF_set {i : Nat} {a b : List Bool} (h : i < a.length) : orF (i + 1) (a.set i (a.getD i false || b.getD i false)) b = orF i a b := by
  apply List.ext_getElem (by simp [orF_len])
  intro k h1 h2
  rw [orF_get, orF_get]
  simp only [orF_len, List.length_set] at h1
  rw [getD_lt (show k < (a.set i (a.getD i false || b.getD i false)).length by simpa using h1), getD_lt h1]
  by_cases e : k = i
  · subst e
    rw [List.getElem_set_self, getD_lt h1]
    have : ¬ k + 1 ≤ k := by omega
    rw [decide_eq_false this]; simp
  · rw [List.getElem_set_ne (by omega)]
    have : decide (i + 1 ≤ k) = decide (i ≤ k) := by simp only [decide_eq_decide]; omega
    rw [this]

def cutA (a : Int) (l : List Int) : List Int := l.map fun r => if r = a then -1 else r

def less (g : Gr) (a : Int) : Gr := (g.1.map (fun x => (cutA a x.1, x.2)), g.2.1.map (cutA a), g.2.2.1.filter (fun x => decide (x ≠ a)), ())

/-- All that a graph begins with. -/
def begins (g : Gr) : List Int := g.2.1.flatten ++ g.2.2.1

theorem mem_cutA {a x : Int} {l : List Int} (h0 : 0 ≤ x) : x ∈ cutA a l ↔ x ∈ l ∧ x ≠ a := by
  simp only [cutA, List.mem_map]
  constructor
  · rintro ⟨r, hr, e⟩
    split at e
    · omega
    · subst e; exact ⟨hr, by assumption⟩
  · rintro ⟨h, hn⟩; exact ⟨x, h, by rw [if_neg hn]⟩

theorem okR_cut {m : Nat} {a : Int} {l : List Int} (h : okR m l = true) : okR m (cutA a l) = true := by
  rw [okR_iff] at h ⊢
  intro x hx
  simp only [cutA, List.mem_map] at hx
  obtain ⟨r, hr, e⟩ := hx
  split at e
  · omega
  · subst e; exact h _ hr

theorem less_ok {g : Gr} (h : okG g = true) (a : Int) : okG (less g a) = true := by
  obtain ⟨h1, h2, h3, h4, h5, h6, h7, h8⟩ := okG_iff.1 h
  refine okG_iff.2 ⟨by simpa [less] using h1, by simpa [less] using h2, by simpa [less] using h3, ?_, ?_, ?_, ?_, ?_⟩
  · intro x hx
    simp only [less, List.mem_map] at hx
    obtain ⟨y, hy, rfl⟩ := hx
    have := h4 y hy
    exact ⟨by simpa [cutA] using this.1, this.2.1, by simpa [less] using okR_cut this.2.2⟩
  · intro r hr
    simp only [less, List.mem_map] at hr
    obtain ⟨y, hy, rfl⟩ := hr
    have := h5 y hy
    exact ⟨by simpa [cutA] using this.1, by simpa [less] using okR_cut this.2⟩
  · have := List.length_filter_le (fun x => decide (x ≠ a)) g.2.2.1
    simp only [less]; omega
  · intro x hx
    simp only [less, List.mem_filter] at hx
    exact h7 x hx.1
  · rw [okR_iff] at h8 ⊢
    intro x hx
    simp only [less, List.mem_filter] at hx
    simpa [less] using h8 x hx.1

theorem less_refs {g : Gr} {a r x : Int} (h0 : 0 ≤ x) : x ∈ refsOf (less g a) r ↔ x ∈ refsOf g r ∧ x ≠ a := by
  have e : refsOf (less g a) r = cutA a (refsOf g r) := by
    simp only [refsOf, less, List.getD_eq_getElem?_getD, List.getElem?_map]
    cases g.1[r.toNat]? <;> rfl
  rw [e, mem_cutA h0]

theorem order_all {g : Gr} (h : okG g = true) (k : Int) : k ∈ order g ↔ Rch (refsOf g) (-1) (begins g) k := by
  constructor
  · intro hk
    refine order_ind (P := fun k => Rch (refsOf g) (-1) (begins g) k) ?_ ?_ ?_ k hk
    · intro l hl x hx h0
      exact .root (List.mem_append.2 (.inl (List.mem_flatten.2 ⟨l, hl, hx⟩))) h0 (by omega)
    · intro x hx h0
      exact .root (List.mem_append.2 (.inr hx)) h0 (by omega)
    · intro r hr x hx h0
      exact .step hr hx h0 (by omega)
  · intro hk
    induction hk with
    | root h1 h2 h3 =>
      rcases List.mem_append.1 h1 with h1 | h1
      · obtain ⟨l, hl, hx⟩ := List.mem_flatten.1 h1
        exact order_roots h _ hl _ hx h2
      · exact order_pins h _ h1
    | step _ h1 h2 h3 ih => exact order_closed h _ ih _ h1 h2

theorem order_less {g : Gr} (h : okG g = true) {a : Int} (k : Int) : k ∈ order (less g a) ↔ Rch (refsOf g) a (begins g) k := by
  have hl := less_ok h a
  constructor
  · intro hk
    refine order_ind (P := fun k => Rch (refsOf g) a (begins g) k) ?_ ?_ ?_ k hk
    · intro l hl x hx h0
      simp only [less, List.mem_map] at hl
      obtain ⟨y, hy, rfl⟩ := hl
      have := (mem_cutA h0).1 hx
      exact .root (List.mem_append.2 (.inl (List.mem_flatten.2 ⟨y, hy, this.1⟩))) h0 this.2
    · intro x hx h0
      simp only [less, List.mem_filter, decide_eq_true_eq] at hx
      exact .root (List.mem_append.2 (.inr hx.1)) h0 hx.2
    · intro r hr x hx h0
      have := (less_refs h0).1 hx
      exact .step hr this.1 h0 this.2
  · intro hk
    induction hk with
    | root h1 h2 h3 =>
      rcases List.mem_append.1 h1 with h1 | h1
      · obtain ⟨l, hm, hx⟩ := List.mem_flatten.1 h1
        exact order_roots hl (cutA a l) (by simp only [less, List.mem_map]; exact ⟨l, hm, rfl⟩) _ ((mem_cutA h2).2 ⟨hx, h3⟩) h2
      · exact order_pins hl _ (by simp only [less, List.mem_filter, decide_eq_true_eq]; exact ⟨h1, h3⟩)
    | step _ h1 h2 h3 ih => exact order_closed hl _ ih _ ((less_refs h2).2 ⟨h1, h3⟩) h2

open Classical in
noncomputable def heldB (g : Gr) (a : Int) (k : Int) : Bool := decide (Rch (refsOf g) (-1) (begins g) k) && !decide (Rch (refsOf g) a (begins g) k)

theorem heldB_iff {g : Gr} {a k : Int} : heldB g a k = true ↔ Rch (refsOf g) (-1) (begins g) k ∧ ¬ Rch (refsOf g) a (begins g) k := by simp [heldB]

noncomputable def heldBy (g : Gr) (a : Int) : List Int := if okG g = true ∧ 0 ≤ a ∧ a < (g.1.length : Int) then (upto g.1.length).filter (heldB g a) else []

theorem heldBy_in {g : Gr} {a : Int} (h : okG g = true ∧ 0 ≤ a ∧ a < (g.1.length : Int)) : heldBy g a = (upto g.1.length).filter (heldB g a) := if_pos h
theorem heldBy_out {g : Gr} {a : Int} (h : ¬ (okG g = true ∧ 0 ≤ a ∧ a < (g.1.length : Int))) : heldBy g a = [] := if_neg h
theorem heldBy_len (g : Gr) (a : Int) : (heldBy g a).length ≤ g.1.length := by
  unfold heldBy
  split
  · exact upto_filter_len
  · simp
theorem heldBy_len2 (g : Gr) (a : Int) : (heldBy g a).length ≤ 200 := by
  by_cases h : okG g = true ∧ 0 ≤ a ∧ a < (g.1.length : Int)
  · have := heldBy_len g a; have := (okG_iff.1 h.1).1; omega
  · rw [heldBy_out h]; simp

theorem mem_heldBy {g : Gr} {a k : Int} (h : okG g = true ∧ 0 ≤ a ∧ a < (g.1.length : Int)) : k ∈ heldBy g a ↔ k ∈ order g ∧ k ∉ order (less g a) := by
  rw [heldBy_in h, List.mem_filter, mem_upto, heldB_iff, order_all h.1, order_less h.1]
  constructor
  · exact fun h => h.2
  · intro h2
    exact ⟨order_rng h.1 _ ((order_all h.1 k).2 h2.1), h2⟩

section
variable {N : Nat} (hN : lim < N)
include hN

theorem sl5Order_roots {g : Gr} (h : okG g = true) {k : Nat} (hk : k < g.2.1.length) {st : Mst} (hst : Met g.1.length st) :
    lsl5Order_2 N N (g, (k : Int), 0, st.1, st.2, ()) = some (g, (k : Int), (g.2.1[k].foldl meet st).1, (g.2.1[k].foldl meet st).2, ()) := by
  have hg := okG_iff.1 h
  have hs := okG_small hN h
  have := meets_loop hN (xs := g.2.1[k]) (m := g.1.length) (rootsrng h _ (List.getElem_mem hk)) hg.1 (sm_lim (hs.2.2.2.1 _ (List.getElem_mem hk)))
    (L := fun n i st => lsl5Order_2 N n (g, (k : Int), (i : Int), st.1, st.2, ())) (fin := fun st => (g, (k : Int), st.1, st.2, ()))
    (fun n i st hi hw hI hb hlim => by
      by_cases h0 : 0 ≤ g.2.1[k][i]
      · have hb := hb h0
        cases hh : st.2.getD g.2.1[k][i].toNat false with
        | false => 
          have hh' := hh
          rw [getD_lt hb] at hh'
          simp [lsl5Order_2, hk, hi, hw, h0, hb, hlim, meet, hh']
        | true =>
          have hh' := hh
          rw [getD_lt hb] at hh'
          simp [lsl5Order_2, hk, hi, hw, h0, hb, hlim, meet, hh']
      · simp [lsl5Order_2, hk, hi, hw, h0, meet])
    (fun n st hI => by simp [lsl5Order_2, hk]) hst
  simpa using this

theorem sl5Order_ok {g : Gr} (h : okG g = true) : Fsl5Order N (g, ()) = some (order g, ()) := by
  have hg := okG_iff.1 h
  have hs := okG_small hN h
  have e1 := roots_loop hN (ls := g.2.1) (m := g.1.length) (rootsrng h) (sm_lim hs.2.2.1) (L := fun n i st => lsl5Order_0 N n (g, (i : Int), st.1, st.2, ())) (fin := fun st => (g, st.1, st.2, ()))
    (fun n i st hi hw hI => by simp [lsl5Order_0, hi, hw, sl5Order_roots hN h hi hI])
    (fun n st hI => by simp [lsl5Order_0]) (met0_ok _)
  have hb := roots_met (met0_ok g.1.length) (rootsrng h)
  have e2 := meets_loop hN (xs := g.2.2.1) (m := g.1.length) (pinsrng h) hg.1 (sm_lim hs.2.2.2.2)
    (L := fun n i st => lsl5Order_4 N n (g, (i : Int), st.1, st.2, ())) (fin := fun st => (g, st.1, st.2, ()))
    (fun n i st hi hw hI hb hlim => by
      have h0 := hg.2.2.2.2.2.2.1 _ (List.getElem_mem hi)
      have hb := hb h0
      cases hh : st.2.getD g.2.2.1[i].toNat false with
      | false => 
        have hh' := hh
        rw [getD_lt hb] at hh'
        simp [lsl5Order_4, hi, hw, h0, hb, hlim, meet, hh']
      | true =>
        have hh' := hh
        rw [getD_lt hb] at hh'
        simp [lsl5Order_4, hi, hw, h0, hb, hlim, meet, hh'])
    (fun n st hI => by simp [lsl5Order_4]) hb
  have e3 : ∀ k st, Met g.1.length st → ∀ (r : Int) (hr : r.toNat < g.1.length), lsl5Order_8 N N (g, k, refsOf g r, (0 : Int), st.1, st.2, ()) = some (g, k, ((refsOf g r).foldl meet st).1, ((refsOf g r).foldl meet st).2, ()) := by
    intro k st hst r hr
    have hsm : (refsOf g r).length ≤ lim := by
      unfold refsOf; rw [getD_lt hr]; exact sm_lim (hs.2.1 _ (List.getElem_mem hr)).1
    have := meets_loop hN (xs := refsOf g r) (m := g.1.length) (refs_rng h r) hg.1 hsm
      (L := fun n i st => lsl5Order_8 N n (g, k, refsOf g r, (i : Int), st.1, st.2, ())) (fin := fun st => (g, k, st.1, st.2, ()))
      (fun n i st hi hw hI hb hlim => by
        by_cases h0 : 0 ≤ (refsOf g r)[i]
        · have hb := hb h0
          cases hh : st.2.getD (refsOf g r)[i].toNat false with
          | false => 
            have hh' := hh
            rw [getD_lt hb] at hh'
            simp [lsl5Order_8, hi, hw, h0, hb, hlim, meet, hh']
          | true =>
            have hh' := hh
            rw [getD_lt hb] at hh'
            simp [lsl5Order_8, hi, hw, h0, hb, hlim, meet, hh']
        · simp [lsl5Order_8, hi, hw, h0, meet])
      (fun n st hI => by simp [lsl5Order_8]) hst
    simpa using this
  have hb2 : Met g.1.length (begin0 g) := begin0_ok h
  have e4 := walk_loop hN (R := refsOf g) (m := g.1.length) (fun r _ _ => refs_rng h r) hg.1 (L := fun n i st => lsl5Order_6 N n (g, (i : Int), st.1, st.2, ())) (fin := fun st => (st.1, ()))
    (fun n i st hi hw hI => by
      have hr := hI.rng _ (List.getElem_mem hi)
      have hr' : st.1[i].toNat < g.1.length := by omega
      have e := e3 (i : Int) st hI st.1[i] hr'
      simp only [refsOf, getD_lt hr'] at e ⊢
      simp [lsl5Order_6, hi, hw, hr.1, hr', e])
    (fun n i st hi hI => by simp [lsl5Order_6, hi]) hb2
  simp only [Int.natCast_zero] at e1 e2 e4
  have hl := sm_lim hs.1
  simp only [met0] at e1
  simp only [Fsl5Order, Int.natCast_nonneg, decide_true, cond_true, Int.toNat_natCast, hl, e1, Option.bind_some]
  simp only [met0] at e2
  rw [e2]
  simp only [Option.bind_some]
  have e5 : begin0 g = (g.2.2.1.foldl meet (g.2.1.foldl (fun s l => l.foldl meet s) ([], List.replicate g.1.length false))) := rfl
  rw [← e5, e4]
  rfl

end

section
variable {N : Nat} (hN : lim < N)
include hN

theorem sGraphReach_ok {g : Gr} (hs : smG g) : FsGraphReach N (g, ()) = some (if okG g = true then reachL g else [], ()) := by
  cases h : okG g with
  | false => simp [FsGraphReach, sGraphOk_ok hN hs, h]
  | true =>
    have hg := okG_iff.1 h
    have ho : (order g).length ≤ lim := by have := order_le h; rw [lim_eq]; omega
    have hl := sm_lim hs.1
    have e := (fold_loop (xs := order g) (n := N) (fun o r => o.set r.toNat true) (fun _ s => s.length = g.1.length)
      (L := fun n i s => lsGraphReach_0 N n ((i : Int), s, order g, ())) (fin := fun s => (s, ())) ho
      (fun n i s hi hw hI => by
        have hr := order_rng h _ (List.getElem_mem hi)
        have hr' : (order g)[i].toNat < s.length := by omega
        refine ⟨?_, by simpa using hI⟩
        simp [lsGraphReach_0, hi, hw, hr.1, hr'])
      (fun n s hI => by simp [lsGraphReach_0]) (by omega) (s := List.replicate g.1.length false) (by simp)).1
    simp only [Int.natCast_zero] at e
    simp [FsGraphReach, sGraphOk_ok hN hs, h, hl, sl5Order_ok hN h, e, reachL, mark]
end

section
variable {N : Nat} (hN : lim < N)
include hN

theorem less0 {a : Int} {ns : List Nd} {rs : List (List Int)} {ps : List Int} (hl : ns.length ≤ lim) (hx : ∀ x ∈ ns, x.1.length ≤ lim) :
    lsl17Less_0 N N (a, 0, ns, rs, ps, ()) = some (a, ns.map (fun x => (cutA a x.1, x.2)), rs, ps, ()) := by
  have e := turn_loop (xs := ns) (n := N) (fun x => (cutA a x.1, x.2)) (L := fun n i s => lsl17Less_0 N n (a, (i : Int), s, rs, ps, ())) (fin := fun s => (a, s, rs, ps, ())) hl
    (fun n i s h h' hw hs he => by
      have hlen := hx _ (List.getElem_mem h)
      have e := turn_loop (xs := ns[i].1) (n := N) (fun r => if r = a then -1 else r) (L := fun n k x => lsl17Less_2 N n (a, (i : Int), (k : Int), s.set i (x, ns[i].2), rs, ps, ())) (fin := fun x => (a, (i : Int), s.set i (x, ns[i].2), rs, ps, ())) hlen
        (fun n k x hk hk' hw2 hx2 he2 => by
          by_cases hq : ns[i].1[k] = a
          · simp [lsl17Less_2, h', hk, hk', hw2, he2, hq]
          · have e2 : x.set k ns[i].1[k] = x := by rw [← he2]; exact List.set_getElem_self _
            simp [lsl17Less_2, h', hk, hk', hw2, he2, hq, e2])
        (fun n x hx2 => by simp [lsl17Less_2, h', hx2]) (by omega)
      have e0 : s.set i (ns[i].1, ns[i].2) = s := by
        have : (ns[i].1, ns[i].2) = s[i] := by rw [he]
        rw [this]; exact List.set_getElem_self _
      simp only [Int.natCast_zero, e0] at e
      simp only [lsl17Less_0, hs, Int.ofNat_lt, h, decide_true, cond_true, e, Option.bind_some, hw]
      rfl)
    (fun n s hs => by simp [lsl17Less_0, hs]) (by omega)
  simpa only [Int.natCast_zero] using e

theorem less4 {a : Int} {ns : List Nd} {rs : List (List Int)} {ps : List Int} (hl : rs.length ≤ lim) (hx : ∀ x ∈ rs, x.length ≤ lim) :
    lsl17Less_4 N N (a, 0, ns, rs, ps, ()) = some (a, ns, rs.map (cutA a), ps, ()) := by
  have e := turn_loop (xs := rs) (n := N) (cutA a) (L := fun n i s => lsl17Less_4 N n (a, (i : Int), ns, s, ps, ())) (fin := fun s => (a, ns, s, ps, ())) hl
    (fun n i s h h' hw hs he => by
      have hlen := hx _ (List.getElem_mem h)
      have e := turn_loop (xs := rs[i]) (n := N) (fun r => if r = a then -1 else r) (L := fun n k x => lsl17Less_6 N n (a, (i : Int), (k : Int), ns, s.set i x, ps, ())) (fin := fun x => (a, (i : Int), ns, s.set i x, ps, ())) hlen
        (fun n k x hk hk' hw2 hx2 he2 => by
          by_cases hq : rs[i][k] = a
          · simp [lsl17Less_6, h', hk, hk', hw2, he2, hq]
          · have e2 : x.set k rs[i][k] = x := by rw [← he2]; exact List.set_getElem_self _
            simp [lsl17Less_6, h', hk, hk', hw2, he2, hq, e2])
        (fun n x hx2 => by simp [lsl17Less_6, h', hx2]) (by omega)
      have e0 : s.set i rs[i] = s := by rw [← he]; exact List.set_getElem_self _
      simp only [Int.natCast_zero, e0] at e
      simp only [lsl17Less_4, hs, Int.ofNat_lt, h, decide_true, cond_true, e, Option.bind_some, hw]
      rfl)
    (fun n s hs => by simp [lsl17Less_4, hs]) (by omega)
  simpa only [Int.natCast_zero] using e

theorem less8 {a : Int} {ns : List Nd} {rs : List (List Int)} {ps : List Int} (hl : ps.length ≤ lim) :
    lsl17Less_8 N N (a, 0, ns, rs, ps, [], ()) = some (ns, rs, ps, ps.filter (fun x => decide (x ≠ a)), ()) := by
  have e := (fold_loop (xs := ps) (n := N) (fun s x => if decide (x ≠ a) = true then s ++ [x] else s) (fun i s => s.length ≤ i) (L := fun n i s => lsl17Less_8 N n (a, (i : Int), ns, rs, ps, s, ()))
    (fin := fun s => (ns, rs, ps, s, ())) hl
    (fun n i s hi hw hI => by
      have hlim : s.length + 1 ≤ lim := by omega
      by_cases hq : ps[i] = a
      · exact ⟨by simp [lsl17Less_8, hi, hw, hq], by simp [hq]; omega⟩
      · have e : (ps[i] != a) = true := by simp [hq]
        exact ⟨by simp [lsl17Less_8, hi, hw, hq, hlim, e], by simp [hq]; omega⟩)
    (fun n s hI => by simp [lsl17Less_8]) (by omega) (s := []) (by simp)).1
  rw [foldl_filter (p := fun x => decide (x ≠ a))] at e
  simpa only [Int.natCast_zero, List.nil_append] using e

theorem sl17Less_ok {g : Gr} (hs : smG g) (a : Int) : Fsl17Less N (g, a, ()) = some (less g a) := by
  have h0 := less0 hN (a := a) (ns := g.1) (rs := g.2.1) (ps := g.2.2.1) (sm_lim hs.1) (fun x hx => sm_lim (hs.2.1 x hx).1)
  have h4 := less4 hN (a := a) (ns := g.1.map (fun x => (cutA a x.1, x.2))) (rs := g.2.1) (ps := g.2.2.1) (sm_lim hs.2.2.1) (fun x hx => sm_lim (hs.2.2.2.1 x hx))
  have h8 := less8 hN (a := a) (ns := g.1.map (fun x => (cutA a x.1, x.2))) (rs := g.2.1.map (cutA a)) (ps := g.2.2.1) (sm_lim hs.2.2.2.2)
  simp only [Fsl17Less, sl5Copy_ok hN hs, Option.bind_some, h0, h4, h8, less]

theorem holds_s {g : Gr} (h : okG g = true) (a : Int) : lsPathHolds_0 N N (0, reachL g, reachL (less g a), [], ()) = some ((upto g.1.length).filter (heldB g a), ()) := by
  have hg := okG_iff.1 h
  have hl := less_ok h a
  have r1 := reachL_len g
  have r2 := reachL_len (less g a)
  have r3 : (less g a).1.length = g.1.length := by simp [less]
  have e := (fold_loop (xs := upto g.1.length) (n := N) (fun s x => if heldB g a x = true then s ++ [x] else s) (fun i s => s.length ≤ i) (L := fun n i s => lsPathHolds_0 N n ((i : Int), reachL g, reachL (less g a), s, ())) (fin := fun s => (s, ()))
    (by rw [lim_eq, upto_len]; omega)
    (fun n i s hi hw hI => by
      have hi' : i < g.1.length := by simpa [upto_len] using hi
      have hlim : s.length + 1 ≤ lim := by rw [lim_eq]; omega
      have k1 : i < (reachL g).length := by omega
      have k2 : i < (reachL (less g a)).length := by omega
      have b1 : (reachL g).getD i false = true ↔ Rch (refsOf g) (-1) (begins g) i := by rw [reachL_get h, order_all h]
      have b2 : (reachL (less g a)).getD i false = true ↔ Rch (refsOf g) a (begins g) i := by rw [reachL_get hl, order_less h]
      have h4 : heldB g a i = ((reachL g).getD i false && !(reachL (less g a)).getD i false) := by
        rw [Bool.eq_iff_iff, heldB_iff, Bool.and_eq_true, b1, ← b2, Bool.not_eq_true, Bool.not_eq_true']
      rw [upto_get hi, h4]
      simp only [lsPathHolds_0, Int.ofNat_lt, k1, k2, decide_true, cond_true, Int.natCast_nonneg, Int.toNat_natCast, hw, List.length_cons, List.length_nil, Nat.zero_add, hlim]
      cases (reachL g).getD i false <;> cases (reachL (less g a)).getD i false <;> exact ⟨rfl, by simp; omega⟩)
    (fun n s hI => by simp [lsPathHolds_0, upto_len, r1]) (by rw [lim_eq] at hN; rw [upto_len]; omega) (s := []) (by simp)).1
  rw [foldl_filter] at e
  simpa using e

theorem sPathHolds_ok {g : Gr} (hs : smG g) (a : Int) : FsPathHolds N (g, a, ()) = some (heldBy g a, ()) := by
  cases h : okG g with
  | false => simp [FsPathHolds, sGraphOk_ok hN hs, h, heldBy]
  | true =>
    by_cases h0 : a < 0
    · have : ¬ 0 ≤ a := by omega
      simp [FsPathHolds, sGraphOk_ok hN hs, h, h0, heldBy, this]
    · by_cases h1 : a ≥ (g.1.length : Int)
      · have : ¬ a < (g.1.length : Int) := by omega
        rw [heldBy_out (fun hh => this hh.2.2)]
        simp only [FsPathHolds, sGraphOk_ok hN hs, h, Option.bind_some, Bool.not_true, cond_false, h0, decide_false, h1, decide_true, cond_true, Sum.elim_inr]
      · rw [heldBy_in ⟨h, by omega, by omega⟩]
        have hl := less_ok h a
        have e1 := sGraphReach_ok hN hs
        have e2 := sGraphReach_ok hN (okG_small hN hl)
        simp only [h, hl, if_true] at e1 e2
        have e3 : (less g a) = ((less g a).1, (less g a).2.1, (less g a).2.2.1, ()) := rfl
        rw [e3] at e2
        simp only [FsPathHolds, sGraphOk_ok hN hs, h, Option.bind_some, Bool.not_true, cond_false, h0, decide_false, h1, Sum.elim_inl, e1, sl17Less_ok hN hs, e2, holds_s hN h a]
end

section
variable {N : Nat} (hN : lim < N)
include hN

theorem dfs_ok {g : Gr} (hg : okG g = true) {skip : Int} : ∀ (m : Nat) {l : List Int} {s : Sn}, (∀ x ∈ l, x < (g.1.length : Int)) → l.length ≤ lim → Seen g.1.length s → g.1.length - s.length < m →
    ∃ s', FiGraph_from_1_iGraph_from_1 N m (l, skip, g, s, skip, g, ()) = some (s', skip, g, ()) ∧ Dfs g skip l s s'
  | 0, _, _, _, _, _, h => absurd h (Nat.not_lt_zero _)
  | m + 1, l, s, hl, hlen, hs, hm => by
    have key : ∀ (d n i : Nat) (s1 : Sn), i + d = l.length → d < n → Dfs g skip (l.take i) s s1 →
        ∃ s', liGraph_from_1_iGraph_from_1_0 N (fun x_ => FiGraph_from_1_iGraph_from_1 N m x_) n (skip, g, l, (l.length : Int), (i : Int), s1, skip, g, ()) = some (s', skip, g, ()) ∧ Dfs g skip l s s' := by
      intro d
      induction d with
      | zero =>
        intro n i s1 hi hn hD
        obtain ⟨n, rfl⟩ : ∃ k, n = k + 1 := ⟨n - 1, by omega⟩
        have : i = l.length := by omega
        subst this
        rw [List.take_length] at hD
        exact ⟨s1, by simp [liGraph_from_1_iGraph_from_1_0], hD⟩
      | succ d ih =>
        intro n i s1 hi hn hD
        obtain ⟨n, rfl⟩ : ∃ k, n = k + 1 := ⟨n - 1, by omega⟩
        have hlt : i < l.length := by omega
        have hw : w64 ((i : Int) + 1) = ((i + 1 : Nat) : Int) := w64_succ (by rw [lim_eq] at hlen; omega)
        have ht : l.take (i + 1) = l.take i ++ [l[i]] := by rw [List.take_succ_eq_append_getElem hlt]
        have go := fun s2 (h : Dfs g skip (l.take i ++ [l[i]]) s s2) => ih n (i + 1) s2 (by omega) (by omega) (by rw [ht]; exact h)
        simp only [liGraph_from_1_iGraph_from_1_0, Int.ofNat_lt, hlt, decide_true, cond_true, Int.natCast_nonneg, Int.toNat_natCast, getD_lt hlt, hw]
        by_cases h0 : 0 ≤ l[i]
        · by_cases h1 : l[i] = skip
          · have e : (l[i] != skip) = false := by simp [h1]
            simp only [ge_iff_le, h0, decide_true, cond_true, e, cond_false]
            exact go s1 (hD.skip fun _ h => absurd h1 h)
          · have e : (l[i] != skip) = true := by simp [h1]
            simp only [ge_iff_le, h0, decide_true, cond_true, e]
            by_cases h2 : l[i] ∈ keys s1
            · have e2 := (mget_keys (k := l[i]) hD.ok.tr).2 h2
              simp only [e2, Bool.not_true, cond_false]
              exact go s1 (hD.skip fun _ _ => h2)
            · have e2 : (mget s1 l[i]).getD false = false := by
                cases hb : (mget s1 l[i]).getD false with
                | false => rfl
                | true => exact absurd ((mget_keys hD.ok.tr).1 hb) h2
              have hr := hl _ (List.getElem_mem hlt)
              have hr' : l[i].toNat < g.1.length := by omega
              have hs2 := hD.ok.add h0 hr h2
              have hsm := (okG_iff.1 hg).2.2.2.1 _ (List.getElem_mem hr')
              have hle := hD.le
              obtain ⟨s3, e3, h3⟩ := dfs_ok hg (skip := skip) m (l := refsOf g l[i]) (s := s1 ++ [(l[i], true)]) (refs_rng hg _)
                (by simp only [refsOf, getD_lt hr']; rw [lim_eq]; omega) hs2 (by simp only [List.length_append, List.length_singleton]; have := hs2.le; simp only [List.length_append, List.length_singleton] at this; omega)
              simp only [e2, Bool.not_false, cond_true, hr', decide_true, mset_fresh h2]
              simp only [refsOf] at e3
              rw [e3]
              exact go s3 (hD.go h0 h1 h2 h3)
        · simp only [ge_iff_le, h0, decide_false, cond_false]
          exact go s1 (hD.skip fun h => absurd h h0)
    obtain ⟨s', e, h⟩ := key l.length N 0 s (by omega) (by omega) (by simpa using Dfs.nil hs)
    simp only [Int.natCast_zero] at e
    exact ⟨s', by simp [FiGraph_from_1_iGraph_from_1, e], h⟩

theorem iGraph_from_ok {g : Gr} (hg : okG g = true) {l : List Int} (hl : ∀ x ∈ l, x < (g.1.length : Int)) (hlen : l.length ≤ lim) (skip : Int) :
    ∃ s, FiGraph_from N (g, l, skip, ()) = some (s, ()) ∧ Seen g.1.length s ∧ ∀ k, k ∈ keys s ↔ Rch (refsOf g) skip l k := by
  have h0 : Seen g.1.length [] := ⟨by simp, by simp, by simp⟩
  have := (okG_iff.1 hg).1
  obtain ⟨s, e, h⟩ := dfs_ok hN hg (skip := skip) N hl hlen h0 (by rw [lim_eq] at hN; simp; omega)
  exact ⟨s, by simp [FiGraph_from, e], h.ok, h.all⟩
end

section
variable {N : Nat} (hN : lim < N)
include hN

theorem leads_ok {g : Gr} {xs : List Int} {low : Int} (hl : xs.length ≤ lim) :
    FiGraph_leads N (g, xs, low, ()) = some (xs.all fun x => decide (low ≤ x) && decide (x < (g.1.length : Int)), ()) := by
  have hL := find_loop (xs := xs) (n := N) (fun x => decide (x < low) || decide (x ≥ (g.1.length : Int))) (L := fun n i => lkIndexFunc_Sint_int_iGraph_leads_1_0 N n (xs, low, g, (xs.length : Int), (i : Int), ()))
    (yes := fun i => .inr ((i : Int), ())) (no := .inl ()) hl
    (fun n i h hw hq => by
      simp at hq
      simp [lkIndexFunc_Sint_int_iGraph_leads_1_0, FiGraph_leads_1, h, hw, Int.not_lt.2 hq.1, Int.not_le.2 hq.2])
    (fun n i h hq => by
      by_cases h1 : xs[i] < low
      · simp [lkIndexFunc_Sint_int_iGraph_leads_1_0, FiGraph_leads_1, h, h1]
      · simp [h1] at hq
        simp [lkIndexFunc_Sint_int_iGraph_leads_1_0, FiGraph_leads_1, h, h1, hq])
    (fun n => by simp [lkIndexFunc_Sint_int_iGraph_leads_1_0]) (by omega)
  simp only [Int.natCast_zero] at hL
  simp only [FiGraph_leads, FkContainsFunc_Sint_int_iGraph_leads_1, FkIndexFunc_Sint_int_iGraph_leads_1, hL]
  cases hf : xs.findIdx? (fun x => decide (x < low) || decide (x ≥ (g.1.length : Int))) with
  | none =>
    have : (xs.all fun x => decide (low ≤ x) && decide (x < (g.1.length : Int))) = true := by
      rw [List.findIdx?_eq_none_iff] at hf
      rw [List.all_eq_true]
      intro x hx
      have := hf x hx
      simp at this ⊢
      omega
    simp [this]
  | some i =>
    have : (xs.all fun x => decide (low ≤ x) && decide (x < (g.1.length : Int))) = false := by
      rw [List.findIdx?_eq_some_iff_getElem] at hf
      obtain ⟨h, h1, _⟩ := hf
      rw [List.all_eq_false]
      refine ⟨_, List.getElem_mem h, ?_⟩
      simp at h1 ⊢
      omega
    simp [this]

theorem leads1_ok {g : Gr} {xs : List Int} (hl : xs.length ≤ lim) : FiGraph_leads N (g, xs, -1, ()) = some (okR g.1.length xs, ()) := leads_ok hN hl

theorem iGraphOk_ok {g : Gr} (hs : smG g) : FiGraphOk N (g, ()) = some (okG g, ()) := by
  obtain ⟨a1, a2, a3, a4, a5⟩ := hs
  have h1 := all_loop (xs := g.1) (n := N) (okN g.1.length) (L := fun n i => liGraphOk_0 N n (g, g.1, (g.1.length : Int), (i : Int), ())) (yes := .inl (g, ())) (no := .inr (false, ())) (sm_lim a1)
    (fun n i h hw hq => by
      simp [okN] at hq
      simp [liGraphOk_0, h, hw, leads1_ok hN (sm_lim (a2 _ (List.getElem_mem h)).1), hq, Nat.not_lt.2 hq.1, Nat.not_lt.2 hq.2.1]
      )
    (fun n i h hq => by
      simp only [liGraphOk_0, leads1_ok hN (sm_lim (a2 _ (List.getElem_mem h)).1), getD_lt h, Int.toNat_natCast]
      simp only [okN] at hq
      by_cases h1 : g.1[i].1.length ≤ 4 <;> by_cases h2 : g.1[i].2.1.length ≤ 4 <;> simp_all)
    (fun n => by simp [liGraphOk_0]) (by have := sm_lim a1; omega)
  have h2 := all_loop (xs := g.2.1) (n := N) (fun r => decide (r.length ≤ 8) && okR g.1.length r) (L := fun n i => liGraphOk_2 N n (g, g.2.1, (g.2.1.length : Int), (i : Int), ())) (yes := .inl ()) (no := .inr (false, ())) (sm_lim a3)
    (fun n i h hw hq => by
      simp at hq
      simp [liGraphOk_2, h, hw, leads1_ok hN (sm_lim (a4 _ (List.getElem_mem h))), hq, Nat.not_lt.2 hq.1])
    (fun n i h hq => by
      simp only [liGraphOk_2, leads1_ok hN (sm_lim (a4 _ (List.getElem_mem h))), getD_lt h, Int.toNat_natCast]
      by_cases h1 : g.2.1[i].length ≤ 8 <;> simp_all)
    (fun n => by simp [liGraphOk_2]) (by have := sm_lim a3; omega)
  simp only [Int.natCast_zero] at h1 h2
  simp only [FiGraphOk, okG]
  have hp : (g.2.2.1.all (fun x => decide (0 ≤ x)) && okR g.1.length g.2.2.1) = g.2.2.1.all fun x => decide (0 ≤ x) && decide (x < (g.1.length : Int)) := by
    rw [Bool.eq_iff_iff]
    simp only [okR, Bool.and_eq_true, List.all_eq_true, decide_eq_true_eq]
    constructor
    · rintro ⟨h1, h2⟩ x hx; exact ⟨h1 x hx, (h2 x hx).2⟩
    · intro h; exact ⟨fun x hx => (h x hx).1, fun x hx => ⟨by have := (h x hx).1; omega, (h x hx).2⟩⟩
  rw [hp]
  by_cases b1 : g.1.length ≤ 200
  · by_cases b2 : 1 ≤ g.2.1.length
    · by_cases b3 : g.2.1.length ≤ 3
      · by_cases b4 : g.2.2.1.length ≤ 8
        · simp only [gt_iff_lt, lit_lt200, lt_lit1, lit_lt3, lit_lt8, Nat.not_lt.2 b1, Nat.not_lt.2 b2, Nat.not_lt.2 b3, Nat.not_lt.2 b4, b1, b2, b3, b4, decide_true, decide_false, cond_false, Option.bind_some, leads_ok hN (sm_lim a5), bif_neg]
          cases g.2.2.1.all fun x => decide (0 ≤ x) && decide (x < (g.1.length : Int))
          · simp
          · simp only [cond_true, Option.bind_some, Sum.elim_inl, h1]
            cases g.1.all (okN g.1.length)
            · simp
            · simp only [cond_true, Option.bind_some, Sum.elim_inl, h2]
              cases g.2.1.all fun r => decide (r.length ≤ 8) && okR g.1.length r <;> simp
        · simp [Nat.not_lt.2 b1, Nat.not_lt.2 b2, Nat.not_lt.2 b3, Nat.not_le.1 b4, b4]
      · simp [Nat.not_lt.2 b1, Nat.not_lt.2 b2, Nat.not_le.1 b3, b3]
    · simp [Nat.not_lt.2 b1, Nat.not_le.1 b2, b2]
  · simp [Nat.not_le.1 b1, b1]

end

section
variable {N : Nat} (hN : lim < N)
include hN

omit hN in
theorem grow_ok {n : Int} (h0 : 0 ≤ n) (h1 : n ≤ 1000000) : FkGrow_Sint_int N (n, ()) = some ([], ()) := by
  have hw : w64 (n - w64 (0 - 0)) = n := by
    have : w64 (0 - 0) = 0 := w64_id (by omega) (by omega)
    rw [this]; rw [w64_id (by omega) (by omega)]; omega
  have hw' : w64 (n - w64 0) = n := hw
  have h2 : ¬ n < 0 := by omega
  have h3 : n ≤ (lim : Int) := by rw [lim_eq]; omega
  have h5 : 0 ≤ max n 0 := by omega
  by_cases h4 : n > 0
  · simp [FkGrow_Sint_int, h2, hw', h4, h0, h3, h5]
  · simp [FkGrow_Sint_int, h2, hw', h4]

theorem concat_ok {ls : List (List Int)} (hl : ls.length ≤ 8) (hx : ∀ l ∈ ls, l.length ≤ 1000) : FkConcat_Sint_int N (ls, ()) = some (ls.flatten, ()) := by
  obtain ⟨e, h⟩ := fold_loop (xs := ls) (n := N) (fun (s : Int) l => s + l.length) (fun i s => 0 ≤ s ∧ s ≤ 1000 * (i : Int)) (L := fun n i s => lkConcat_Sint_int_0 N n (ls, s, ls, (ls.length : Int), (i : Int), ())) (fin := fun s => (ls, s, ()))
    (by rw [lim_eq]; omega)
    (fun n i s hi hw hI => by
      have := hx _ (List.getElem_mem hi)
      have hw2 : w64 (s + (ls[i].length : Int)) = s + ls[i].length := w64_id (by omega) (by omega)
      have h2 : ¬ s + (ls[i].length : Int) < 0 := by omega
      refine ⟨?_, by omega, by omega⟩
      simp [lkConcat_Sint_int_0, hi, hw, hw2, h2])
    (fun n s hI => by simp [lkConcat_Sint_int_0]) (by rw [lim_eq] at hN; omega) (s := 0) (by simp)
  have e2 := (fold_loop (xs := ls) (n := N) (fun (s : List Int) l => s ++ l) (fun i s => s.length ≤ 1000 * i) (L := fun n i s => lkConcat_Sint_int_2 N n (ls, (ls.length : Int), (i : Int), s, ())) (fin := fun s => (s, ()))
    (by rw [lim_eq]; omega)
    (fun n i s hi hw hI => by
      have := hx _ (List.getElem_mem hi)
      have hlim : s.length + ls[i].length ≤ lim := by rw [lim_eq]; omega
      refine ⟨?_, by rw [List.length_append]; omega⟩
      simp [lkConcat_Sint_int_2, hi, hw, hlim])
    (fun n s hI => by simp [lkConcat_Sint_int_2]) (by rw [lim_eq] at hN; omega) (s := []) (by simp)).1
  have ef : ∀ (ls : List (List Int)) (s : List Int), ls.foldl (fun s l => s ++ l) s = s ++ ls.flatten := by
    intro ls
    induction ls with
    | nil => intro s; simp
    | cons l ls ih => intro s; rw [List.foldl_cons, ih]; simp
  rw [ef] at e2
  generalize ls.foldl (fun (s : Int) l => s + l.length) 0 = t at e h
  simp only [Int.natCast_zero] at e e2
  simp [FkConcat_Sint_int, e, grow_ok (N := N) h.1 (by omega), e2]

theorem holds_i {g : Gr} (h : okG g = true) {a : Int} {s1 s2 : Sn} (h1 : Seen g.1.length s1) (h2 : Seen g.1.length s2)
    (m1 : ∀ k, k ∈ keys s1 ↔ Rch (refsOf g) (-1) (begins g) k) (m2 : ∀ k, k ∈ keys s2 ↔ Rch (refsOf g) a (begins g) k) :
    liPathHolds_0 N N ((g.1.length : Int), 0, s1, s2, [], ()) = some ((upto g.1.length).filter (heldB g a), ()) := by
  have hg := okG_iff.1 h
  have e := (fold_loop (xs := upto g.1.length) (n := N) (fun s x => if heldB g a x = true then s ++ [x] else s) (fun i s => s.length ≤ i) (L := fun n i s => liPathHolds_0 N n ((g.1.length : Int), (i : Int), s1, s2, s, ())) (fin := fun s => (s, ()))
    (by rw [lim_eq, upto_len]; omega)
    (fun n i s hi hw hI => by
      have hi' : i < g.1.length := by simpa [upto_len] using hi
      have hlim : s.length + 1 ≤ lim := by rw [lim_eq]; omega
      have h4 : heldB g a i = ((mget s1 i).getD false && !(mget s2 i).getD false) := by
        rw [Bool.eq_iff_iff, heldB_iff, Bool.and_eq_true, mget_keys h1.tr, m1, ← m2, ← mget_keys h2.tr, Bool.not_eq_true, Bool.not_eq_true']
      rw [upto_get hi, h4]
      simp only [liPathHolds_0, Int.ofNat_lt, hi', decide_true, cond_true, hw, List.length_cons, List.length_nil, Nat.zero_add, hlim]
      cases (mget s1 i).getD false <;> cases (mget s2 i).getD false <;> exact ⟨rfl, by simp; omega⟩)
    (fun n s hI => by simp [liPathHolds_0, upto_len]) (by rw [lim_eq] at hN; rw [upto_len]; omega) (s := []) (by simp)).1
  rw [foldl_filter] at e
  simpa using e

theorem iPathHolds_ok {g : Gr} (hs : smG g) (a : Int) : FiPathHolds N (g, a, ()) = some (heldBy g a, ()) := by
  cases h : okG g with
  | false => simp [FiPathHolds, iGraphOk_ok hN hs, h, heldBy]
  | true =>
    by_cases h0 : a ≥ 0
    · by_cases h1 : a < (g.1.length : Int)
      · rw [heldBy_in ⟨h, h0, h1⟩]
        have hg := okG_iff.1 h
        have hc := concat_ok hN (ls := g.2.1) (by omega) (fun l hl => by have := (hg.2.2.2.2.1 l hl).1; omega)
        have hfl : g.2.1.flatten.length ≤ 8 * g.2.1.length := by
          have : ∀ (ls : List (List Int)), (∀ l ∈ ls, l.length ≤ 8) → ls.flatten.length ≤ 8 * ls.length := by
            intro ls
            induction ls with
            | nil => intro _; simp
            | cons l ls ih =>
              intro hl
              have := ih (fun x hx => hl x (by simp [hx]))
              have := hl l (by simp)
              simp only [List.flatten_cons, List.length_append, List.length_cons]
              omega
          exact this _ (fun l hl => (hg.2.2.2.2.1 l hl).1)
        have hb : ∀ x ∈ begins g, x < (g.1.length : Int) := fun x hx => by
          rcases List.mem_append.1 hx with hx | hx
          · obtain ⟨l, hl, hx⟩ := List.mem_flatten.1 hx
            exact rootsrng h l hl x hx
          · exact pinsrng h x hx
        have hlen : (begins g).length ≤ lim := by rw [begins, List.length_append, lim_eq]; omega
        obtain ⟨s1, e1, k1, m1⟩ := iGraph_from_ok hN h hb hlen (-1)
        obtain ⟨s2, e2, k2, m2⟩ := iGraph_from_ok hN h hb hlen a
        have hlen' : g.2.1.flatten.length + g.2.2.1.length ≤ lim := by rw [lim_eq]; omega
        simp only [begins] at e1 e2
        simp only [FiPathHolds, iGraphOk_ok hN hs, h, Option.bind_some, Bool.not_true, cond_false, FiGraph_hasNode, h0, h1, decide_true, cond_true, Sum.elim_inl, hc, hlen', e1, e2, holds_i hN h k1 k2 m1 m2]
      · rw [heldBy_out (fun hh => h1 hh.2.2)]
        simp only [FiPathHolds, iGraphOk_ok hN hs, h, Option.bind_some, Bool.not_true, cond_false, FiGraph_hasNode, h0, h1, decide_true, cond_true, decide_false, Bool.not_false, Sum.elim_inr]
    · rw [heldBy_out (fun hh => h0 hh.2.1)]
      simp only [FiPathHolds, iGraphOk_ok hN hs, h, Option.bind_some, Bool.not_true, cond_false, FiGraph_hasNode, h0, cond_true, decide_false, Bool.not_false, Sum.elim_inr]
end

section
variable {N : Nat} (hN : lim < N)
include hN

theorem iGraph_met_1_ok {m : Nat} {xs : List Int} (hx : ∀ x ∈ xs, x < (m : Int)) (hm : m ≤ 200) (hl : xs.length ≤ lim) {st : Mst} (hst : Met m st) :
    FiGraph_met_1 N (xs, st.2, st.1, ()) = some ((xs.foldl meet st).2, (xs.foldl meet st).1, ()) := by
  have := meets_loop hN (xs := xs) (m := m) hx hm hl
    (L := fun n i st => liGraph_met_1_0 N n (xs, (xs.length : Int), (i : Int), st.2, st.1, ())) (fin := fun st => (st.2, st.1, ()))
    (fun n i st hi hw hI hb hlim => by
      by_cases h0 : 0 ≤ xs[i]
      · have hb := hb h0
        cases hh : st.2.getD xs[i].toNat false with
        | false => 
          have hh' := hh
          rw [getD_lt hb] at hh'
          simp [liGraph_met_1_0, hi, hw, h0, hb, hlim, meet, hh']
        | true =>
          have hh' := hh
          rw [getD_lt hb] at hh'
          simp [liGraph_met_1_0, hi, hw, h0, hb, hlim, meet, hh']
      · simp [liGraph_met_1_0, hi, hw, h0, meet])
    (fun n st hI => by simp [liGraph_met_1_0]) hst
  simp only [Int.natCast_zero] at this
  simp [FiGraph_met_1, this]

theorem iGraph_met_ok {g : Gr} (h : okG g = true) : FiGraph_met N (g, ()) = some (order g, ()) := by
  have hg := okG_iff.1 h
  have hs := okG_small hN h
  have e1 := roots_loop hN (ls := g.2.1) (m := g.1.length) (rootsrng h) (sm_lim hs.2.2.1) (L := fun n i st => liGraph_met_0 N n (g, g.2.1, (g.2.1.length : Int), (i : Int), st.1, st.2, ())) (fin := fun st => (g, st.1, st.2, ()))
    (fun n i st hi hw hI => by
      have e := iGraph_met_1_ok hN (rootsrng h _ (List.getElem_mem hi)) hg.1 (sm_lim (hs.2.2.2.1 _ (List.getElem_mem hi))) hI
      simp [liGraph_met_0, hi, hw, e])
    (fun n st hI => by simp [liGraph_met_0]) (met0_ok _)
  have hb := roots_met (met0_ok g.1.length) (rootsrng h)
  have e2 := iGraph_met_1_ok hN (pinsrng h) hg.1 (sm_lim hs.2.2.2.2) hb
  have hb2 : Met g.1.length (begin0 g) := begin0_ok h
  have e4 := walk_loop hN (R := refsOf g) (m := g.1.length) (fun r _ _ => refs_rng h r) hg.1 (L := fun n i st => liGraph_met_2 N n (g, (i : Int), st.1, st.2, ())) (fin := fun st => (st.1, ()))
    (fun n i st hi hw hI => by
      have hr := hI.rng _ (List.getElem_mem hi)
      have hr' : st.1[i].toNat < g.1.length := by omega
      have hsm : (refsOf g st.1[i]).length ≤ lim := by
        unfold refsOf; rw [getD_lt hr']; exact sm_lim (hs.2.1 _ (List.getElem_mem hr')).1
      have e := iGraph_met_1_ok hN (refs_rng h st.1[i]) hg.1 hsm hI
      simp only [refsOf, getD_lt hr'] at e ⊢
      simp [liGraph_met_2, hi, hw, hr.1, hr', e])
    (fun n i st hi hI => by simp [liGraph_met_2, hi]) hb2
  simp only [Int.natCast_zero] at e1 e4
  have hl := sm_lim hs.1
  simp only [met0] at e1
  simp only [FiGraph_met, Int.natCast_nonneg, decide_true, cond_true, Int.toNat_natCast, hl, e1, Option.bind_some]
  simp only [met0] at e2
  rw [e2]
  simp only [Option.bind_some]
  have e5 : begin0 g = (g.2.2.1.foldl meet (g.2.1.foldl (fun s l => l.foldl meet s) ([], List.replicate g.1.length false))) := rfl
  rw [← e5, e4]
  rfl

end

section
variable {N : Nat} (hN : lim < N)
include hN

theorem iGraphReach_ok {g : Gr} (hs : smG g) : FiGraphReach N (g, ()) = some (if okG g = true then reachL g else [], ()) := by
  cases h : okG g with
  | false => simp [FiGraphReach, iGraphOk_ok hN hs, h]
  | true =>
    have hg := okG_iff.1 h
    have ho : (order g).length ≤ lim := by have := order_le h; rw [lim_eq]; omega
    have hl := sm_lim hs.1
    have e := (fold_loop (xs := order g) (n := N) (fun o r => o.set r.toNat true) (fun _ s => s.length = g.1.length)
      (L := fun n i s => liGraphReach_0 N n (((order g).length : Int), (i : Int), s, order g, ())) (fin := fun s => (s, ())) ho
      (fun n i s hi hw hI => by
        have hr := order_rng h _ (List.getElem_mem hi)
        have hr' : (order g)[i].toNat < s.length := by omega
        refine ⟨?_, by simpa using hI⟩
        simp [liGraphReach_0, hi, hw, hr.1, hr'])
      (fun n s hI => by simp [liGraphReach_0]) (by omega) (s := List.replicate g.1.length false) (by simp)).1
    simp only [Int.natCast_zero] at e
    simp [FiGraphReach, iGraphOk_ok hN hs, h, hl, iGraph_met_ok hN h, e, reachL, mark]
end

section
variable {N : Nat} (hN : lim < N)
include hN

theorem sDrawPathHolds_ok {code : List Int} (hb : ∀ x ∈ code, 0 ≤ x ∧ x < 256) : ∃ a g, FsDrawPathHolds N (code, ()) = some (a, g) ∧ smG g := by
  obtain ⟨b, e, hb'⟩ := sl1Open_ok hN hb
  obtain ⟨⟨ns, rs, ps, b2, p, ⟨⟩⟩, e2, hs, h1, h2, h3, h4, h5⟩ := l20Graph_ok hN hb' (p := 0) (by omega) (by omega)
  dsimp only at h3 h4 h5 hs
  subst h3
  obtain ⟨v, e3, _⟩ := pick_ok (N := N) (n := w64 ((ns.length : Int) + 2)) hb' (p := p) (by omega) (by omega)
  exact ⟨w64 (v - 1), (ns, rs, ps, ()), by simp [FsDrawPathHolds, e, e2, e3], hs⟩

omit hN in
theorem held_sorted {n : Nat} {p : Int → Bool} : ((upto n).filter p).Pairwise (· < ·) := by
  refine List.Pairwise.filter _ ?_
  rw [upto, List.pairwise_map]
  exact (List.pairwise_lt_range).imp fun h => by omega

/-- Who holds is held himself by whoever holds him: what b holds, a holds too. -/
theorem held_trans {g : Gr} {a b c : Int} (h : okG g = true ∧ 0 ≤ a ∧ a < (g.1.length : Int)) (hb : b ∈ heldBy g a) (hc : c ∈ heldBy g b) : c ∈ heldBy g a := by
  have hb2 := (mem_heldBy h).1 hb
  have hbr := order_rng h.1 _ hb2.1
  have hc2 := (mem_heldBy ⟨h.1, hbr.1, hbr.2⟩).1 hc
  refine (mem_heldBy h).2 ⟨hc2.1, fun hq => hc2.2 ?_⟩
  have hb3 := hb2.2
  rw [order_less h.1] at hq hb3 ⊢
  have key : ∀ k, Rch (refsOf g) a (begins g) k → Rch (refsOf g) b (begins g) k := by
    intro k hk
    induction hk with
    | root h1 h2 h3 => exact .root h1 h2 (fun e => hb3 (e ▸ .root h1 h2 h3))
    | step h0 h1 h2 h3 ih => exact .step ih h1 h2 (fun e => hb3 (e ▸ .step h0 h1 h2 h3))
  exact key c hq

theorem holds_chain {i : Int} {ns : List Nd} {rs : List (List Int)} {ps held r : List Int} (hl : held.length ≤ lim) (hr : r.length ≤ lim) (hin : ∀ x ∈ r, x ∈ held) :
    lvFnPathHolds_4 N N (i, 0, ns, rs, ps, held, r, ()) = some (.inl (i, ns, rs, ps, held, ())) := by
  have fold_any : ∀ (p : Int → Bool) (xs : List Int) (b : Bool), xs.foldl (fun b x => b || p x) b = (b || xs.any p) := by
    intro p xs
    induction xs with
    | nil => intro b; simp
    | cons x xs ih => intro b; rw [List.foldl_cons, ih, List.any_cons, Bool.or_assoc]
  have inner : ∀ (j : Nat) (hj : j < r.length), lvFnPathHolds_6 N N (i, (j : Int), false, 0, ns, rs, ps, held, r, ()) = some (i, (j : Int), true, ns, rs, ps, held, r, ()) := by
    intro j hj
    have e := (fold_loop (xs := held) (n := N) (fun b x => b || x == r[j]) (fun _ _ => True) (L := fun n k b => lvFnPathHolds_6 N n (i, (j : Int), b, (k : Int), ns, rs, ps, held, r, ()))
      (fin := fun b => (i, (j : Int), b, ns, rs, ps, held, r, ())) hl
      (fun n k b hk hw _ => by
        refine ⟨?_, trivial⟩
        cases b with
        | true => simp only [lvFnPathHolds_6, Int.ofNat_lt, hk, decide_true, cond_true, hw, Bool.true_or]
        | false => simp only [lvFnPathHolds_6, Int.ofNat_lt, hk, hj, decide_true, cond_true, cond_false, hw, Bool.false_or, Int.natCast_nonneg, Int.toNat_natCast, getD_lt hk, getD_lt hj])
      (fun n b _ => by simp [lvFnPathHolds_6]) (by omega) (s := false) trivial).1
    rw [fold_any (fun x => x == r[j]), List.any_eq_true.2 ⟨_, hin _ (List.getElem_mem hj), by simp⟩] at e
    simpa only [Int.natCast_zero, Bool.or_true] using e
  have e := all_loop (xs := r) (n := N) (fun _ => true) (L := fun n j => lvFnPathHolds_4 N n (i, (j : Int), ns, rs, ps, held, r, ()))
      (yes := .inl (i, ns, rs, ps, held, ())) (no := .inr (false, ())) hr
      (fun n j hj hw _ => by simp only [lvFnPathHolds_4, Int.ofNat_lt, hj, decide_true, cond_true, inner j hj, Option.bind_some, Bool.not_true, cond_false, hw])
      (fun n j hj hq => by cases hq)
      (fun n => by simp [lvFnPathHolds_4]) (by omega)
  rw [show r.all (fun _ => true) = true from List.all_eq_true.2 fun _ _ => rfl, cond_true] at e
  simpa only [Int.natCast_zero] using e

theorem FnPathHolds_ok {code : List Int} (hb : ∀ x ∈ code, 0 ≤ x ∧ x < 256) : FvFnPathHolds N (code, ()) = some (true, ()) := by
  by_cases hc : (code.length : Int) > 1048576
  · simp [FvFnPathHolds, hc]
  · obtain ⟨a, g, e, hs⟩ := sDrawPathHolds_ok hN hb
    obtain ⟨ns, rs, ps, ⟨⟩⟩ := g
    have hlen := heldBy_len2 (ns, rs, ps, ()) a
    have hlim : (heldBy (ns, rs, ps, ()) a).length ≤ lim := by rw [lim_eq]; omega
    have e1 := iPathHolds_ok hN hs a
    have e2 := sPathHolds_ok hN hs a
    by_cases h : okG (ns, rs, ps, ()) = true ∧ 0 ≤ a ∧ a < (ns.length : Int)
    · obtain ⟨h0, h1, h2⟩ := h
      have hg := okG_iff.1 h0
      have n1 : ¬ a < 0 := by omega
      have n2 : ¬ a ≥ (ns.length : Int) := by omega
      have hr := reachL_len (ns, rs, ps, ())
      dsimp only at hr
      have hmem := fun k => mem_heldBy (g := (ns, rs, ps, ())) (a := a) (k := k) ⟨h0, h1, h2⟩
      have hsort : (heldBy (ns, rs, ps, ()) a).Pairwise (· < ·) := by rw [heldBy_in ⟨h0, h1, h2⟩]; exact held_sorted
      have e3 := iGraphReach_ok hN hs
      rw [if_pos h0] at e3
      have inner := fun b (hb : b ∈ heldBy (ns, rs, ps, ()) a) => iPathHolds_ok hN hs b
      have htr := fun b (hb : b ∈ heldBy (ns, rs, ps, ()) a) c (hc : c ∈ heldBy (ns, rs, ps, ()) b) => held_trans hN (g := (ns, rs, ps, ())) ⟨h0, h1, h2⟩ hb hc
      have hl2 := fun b => heldBy_len2 (ns, rs, ps, ()) b
      generalize hhe : heldBy (ns, rs, ps, ()) a = held at *
      have l0 : ∀ (d n i : Nat) (b : Bool), i + d = held.length → d < n → lvFnPathHolds_0 N n (a, b, (i : Int), ns, rs, ps, held, reachL (ns, rs, ps, ()), ()) =
          some (.inl (a, b || (held.drop i).any (· == a), ns, rs, ps, held, reachL (ns, rs, ps, ()), ())) := by
        intro d
        induction d with
        | zero =>
          intro n i b hi hn
          obtain ⟨n, rfl⟩ : ∃ k, n = k + 1 := ⟨n - 1, by omega⟩
          have : i = held.length := by omega
          subst this
          simp [lvFnPathHolds_0]
        | succ d ih =>
          intro n i b hi hn
          obtain ⟨n, rfl⟩ : ∃ k, n = k + 1 := ⟨n - 1, by omega⟩
          have hlt : i < held.length := by omega
          have hw : w64 ((i : Int) + 1) = ((i + 1 : Nat) : Int) := w64_succ (by omega)
          have hm := (hmem held[i]).1 (List.getElem_mem hlt)
          have hrg := order_rng h0 _ hm.1
          dsimp only at hrg
          have hk : held[i].toNat < (reachL (ns, rs, ps, ())).length := by omega
          have hrb : (reachL (ns, rs, ps, ())).getD held[i].toNat false = true := by
            rw [reachL_get h0, show ((held[i].toNat : Nat) : Int) = held[i] by omega]; exact hm.1
          have hstep : (bif b then some (a, true, (i : Int), ns, rs, ps, held, reachL (ns, rs, ps, ()), ()) else some (a, held[i] == a, (i : Int), ns, rs, ps, held, reachL (ns, rs, ps, ()), ())) =
              some (a, b || held[i] == a, (i : Int), ns, rs, ps, held, reachL (ns, rs, ps, ()), ()) := by cases b <;> rfl
          have hnext := ih n (i + 1) (b || held[i] == a) (by omega) (by omega)
          rw [show held.drop i = held[i] :: held.drop (i + 1) from List.drop_eq_getElem_cons hlt, List.any_cons, ← Bool.or_assoc, ← hnext]
          simp only [lvFnPathHolds_0, Int.ofNat_lt, hlt, decide_true, cond_true, Int.natCast_nonneg, Int.toNat_natCast, getD_lt hlt, hstep, Option.bind_some, hrg.1, hk, hrb, Bool.not_true, cond_false, hw]
          by_cases hi0 : (i : Int) > 0
          · have hw2 : w64 ((i : Int) - 1) = ((i - 1 : Nat) : Int) := by rw [w64_id (by omega) (by omega)]; omega
            have hlt2 : i - 1 < held.length := by omega
            have hs2 := List.pairwise_iff_getElem.1 hsort (i - 1) i hlt2 hlt (by omega)
            have n3 : ¬ held[i - 1] ≥ held[i] := by omega
            simp only [hi0, decide_true, cond_true, hw2, Int.natCast_nonneg, Int.toNat_natCast, Int.ofNat_lt, hlt2, getD_lt hlt2, n3, decide_false, cond_false]
          · simp only [hi0, decide_false, cond_false]
      have f0 := l0 held.length N 0 false (by omega) (by omega)
      simp only [Int.natCast_zero, List.drop_zero, Bool.false_or] at f0
      have ha : a.toNat < (reachL (ns, rs, ps, ())).length := by omega
      have hfound : held.any (· == a) = (reachL (ns, rs, ps, ())).getD a.toNat false := by
        rw [Bool.eq_iff_iff, List.any_eq_true, reachL_get h0, show ((a.toNat : Nat) : Int) = a by omega]
        constructor
        · rintro ⟨x, hx, he⟩
          have : x = a := by simpa using he
          subst this
          exact ((hmem _).1 hx).1
        · intro hq
          refine ⟨a, (hmem a).2 ⟨hq, fun hh => ?_⟩, by simp⟩
          rw [order_less h0] at hh
          cases hh with
          | root _ _ h3 => exact h3 rfl
          | step _ _ _ h3 => exact h3 rfl
      have l2 : ∀ (d n i : Nat), i + d = min held.length 3 → d < n → lvFnPathHolds_2 N n ((i : Int), ns, rs, ps, held, ()) = some (.inl ()) := by
        intro d
        induction d with
        | zero =>
          intro n i hi hn
          obtain ⟨n, rfl⟩ : ∃ k, n = k + 1 := ⟨n - 1, by omega⟩
          by_cases hlt : (i : Int) < held.length
          · have : ¬ (i : Int) < 3 := by omega
            simp only [lvFnPathHolds_2, hlt, decide_true, cond_true, this, decide_false, cond_false, Option.bind_some, Sum.elim_inl]
          · simp only [lvFnPathHolds_2, hlt, decide_false, cond_false, Option.bind_some, Sum.elim_inl]
        | succ d ih =>
          intro n i hi hn
          obtain ⟨n, rfl⟩ : ∃ k, n = k + 1 := ⟨n - 1, by omega⟩
          have hlt : i < held.length := by omega
          have h3 : (i : Int) < 3 := by omega
          have hw : w64 ((i : Int) + 1) = ((i + 1 : Nat) : Int) := w64_succ (by omega)
          have hm := List.getElem_mem hlt
          have hch := holds_chain hN (i := (i : Int)) (ns := ns) (rs := rs) (ps := ps) (held := held) (r := heldBy (ns, rs, ps, ()) held[i]) hlim (by have := hl2 held[i]; rw [lim_eq]; omega) (fun c hc => htr _ hm c hc)
          simp only [lvFnPathHolds_2, Int.ofNat_lt, hlt, h3, decide_true, cond_true, Option.bind_some, Sum.elim_inr, Int.natCast_nonneg, Int.toNat_natCast, getD_lt hlt, inner _ hm, hch, Sum.elim_inl, hw]
          exact ih n (i + 1) (by omega) (by omega)
      have f2 := l2 (min held.length 3) N 0 (by omega) (by rw [lim_eq] at hN; omega)
      simp only [Int.natCast_zero] at f2
      simp only [FvFnPathHolds, hc, decide_false, cond_false, e, Option.bind_some, e1, e2, vflInts_ok hN hlim, decide_true, Bool.not_true, sGraphOk_ok hN hs, h0, n1, n2, Sum.elim_inl, e3, f0, h1, ha, hfound, cond_true, BEq.rfl, f2]
    · have hz : (([] : List Int).length == 0) = true := rfl
      rw [heldBy_out h] at e1 e2
      cases h0 : okG (ns, rs, ps, ()) with
      | false => simp [FvFnPathHolds, hc, e, e1, e2, vflInts_ok hN, sGraphOk_ok hN hs, h0]
      | true =>
        by_cases h1 : a < 0
        · simp [FvFnPathHolds, hc, e, e1, e2, vflInts_ok hN, sGraphOk_ok hN hs, h0, h1]
        · have h2 : a ≥ (ns.length : Int) := by
            by_cases h2 : a < (ns.length : Int)
            · exact absurd ⟨h0, by omega, h2⟩ h
            · omega
          have h2' : (ns.length : Int) ≤ a := h2
          simp [FvFnPathHolds, hc, e, e1, e2, vflInts_ok hN, sGraphOk_ok hN hs, h0, h1, h2']
end
end Go.Fl
