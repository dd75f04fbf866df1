/- Proved: for every input the law FnPathRings returns true and leaves its arguments as they were. Part 2: the functions that the law reaches, as plain functions, and plain laws about them; no conditions. -/
import Derived.Test.YtjlcdaggbpgpjaaPathRingsP1
set_option linter.all false
set_option linter.all false
set_option maxRecDepth 10000
namespace Go.Fl
open Go

/-- A law's inputs are at most so large. -/
abbrev sm (n : Nat) : Prop := n ≤ 1048576

abbrev Nd := List Int × List Int × Unit

abbrev Gr := List Nd × List (List Int) × List Int × Unit

def smN (x : Nd) : Prop := sm x.1.length ∧ sm x.2.1.length

def smG (g : Gr) : Prop := sm g.1.length ∧ (∀ x ∈ g.1, smN x) ∧ sm g.2.1.length ∧ (∀ x ∈ g.2.1, sm x.length) ∧ sm g.2.2.1.length

abbrev ml (n : Nat) : Prop := n ≤ 9223372036854775807

def mlN (x : Nd) : Prop := ml x.1.length ∧ ml x.2.1.length

def mlG (g : Gr) : Prop := ml g.1.length ∧ (∀ x ∈ g.1, mlN x) ∧ ml g.2.1.length ∧ (∀ x ∈ g.2.1, ml x.length) ∧ ml g.2.2.1.length

/-- A loop that tells what is left, or stops. -/
theorem size_loop {α : Type} {xs : List α} (P : α → Prop) {L : Nat → Nat → Int → Option ((Int × Unit) ⊕ (Int × Unit))} (hl : xs.length ≤ lim)
    (h1 : ∀ n i (h : i < xs.length) (left : Int), 0 ≤ left → left ≤ 1048576 → w64 ((i : Int) + 1) = ((i + 1 : Nat) : Int) →
      L (n + 1) i left = some (.inr (-1, ())) ∨ ∃ r, 0 ≤ r ∧ r ≤ left ∧ P xs[i] ∧ L (n + 1) i left = L n (i + 1) r)
    (h3 : ∀ n left, L (n + 1) xs.length left = some (.inl (left, ()))) {n : Nat} (hn : xs.length < n) {left : Int} (h0 : 0 ≤ left) (h1' : left ≤ 1048576) :
    L n 0 left = some (.inr (-1, ())) ∨ ∃ r, 0 ≤ r ∧ r ≤ left ∧ (∀ x ∈ xs, P x) ∧ L n 0 left = some (.inl (r, ())) := by
  have key : ∀ n i left, 0 ≤ left → left ≤ 1048576 → i ≤ xs.length → xs.length - i < n → L n i left = some (.inr (-1, ())) ∨ ∃ r, 0 ≤ r ∧ r ≤ left ∧ (∀ x ∈ xs.drop i, P x) ∧ L n i left = some (.inl (r, ())) := by
    intro n
    induction n with
    | zero => intro i left _ _ _ h; exact absurd h (Nat.not_lt_zero _)
    | succ n ih =>
      intro i left h0 h2 hi hn
      by_cases h : i < xs.length
      · rcases h1 n i h left h0 h2 (w64_succ (by have : lim = 2147483648 := rfl; omega)) with h4 | ⟨r, h4, h5, h6, h7⟩
        · exact .inl h4
        · rw [h7]
          rcases ih (i + 1) r h4 (by omega) (by omega) (by omega) with h8 | ⟨q, h8, h9, h10, h11⟩
          · exact .inl h8
          · refine .inr ⟨q, h8, by omega, ?_, h11⟩
            rw [drop_at h]
            exact List.forall_mem_cons.2 ⟨h6, h10⟩
      · have : i = xs.length := by omega
        subst this
        exact .inr ⟨left, h0, Int.le_refl _, by simp, h3 _ _⟩
  simpa using key n 0 left h0 h1' (by omega) (by omega)

theorem sm_lim {n : Nat} (h : sm n) : n ≤ lim := by simp only [sm] at h; rw [lim_eq]; omega


theorem wf_u8 {n : Int} (h : (Lit.int .u8 n).wf = true) : 0 ≤ n ∧ n < 256 := by
  simp only [Lit.wf, IntKind.min, IntKind.max, IntKind.signed, IntKind.bits] at h
  simp at h
  omega
theorem wf_i64 {n : Int} (h : (Lit.int .i64 n).wf = true) : -9223372036854775808 ≤ n ∧ n < 9223372036854775808 := by
  simp only [Lit.wf, IntKind.min, IntKind.max, IntKind.signed, IntKind.bits] at h
  simp at h
  omega

/-- It comes to an end, and what it comes to is so. -/
def Ret {α : Type} (o : Option α) (P : α → Prop) : Prop := ∃ r, o = some r ∧ P r

theorem Ret.pure {α : Type} {a : α} {P : α → Prop} (h : P a) : Ret (some a) P := ⟨a, rfl, h⟩
theorem Ret.bind {α β : Type} {o : Option α} {k : α → Option β} {P : β → Prop} (Q : α → Prop) (h : Ret o Q) (hk : ∀ r, Q r → Ret (k r) P) : Ret (o.bind k) P := by
  obtain ⟨r, e, hr⟩ := h
  rw [e]
  exact hk r hr
theorem Ret.bindE {α β : Type} {o : Option α} {k : α → Option β} {P : β → Prop} {r : α} (e : o = some r) (hk : Ret (k r) P) : Ret (o.bind k) P := by
  rw [e]; exact hk
theorem Ret.mono {α : Type} {o : Option α} {P Q : α → Prop} (h : Ret o P) (hm : ∀ r, P r → Q r) : Ret o Q := by
  obtain ⟨r, e, hr⟩ := h; exact ⟨r, e, hm r hr⟩
theorem Ret.bif {α : Type} {c : Bool} {a b : Option α} {P : α → Prop} (h1 : c = true → Ret a P) (h2 : c = false → Ret b P) : Ret (bif c then a else b) P := by
  cases c with
  | true => exact h1 rfl
  | false => exact h2 rfl
theorem Ret.dec {α : Type} {p : Prop} [Decidable p] {a b : Option α} {P : α → Prop} (h1 : p → Ret a P) (h2 : ¬ p → Ret b P) : Ret (_root_.cond (decide p) a b) P := by
  by_cases h : p
  · simpa [h] using h1 h
  · simpa [h] using h2 h
theorem Ret.guard {α : Type} {p : Prop} [Decidable p] {a : Option α} {P : α → Prop} (hp : p) (h : Ret a P) : Ret (_root_.cond (decide p) a none) P := by
  simpa [hp] using h
theorem Ret.guardN {α : Type} {p : Prop} [Decidable p] {a : Option α} {P : α → Prop} (hp : ¬ p) (h : Ret a P) : Ret (_root_.cond (decide p) none a) P := by
  simpa [hp] using h
theorem Ret.beq {α β : Type} [DecidableEq β] {x y : β} {a b : Option α} {P : α → Prop} (h1 : x = y → Ret a P) (h2 : ¬ x = y → Ret b P) : Ret (_root_.cond (x == y) a b) P := by
  rw [bif_beq]
  by_cases h : x = y
  · simpa [h] using h1 h
  · simpa [h] using h2 h
theorem obind_eq {α β : Type} {o : Option α} {r : α} {k : α → Option β} {z : Option β} (e : o = some r) (h : k r = z) : o.bind k = z := by
  rw [e]; exact h

/-- What a code is: bytes. -/
def byteL (b : List Int) : Prop := b.length ≤ 2000 ∧ ∀ x ∈ b, 0 ≤ x ∧ x < 256

theorem xor_rng {x y : Int} (hx : 0 ≤ x) (hx' : x < 9223372036854775808) (hy : 0 ≤ y) (hy' : y < 9223372036854775808) :
    0 ≤ w64 (((bitsOf .i64 x ^^^ bitsOf .i64 y).toNat : Int)) := by
  have h1 : (bitsOf .i64 x).toNat < 2 ^ 63 := by
    simp only [bitsOf, IntKind.bits, BitVec.toNat_ofInt]; omega
  have h2 : (bitsOf .i64 y).toNat < 2 ^ 63 := by
    simp only [bitsOf, IntKind.bits, BitVec.toNat_ofInt]; omega
  have h3 : (bitsOf .i64 x ^^^ bitsOf .i64 y).toNat < 2 ^ 63 := by
    rw [BitVec.toNat_xor]
    exact Nat.xor_lt_two_pow h1 h2
  rw [w64_id (by omega) (by omega)]
  omega

theorem tmod_rng {x n : Int} (hx : 0 ≤ x) (hn : 1 ≤ n) : 0 ≤ Int.tmod x n ∧ Int.tmod x n < n := by
  rw [Int.tmod_eq_emod_of_nonneg hx]
  exact ⟨Int.emod_nonneg _ (by omega), Int.emod_lt_of_pos _ (by omega)⟩

section
variable {N : Nat}

theorem pick_ok {b : List Int} {p n : Int} (hb : byteL b) (hp : 0 ≤ p) (hp' : p < 1099511627776) :
    ∃ v, Fsl1Rd_pick N (n, b, p, ()) = some (v, b, p + 1, ()) ∧ 0 ≤ v ∧ (v < n ∨ v = 0) := by
  obtain ⟨hl, hx⟩ := hb
  have e1 : w64 (p + 1) = p + 1 := w64_id (by omega) (by omega)
  have e2 : w64 (p + 1 - 1) = p := by rw [w64_id (by omega) (by omega)]; omega
  simp only [Fsl1Rd_pick, e1]
  by_cases hn : n < 1
  · exact ⟨0, by simp [hn], by omega, .inr rfl⟩
  · have hn' : ¬ n = 0 := by omega
    by_cases h0 : b.length = 0
    · have : (b.length : Int) = 0 := by omega
      exact ⟨0, by simp [hn, this], by omega, .inr rfl⟩
    · have h0' : ¬ (b.length : Int) = 0 := by omega
      simp only [hn, decide_false, cond_false, bif_beq, h0', if_false, Option.bind_some, Sum.elim_inl, e2]
      by_cases hk : p < (b.length : Int)
      · have hk' : p.toNat < b.length := by omega
        have := hx _ (List.getElem_mem hk')
        simp only [hk, decide_true, cond_true, hp, hk', getD_lt hk', hn', decide_false, cond_false]
        rw [w64_id (by omega) (by omega)]
        exact ⟨_, rfl, (tmod_rng this.1 (by omega)).1, .inl (tmod_rng this.1 (by omega)).2⟩
      · obtain ⟨a1, a2⟩ := tmod_rng hp (n := (b.length : Int)) (by omega)
        have a3 : (Int.tmod p b.length).toNat < b.length := by omega
        have a4 := hx _ (List.getElem_mem a3)
        have e3 : w64 (p * 7) = p * 7 := w64_id (by omega) (by omega)
        have e4 : w64 (p * 7 + 3) = p * 7 + 3 := w64_id (by omega) (by omega)
        obtain ⟨c1, c2⟩ := tmod_rng (x := p * 7 + 3) (by omega) (n := (b.length : Int)) (by omega)
        have c3 : (Int.tmod (p * 7 + 3) b.length).toNat < b.length := by omega
        have c4 := hx _ (List.getElem_mem c3)
        have e5 : w64 (p * 29) = p * 29 := w64_id (by omega) (by omega)
        have d0 : 0 ≤ Int.tdiv p b.length ∧ Int.tdiv p b.length ≤ p := by
          rw [Int.tdiv_eq_ediv_of_nonneg hp]
          exact ⟨Int.ediv_nonneg hp (by omega), Int.ediv_le_self _ hp⟩
        have e6 : w64 (Int.tdiv p b.length) = Int.tdiv p b.length := w64_id (by omega) (by omega)
        simp only [hk, decide_false, cond_false, h0', a1, a3, decide_true, cond_true, getD_lt a3, e3, e4, c1, c3, getD_lt c3, e5, e6]
        generalize b[(Int.tmod p b.length).toNat] = u at a4 ⊢
        generalize b[(Int.tmod (p * 7 + 3) b.length).toNat] = v at c4 ⊢
        generalize Int.tdiv p b.length = q at d0 ⊢
        have f1 : w64 u = u := w64_id (by omega) (by omega)
        have f2 : w64 v = v := w64_id (by omega) (by omega)
        have f3 : w64 (u * 131) = u * 131 := w64_id (by omega) (by omega)
        have f4 : w64 (v * 1117) = v * 1117 := w64_id (by omega) (by omega)
        have f5 : w64 (u * 131 + v * 1117) = u * 131 + v * 1117 := w64_id (by omega) (by omega)
        have f6 : w64 (u * 131 + v * 1117 + p * 29) = u * 131 + v * 1117 + p * 29 := w64_id (by omega) (by omega)
        have f7 : w64 (q * 53) = q * 53 := w64_id (by omega) (by omega)
        have f8 : w64 (u * 131 + v * 1117 + p * 29 + q * 53) = u * 131 + v * 1117 + p * 29 + q * 53 := w64_id (by omega) (by omega)
        simp only [f1, f2, f3, f4, f5, f6, f7, f8]
        generalize hz : u * 131 + v * 1117 + p * 29 + q * 53 = z
        have z0 : 0 ≤ z ∧ z < 9223372036854775808 := by omega
        have g0 : 0 ≤ Int.tdiv z 64 ∧ Int.tdiv z 64 ≤ z := by
          rw [Int.tdiv_eq_ediv_of_nonneg z0.1]
          exact ⟨Int.ediv_nonneg z0.1 (by omega), Int.ediv_le_self _ z0.1⟩
        have g1 : w64 (Int.tdiv z 64) = Int.tdiv z 64 := w64_id (by omega) (by omega)
        have hxr := xor_rng z0.1 z0.2 g0.1 (by omega : Int.tdiv z 64 < 9223372036854775808)
        rw [g1]
        have h64 : ¬ (64 : Int) = 0 := by omega
        simp only [h64, decide_false, cond_false, hn']
        exact ⟨_, rfl, (tmod_rng hxr (by omega)).1, .inl (tmod_rng hxr (by omega)).2⟩

theorem pick_bind {β : Type} {b : List Int} {p n : Int} {k : Int × List Int × Int × Unit → Option β} {P : β → Prop} (hb : byteL b) (hp : 0 ≤ p) (hp' : p < 1099511627776)
    (hk : ∀ v, 0 ≤ v → (v < n ∨ v = 0) → Ret (k (v, b, p + 1, ())) P) : Ret ((Fsl1Rd_pick N (n, b, p, ())).bind k) P := by
  obtain ⟨v, e, h1, h2⟩ := pick_ok (N := N) (n := n) hb hp hp'
  exact Ret.bindE e (hk v h1 h2)
end

section
variable {N : Nat}

theorem l20Shape_ok {b : List Int} {p : Int} (hb : byteL b) (hp : 0 ≤ p) (hp' : p < 1099511627700) :
    Ret (Fsl20Shape N (b, p, ())) (fun r => r.2.2.1 = b ∧ p ≤ r.2.2.2.1 ∧ r.2.2.2.1 ≤ p + 3) := by
  unfold Fsl20Shape
  repeat' (first
    | refine pick_bind hb (by omega) (by omega) (fun v a c => ?_)
    | refine Ret.guard (by first | omega | (simp; omega)) ?_
    | refine Ret.beq (fun e => ?_) (fun e => ?_)
    | refine Ret.pure ?_
    | dsimp only)
  all_goals exact ⟨rfl, by omega, by omega⟩

theorem l20Op_ok {n : Int} {b : List Int} {p : Int} (hb : byteL b) (hp : 0 ≤ p) (hp' : p < 1099511627600) :
    Ret (Fsl20Op N (n, b, p, ())) (fun r => r.2.2.2.2.2.2.2.2.1 = b ∧ p ≤ r.2.2.2.2.2.2.2.2.2.1 ∧ r.2.2.2.2.2.2.2.2.2.1 ≤ p + 30) := by
  unfold Fsl20Op
  dsimp only
  refine pick_bind hb (by omega) (by omega) (fun v1 a1 c1 => ?_)
  dsimp only
  refine pick_bind hb (by omega) (by omega) (fun v2 a2 c2 => ?_)
  dsimp only
  refine pick_bind hb (by omega) (by omega) (fun v3 a3 c3 => ?_)
  dsimp only
  refine pick_bind hb (by omega) (by omega) (fun v4 a4 c4 => ?_)
  dsimp only
  refine pick_bind hb (by omega) (by omega) (fun v5 a5 c5 => ?_)
  dsimp only
  refine Ret.bind (fun o => o.1 = b ∧ p ≤ o.2.1 ∧ o.2.1 ≤ p + 9) ?_ (fun o ho => ?_)
  · repeat' (first
      | refine pick_bind hb (by omega) (by omega) (fun v a c => ?_)
      | refine Ret.dec (fun e => ?_) (fun e => ?_)
      | refine Ret.pure ?_
      | dsimp only)
    all_goals exact ⟨rfl, by omega, by omega⟩
  obtain ⟨b', p1, o⟩ := o
  simp only at ho
  obtain ⟨rfl, h1, h2⟩ := ho
  dsimp only
  refine pick_bind hb (by omega) (by omega) (fun v6 a6 c6 => ?_)
  dsimp only
  refine Ret.bind (fun o => o.1 = b' ∧ p ≤ o.2.1 ∧ o.2.1 ≤ p + 15) ?_ (fun o ho => ?_)
  · repeat' (first
      | refine pick_bind hb (by omega) (by omega) (fun v a c => ?_)
      | refine Ret.bind _ (l20Shape_ok hb (by omega) (by omega)) (fun r hr => ?_)
      | refine Ret.guard (by first | omega | (simp; omega)) ?_
      | refine Ret.dec (fun e => ?_) (fun e => ?_)
      | refine Ret.beq (fun e => ?_) (fun e => ?_)
      | refine Ret.pure ?_
      | dsimp only)
    · exact ⟨hr.1, by have := hr.2; omega, by have := hr.2; omega⟩
    all_goals exact ⟨rfl, by omega, by omega⟩
  obtain ⟨b'', p2, o⟩ := o
  simp only at ho
  obtain ⟨rfl, h3, h4⟩ := ho
  dsimp only
  refine Ret.bind (fun o => o.1 = b'' ∧ p ≤ o.2.1 ∧ o.2.1 ≤ p + 16) ?_ (fun o ho => ?_)
  · repeat' (first
      | refine pick_bind hb (by omega) (by omega) (fun v a c => ?_)
      | refine Ret.beq (fun e => ?_) (fun e => ?_)
      | refine Ret.pure ?_
      | dsimp only)
    all_goals exact ⟨rfl, by omega, by omega⟩
  obtain ⟨b3, p3, o⟩ := o
  simp only at ho
  obtain ⟨rfl, h5, h6⟩ := ho
  dsimp only
  repeat' (first
      | refine pick_bind hb (by omega) (by omega) (fun v a c => ?_)
      | refine Ret.guard (by first | omega | (simp; omega)) ?_
      | refine Ret.beq (fun e => ?_) (fun e => ?_)
      | refine Ret.pure ?_
      | dsimp only)
  all_goals exact ⟨rfl, by omega, by omega⟩
end

def okR (m : Nat) (l : List Int) : Bool := l.all fun x => decide (-1 ≤ x) && decide (x < (m : Int))

def okN (m : Nat) (x : Nd) : Bool := decide (x.1.length ≤ 4) && (decide (x.2.1.length ≤ 4) && okR m x.1)

def okG (g : Gr) : Bool :=
  decide (g.1.length ≤ 200) && (decide (1 ≤ g.2.1.length) && (decide (g.2.1.length ≤ 3) && (g.1.all (okN g.1.length) && (g.2.1.all (fun r => decide (r.length ≤ 8) && okR g.1.length r) &&
    (decide (g.2.2.1.length ≤ 8) && (g.2.2.1.all (fun x => decide (0 ≤ x)) && okR g.1.length g.2.2.1))))))

theorem okG_iff {g : Gr} : okG g = true ↔ g.1.length ≤ 200 ∧ 1 ≤ g.2.1.length ∧ g.2.1.length ≤ 3 ∧ (∀ x ∈ g.1, x.1.length ≤ 4 ∧ x.2.1.length ≤ 4 ∧ okR g.1.length x.1 = true) ∧
    (∀ r ∈ g.2.1, r.length ≤ 8 ∧ okR g.1.length r = true) ∧ g.2.2.1.length ≤ 8 ∧ (∀ x ∈ g.2.2.1, 0 ≤ x) ∧ okR g.1.length g.2.2.1 = true := by
  simp only [okG, okN, Bool.and_eq_true, decide_eq_true_eq, List.all_eq_true]

theorem okR_iff {m : Nat} {l : List Int} : okR m l = true ↔ ∀ x ∈ l, -1 ≤ x ∧ x < (m : Int) := by
  simp only [okR, List.all_eq_true, Bool.and_eq_true, decide_eq_true_eq]


abbrev Mst := List Int × List Bool

/-- A reference is met. -/
def meet (st : Mst) (r : Int) : Mst := if 0 ≤ r ∧ st.2.getD r.toNat false = false then (st.1 ++ [r], st.2.set r.toNat true) else st

structure Met (m : Nat) (st : Mst) : Prop where
  len : st.2.length = m
  cnt : st.1.length + st.2.count false = m
  rng : ∀ r ∈ st.1, 0 ≤ r ∧ r < (m : Int)
  had : ∀ r : Int, 0 ≤ r → (st.2.getD r.toNat false = true ↔ r ∈ st.1)
  nd : st.1.Nodup

theorem count_set_true : ∀ {l : List Bool} {i : Nat}, i < l.length → l.getD i false = false → (l.set i true).count false + 1 = l.count false
  | [], _, h, _ => by simp at h
  | b :: l, 0, _, h => by simp at h; subst h; simp
  | b :: l, i + 1, h, h2 => by
    have ih := count_set_true (l := l) (i := i) (by simpa using h) (by simpa using h2)
    simp only [List.set_cons_succ, List.count_cons]
    omega

theorem Met.le {m : Nat} {st : Mst} (h : Met m st) : st.1.length ≤ m := by have := h.cnt; omega

theorem Met.meet {m : Nat} {st : Mst} (h : Met m st) {r : Int} (hr : r < (m : Int)) : Met m (meet st r) := by
  unfold Fl.meet
  split
  · rename_i hc
    have hl : r.toNat < st.2.length := by rw [h.len]; omega
    have hn : ¬ r ∈ st.1 := fun hm => by
      have := (h.had r hc.1).2 hm
      rw [hc.2] at this
      cases this
    refine ⟨by simp [h.len], ?_, ?_, ?_, ?_⟩
    · have := count_set_true hl hc.2
      have := h.cnt
      simp only [List.length_append, List.length_singleton]
      omega
    · intro x hx
      simp only [List.mem_append, List.mem_singleton] at hx
      rcases hx with hx | rfl
      · exact h.rng x hx
      · exact ⟨hc.1, hr⟩
    · intro x hx
      simp only [List.mem_append, List.mem_singleton]
      rw [← h.had x hx]
      simp only [List.getD_eq_getElem?_getD, List.getElem?_set]
      by_cases e : r.toNat = x.toNat
      · have : x = r := by omega
        subst this
        simp [hl]
      · have : ¬ x = r := fun e' => e (by rw [e'])
        simp [e, this]
    · rw [List.nodup_append]
      refine ⟨h.nd, by simp, ?_⟩
      intro a ha b hb e
      simp at hb
      subst hb
      subst e
      exact hn ha
  · exact h

theorem Met.meets {m : Nat} {l : List Int} : ∀ {st : Mst}, Met m st → (∀ r ∈ l, r < (m : Int)) → Met m (l.foldl Fl.meet st) := by
  induction l with
  | nil => intro st h _; exact h
  | cons r l ih => intro st h hl; exact ih (h.meet (hl r (by simp))) fun x hx => hl x (by simp [hx])

/-- Met is only more and more. -/
theorem meet_pre (st : Mst) (r : Int) : st.1 <+: (meet st r).1 := by
  unfold meet
  split
  · exact List.prefix_append _ _
  · exact List.prefix_refl _

theorem meets_pre {l : List Int} : ∀ {st : Mst}, st.1 <+: (l.foldl meet st).1 := by
  induction l with
  | nil => intro st; exact List.prefix_refl _
  | cons r l ih => intro st; exact (meet_pre st r).trans ih

theorem meet_mem {m : Nat} {st : Mst} (h : Met m st) {r : Int} (h0 : 0 ≤ r) : r ∈ (meet st r).1 := by
  unfold meet
  split
  · simp
  · rename_i hc
    exact (h.had r h0).1 (by
      cases hb : st.2.getD r.toNat false with
      | true => rfl
      | false => exact absurd ⟨h0, hb⟩ hc)

theorem meets_mem {m : Nat} {l : List Int} : ∀ {st : Mst}, Met m st → (∀ r ∈ l, r < (m : Int)) → ∀ r ∈ l, 0 ≤ r → r ∈ (l.foldl meet st).1 := by
  induction l with
  | nil => intro st _ _ r hr; simp at hr
  | cons x l ih =>
    intro st h hl r hr h0
    have h1 := h.meet (hl x (by simp))
    simp only [List.mem_cons] at hr
    rcases hr with rfl | hr
    · exact (meets_pre (l := l)).subset (meet_mem h h0)
    · exact ih h1 (fun y hy => hl y (by simp [hy])) r hr h0

theorem meet_sub {st : Mst} {r x : Int} (hx : x ∈ (meet st r).1) : x ∈ st.1 ∨ (x = r ∧ 0 ≤ r) := by
  unfold meet at hx
  split at hx
  · rename_i hc
    simp only [List.mem_append, List.mem_singleton] at hx
    rcases hx with hx | hx
    · exact .inl hx
    · exact .inr ⟨hx, hc.1⟩
  · exact .inl hx

theorem meets_sub {l : List Int} : ∀ {st : Mst} {x : Int}, x ∈ (l.foldl meet st).1 → x ∈ st.1 ∨ (x ∈ l ∧ 0 ≤ x) := by
  induction l with
  | nil => intro st x hx; exact .inl hx
  | cons r l ih =>
    intro st x hx
    rcases ih hx with h | ⟨h, h0⟩
    · rcases meet_sub h with h | ⟨rfl, h0⟩
      · exact .inl h
      · exact .inr ⟨by simp, h0⟩
    · exact .inr ⟨by simp [h], h0⟩

/-- What a node leads to. -/
def refsOf (g : Gr) (r : Int) : List Int := (g.1.getD r.toNat ([], [], ())).1

/-- The met are gone through. -/
def walk (R : Int → List Int) : Nat → Nat → Mst → Mst
  | 0, _, st => st
  | n + 1, i, st => if i < st.1.length then walk R n (i + 1) ((R (st.1.getD i 0)).foldl meet st) else st

def met0 (m : Nat) : Mst := ([], List.replicate m false)

theorem met0_ok (m : Nat) : Met m (met0 m) := by
  refine ⟨by simp [met0], by simp [met0], by simp [met0], ?_, by simp [met0]⟩
  intro r _
  simp only [met0, List.getD_eq_getElem?_getD, List.getElem?_replicate]
  split <;> simp

theorem walk_met {m : Nat} {R : Int → List Int} (hR : ∀ r, 0 ≤ r → r < (m : Int) → ∀ x ∈ R r, x < (m : Int)) : ∀ (n i : Nat) {st : Mst}, Met m st → Met m (walk R n i st)
  | 0, _, _, h => h
  | n + 1, i, st, h => by
    unfold walk
    split
    · rename_i hi
      refine walk_met hR n (i + 1) (h.meets ?_)
      rw [getD_lt hi]
      exact hR _ (h.rng _ (List.getElem_mem hi)).1 (h.rng _ (List.getElem_mem hi)).2
    · exact h

theorem walk_pre {R : Int → List Int} : ∀ (n i : Nat) {st : Mst}, st.1 <+: (walk R n i st).1
  | 0, _, st => List.prefix_refl _
  | n + 1, i, st => by
    unfold walk
    split
    · exact (meets_pre (l := R (st.1.getD i 0))).trans (walk_pre n (i + 1))
    · exact List.prefix_refl _

/-- What is behind the places that were gone through, was met. -/
theorem walk_closed {m : Nat} {R : Int → List Int} (hR : ∀ r, 0 ≤ r → r < (m : Int) → ∀ x ∈ R r, x < (m : Int)) : ∀ (n i : Nat) {st : Mst}, Met m st → m - i < n →
    (∀ j (hj : j < st.1.length), j < i → ∀ x ∈ R st.1[j], 0 ≤ x → x ∈ st.1) → ∀ r ∈ (walk R n i st).1, ∀ x ∈ R r, 0 ≤ x → x ∈ (walk R n i st).1
  | 0, _, _, _, h, _ => absurd h (Nat.not_lt_zero _)
  | n + 1, i, st, h, hn, hc => by
    unfold walk
    split
    · rename_i hi
      have hb : ∀ x ∈ R (st.1.getD i 0), x < (m : Int) := by
        rw [getD_lt hi]
        exact hR _ (h.rng _ (List.getElem_mem hi)).1 (h.rng _ (List.getElem_mem hi)).2
      have hle := h.le
      refine walk_closed hR n (i + 1) (h.meets hb) (by omega) ?_
      intro j hj hji x hx h0
      have hp := meets_pre (l := R (st.1.getD i 0)) (st := st)
      rcases Nat.lt_or_ge j i with hlt | hge
      · have hj' : j < st.1.length := by omega
        have e : ((R (st.1.getD i 0)).foldl meet st).1[j] = st.1[j] := (hp.getElem hj').symm
        rw [e] at hx
        exact hp.subset (hc j hj' hlt x hx h0)
      · have : j = i := by omega
        subst this
        have e : ((R (st.1.getD j 0)).foldl meet st).1[j] = st.1[j] := (hp.getElem hi).symm
        rw [e] at hx
        exact meets_mem h hb x (by rw [getD_lt hi]; exact hx) h0
    · rename_i hi
      intro r hr x hx h0
      obtain ⟨j, hj, rfl⟩ := List.getElem_of_mem hr
      exact hc j hj (by omega) x hx h0

/-- Whatever holds of the first ones and is handed on, holds of all. -/
theorem walk_ind {R : Int → List Int} {P : Int → Prop} (hP : ∀ r, P r → ∀ x ∈ R r, 0 ≤ x → P x) : ∀ (n i : Nat) {st : Mst}, (∀ r ∈ st.1, P r) → ∀ r ∈ (walk R n i st).1, P r
  | 0, _, _, h => h
  | n + 1, i, st, h => by
    unfold walk
    split
    · rename_i hi
      refine walk_ind hP n (i + 1) fun r hr => ?_
      rcases meets_sub hr with h1 | ⟨h1, h0⟩
      · exact h r h1
      · rw [getD_lt hi] at h1
        exact hP _ (h _ (List.getElem_mem hi)) r h1 h0
    · exact h

def begin0 (g : Gr) : Mst := g.2.2.1.foldl meet (g.2.1.foldl (fun s l => l.foldl meet s) (met0 g.1.length))

/-- The nodes that are reached, as they are met. -/
def order (g : Gr) : List Int := (walk (refsOf g) (g.1.length + 1) 0 (begin0 g)).1

theorem refs_rng {g : Gr} (h : okG g = true) (r : Int) : ∀ x ∈ refsOf g r, x < (g.1.length : Int) := by
  obtain ⟨_, _, _, h4, _⟩ := okG_iff.1 h
  intro x hx
  unfold refsOf at hx
  by_cases hr : r.toNat < g.1.length
  · rw [getD_lt hr] at hx
    exact (okR_iff.1 (h4 _ (List.getElem_mem hr)).2.2 x hx).2
  · rw [List.getD_eq_getElem?_getD, List.getElem?_eq_none (by omega)] at hx
    simp at hx

theorem roots_met {m : Nat} {ls : List (List Int)} : ∀ {st : Mst}, Met m st → (∀ l ∈ ls, ∀ x ∈ l, x < (m : Int)) → Met m (ls.foldl (fun s l => l.foldl meet s) st) := by
  induction ls with
  | nil => intro st h _; exact h
  | cons l ls ih => intro st h hl; exact ih (h.meets (hl l (by simp))) fun x hx => hl x (by simp [hx])

theorem roots_pre {ls : List (List Int)} : ∀ {st : Mst}, st.1 <+: (ls.foldl (fun s l => l.foldl meet s) st).1 := by
  induction ls with
  | nil => intro st; exact List.prefix_refl _
  | cons r l ih => intro st; exact meets_pre.trans ih

theorem roots_mem {m : Nat} {ls : List (List Int)} : ∀ {st : Mst}, Met m st → (∀ l ∈ ls, ∀ x ∈ l, x < (m : Int)) → ∀ l ∈ ls, ∀ r ∈ l, 0 ≤ r → r ∈ (ls.foldl (fun s l => l.foldl meet s) st).1 := by
  induction ls with
  | nil => intro st _ _ r hr; simp at hr
  | cons x ls ih =>
    intro st h hl l hm r hr h0
    have h1 := h.meets (hl x (by simp))
    simp only [List.mem_cons] at hm
    rcases hm with rfl | hm
    · exact (roots_pre (ls := ls)).subset (meets_mem h (hl l (by simp)) r hr h0)
    · exact ih h1 (fun y hy => hl y (by simp [hy])) l hm r hr h0

theorem roots_sub {ls : List (List Int)} : ∀ {st : Mst} {x : Int}, x ∈ (ls.foldl (fun s l => l.foldl meet s) st).1 → x ∈ st.1 ∨ ∃ l ∈ ls, x ∈ l ∧ 0 ≤ x := by
  induction ls with
  | nil => intro st x hx; exact .inl hx
  | cons r l ih =>
    intro st x hx
    rcases ih hx with h | ⟨l', h, h0⟩
    · rcases meets_sub h with h | h
      · exact .inl h
      · exact .inr ⟨r, by simp, h⟩
    · exact .inr ⟨l', by simp [h], h0⟩

theorem rootsrng {g : Gr} (h : okG g = true) : ∀ l ∈ g.2.1, ∀ x ∈ l, x < (g.1.length : Int) := fun l hl x hx => by
  obtain ⟨_, _, _, _, h5, _⟩ := okG_iff.1 h
  exact (okR_iff.1 (h5 l hl).2 x hx).2

theorem pinsrng {g : Gr} (h : okG g = true) : ∀ x ∈ g.2.2.1, x < (g.1.length : Int) := fun x hx => by
  obtain ⟨_, _, _, _, _, _, _, h8⟩ := okG_iff.1 h
  exact (okR_iff.1 h8 x hx).2

theorem begin0_ok {g : Gr} (h : okG g = true) : Met g.1.length (begin0 g) :=
  (roots_met (met0_ok _) (rootsrng h)).meets (pinsrng h)

theorem order_met {g : Gr} (h : okG g = true) : Met g.1.length (walk (refsOf g) (g.1.length + 1) 0 (begin0 g)) :=
  walk_met (fun r _ _ => refs_rng h r) _ _ (begin0_ok h)

theorem order_rng {g : Gr} (h : okG g = true) : ∀ r ∈ order g, 0 ≤ r ∧ r < (g.1.length : Int) := (order_met h).rng

theorem order_nodup {g : Gr} (h : okG g = true) : (order g).Nodup := (order_met h).nd

theorem order_le {g : Gr} (h : okG g = true) : (order g).length ≤ g.1.length := (order_met h).le

theorem order_closed {g : Gr} (h : okG g = true) : ∀ r ∈ order g, ∀ x ∈ refsOf g r, 0 ≤ x → x ∈ order g :=
  walk_closed (fun r _ _ => refs_rng h r) _ _ (begin0_ok h) (by omega) fun j _ hj => absurd hj (Nat.not_lt_zero _)

theorem order_roots {g : Gr} (h : okG g = true) : ∀ l ∈ g.2.1, ∀ x ∈ l, 0 ≤ x → x ∈ order g := fun l hl x hx h0 =>
  (walk_pre _ _).subset (meets_pre.subset (roots_mem (met0_ok _) (rootsrng h) l hl x hx h0))

theorem order_pins {g : Gr} (h : okG g = true) : ∀ x ∈ g.2.2.1, x ∈ order g := fun x hx => by
  obtain ⟨_, _, _, _, _, _, h7, _⟩ := okG_iff.1 h
  exact (walk_pre _ _).subset (meets_mem (roots_met (met0_ok _) (rootsrng h)) (pinsrng h) x hx (h7 x hx))

/-- The reached are the least that holds what is begun with and is closed. -/
theorem order_ind {g : Gr} {P : Int → Prop} (hr : ∀ l ∈ g.2.1, ∀ x ∈ l, 0 ≤ x → P x) (hp : ∀ x ∈ g.2.2.1, 0 ≤ x → P x) (hP : ∀ r, P r → ∀ x ∈ refsOf g r, 0 ≤ x → P x) : ∀ r ∈ order g, P r :=
  walk_ind hP _ _ fun r h => by
    rcases meets_sub h with h | ⟨h, h0⟩
    · rcases roots_sub h with h | ⟨l, hl, h, h0⟩
      · simp [met0] at h
      · exact hr l hl r h h0
    · exact hp r h h0


abbrev Opx := Int × Int × Int × Int × Int × Int × (Int × Int × Unit) × Unit
def shOk (s : Int × Int × Unit) : Bool := decide (0 ≤ s.1) && (decide (s.1 ≤ 4) && (decide (0 ≤ s.2.1) && decide (s.2.1 ≤ 4)))
def opOk (o : Opx) : Bool := decide (1 ≤ o.1) && (decide (o.1 ≤ 11) && (!(decide (o.1 = 1)) || shOk o.2.2.2.2.2.2.1))
/-- A place of a list. -/
def inB (i : Int) (n : Nat) : Prop := 0 ≤ i ∧ i < (n : Int)
instance (i : Int) (n : Nat) : Decidable (inB i n) := by unfold inB; infer_instance
/-- The code told ahead of an operation. -/
def beginC (o : Opx) (rs : List Int) (nil : Int) : Int :=
  if (o.1 = 8 ∧ rs.length = 0) ∨ (o.1 ≠ 1 ∧ o.1 ≠ 8 ∧ ¬ inB o.2.1 rs.length) ∨ ((o.1 = 3 ∨ o.1 = 6 ∨ o.1 = 7) ∧ ¬ inB o.2.2.1 rs.length) ∨ (o.1 = 7 ∧ ¬ inB o.2.2.2.1 rs.length) then 2
  else if o.1 ≠ 1 ∧ o.1 ≠ 6 ∧ o.1 ≠ 8 ∧ o.1 ≠ 9 ∧ rs.getD o.2.1.toNat 0 = nil then 3
  else if (o.1 = 1 ∨ o.1 = 2 ∨ o.1 = 9) ∧ rs.length = 8 then 5
  else 0
/-- The last place of a number. -/
def lastFrom : List Int → Int → Int → Int → Int
  | [], _, _, at' => at'
  | x :: l, a, i, at' => lastFrom l a (i + 1) (if x = a then i else at')
def lastP (l : List Int) (a : Int) : Int := lastFrom l a 0 (-1)

abbrev nd0 : Nd := ([], [], ())
/-- What an operation does when no code was told ahead. -/
def actG (g : Gr) (t : Int) (o : Opx) (rs : List Int) : Int × Int × Gr :=
  let ra := rs.getD o.2.1.toNat 0
  let rb := rs.getD o.2.2.1.toNat 0
  let rc := rs.getD o.2.2.2.1.toNat 0
  let n := g.1.getD ra.toNat nd0
  let f := o.2.2.2.2.1
  if o.1 = 1 then if g.1.length = 200 then (0, 6, g) else (0, 0, g.1 ++ [(List.replicate o.2.2.2.2.2.2.1.1.toNat (-1), List.replicate o.2.2.2.2.2.2.1.2.1.toNat 0, ())], g.2.1.set t.toNat (rs ++ [(g.1.length : Int)]), g.2.2.1, ())
  else if o.1 = 2 then if inB f n.1.length then (0, 0, g.1, g.2.1.set t.toNat (rs ++ [n.1.getD f.toNat 0]), g.2.2.1, ()) else (0, 4, g)
  else if o.1 = 3 then if inB f n.1.length then (0, 0, g.1.set ra.toNat (n.1.set f.toNat rb, n.2), g.2.1, g.2.2.1, ()) else (0, 4, g)
  else if o.1 = 4 then if inB f n.2.1.length then (0, 0, g.1.set ra.toNat (n.1, n.2.1.set f.toNat o.2.2.2.2.2.1, ()), g.2.1, g.2.2.1, ()) else (0, 4, g)
  else if o.1 = 5 then if inB f n.2.1.length then (n.2.1.getD f.toNat 0, 0, g) else (0, 4, g)
  else if o.1 = 6 then (if ra = rb then 1 else 0, 0, g)
  else if o.1 = 7 then if inB f n.1.length then (if n.1.getD f.toNat 0 = rb then (1, 0, g.1.set ra.toNat (n.1.set f.toNat rc, n.2), g.2.1, g.2.2.1, ()) else (0, 0, g)) else (0, 4, g)
  else if o.1 = 8 then (0, 0, g.1, g.2.1.set t.toNat (rs.take (rs.length - 1)), g.2.2.1, ())
  else if o.1 = 9 then (0, 0, g.1, g.2.1.set t.toNat (rs ++ [ra]), g.2.2.1, ())
  else if o.1 = 10 then if g.2.2.1.length = 8 then (0, 7, g) else (0, 0, g.1, g.2.1, g.2.2.1 ++ [ra], ())
  else if lastP g.2.2.1 ra < 0 then (0, 7, g) else (0, 0, g.1, g.2.1, g.2.2.1.take (lastP g.2.2.1 ra).toNat ++ g.2.2.1.drop ((lastP g.2.2.1 ra).toNat + 1), ())

/-- An operation on a graph: the answer, the code, the graph behind it. -/
def doG (g : Gr) (t : Int) (o : Opx) : Int × Int × Gr :=
  if okG g = true ∧ inB t g.2.1.length ∧ opOk o = true then
    (if beginC o (g.2.1.getD t.toNat []) (-1) = 0 then actG g t o (g.2.1.getD t.toNat []) else (0, beginC o (g.2.1.getD t.toNat []) (-1), g))
  else (0, 1, [], [], [], ())

theorem lastFrom_rng : ∀ (l : List Int) (a i at' : Int), -1 ≤ at' → at' < i → -1 ≤ lastFrom l a i at' ∧ lastFrom l a i at' < i + l.length
  | [], _, _, _, h, h' => by simp only [lastFrom, List.length_nil]; omega
  | x :: l, a, i, at', h, h' => by
    simp only [lastFrom]
    have := lastFrom_rng l a (i + 1) (if x = a then i else at') (by split <;> omega) (by split <;> omega)
    simp only [List.length_cons]
    omega

theorem opOk_kind {o : Opx} (h : opOk o = true) : 1 ≤ o.1 ∧ o.1 ≤ 11 := by
  simp only [opOk, Bool.and_eq_true, decide_eq_true_eq] at h
  exact ⟨h.1, h.2.1⟩

theorem kind_cases {k : Int} (h1 : 1 ≤ k) (h2 : k ≤ 11) : k = 1 ∨ k = 2 ∨ k = 3 ∨ k = 4 ∨ k = 5 ∨ k = 6 ∨ k = 7 ∨ k = 8 ∨ k = 9 ∨ k = 10 ∨ k = 11 := by omega

section
variable {N : Nat} (hN : lim < N)
include hN

theorem sl5Ints_ok {xs : List Int} (hl : xs.length ≤ lim) : Fsl5Ints N (xs, ()) = some (xs, ()) := by
  simp [Fsl5Ints, hl]

end

section
variable {N : Nat}

theorem sShapeOk_ok (s : Int × Int × Unit) : FsShapeOk N (s, ()) = some (shOk s, ()) := by
  simp only [FsShapeOk, shOk, ge_iff_le]
  by_cases h1 : 0 ≤ s.1 <;> by_cases h2 : s.1 ≤ 4 <;> by_cases h3 : 0 ≤ s.2.1 <;> simp [h1, h2, h3]

theorem sOpOk_ok (o : Opx) : FsOpOk N (o, ()) = some (opOk o, ()) := by
  simp only [FsOpOk, opOk, sShapeOk_ok, ge_iff_le]
  by_cases h1 : 1 ≤ o.1 <;> by_cases h2 : o.1 ≤ 11 <;> by_cases h3 : o.1 = 1 <;> simp [h1, h2, h3]

theorem sl5Fields_ok (k : Int) : Fsl5Fields N (k, ()) = some (decide (k = 2 ∨ k = 3 ∨ k = 4 ∨ k = 5 ∨ k = 7), ()) := by
  simp only [Fsl5Fields]
  by_cases h1 : k = 2
  · simp [h1]
  by_cases h2 : k = 3
  · simp [h2]
  by_cases h3 : k = 4
  · simp [h3]
  by_cases h4 : k = 5
  · simp [h4]
  by_cases h5 : k = 7 <;> simp [h1, h2, h3, h4, h5]

set_option maxHeartbeats 1000000 in
theorem sl5Begin_ok {o : Opx} {rs : List Int} {nil : Int} (h1 : 1 ≤ o.1) (h2 : o.1 ≤ 11) : Fsl5Begin N (o, rs, nil, ()) = some (beginC o rs nil, ()) := by
  obtain ⟨k, A, B, C, F, V, S, ⟨⟩⟩ := o
  simp only at h1 h2
  unfold Fsl5Begin
  dsimp only
  refine obind_eq (r := (rs, nil, (k, A, B, C, F, V, S, ()), (rs.length : Int), decide (inB A rs.length), ())) (by by_cases a0 : 0 ≤ A <;> simp [a0, inB]) ?_
  dsimp only
  refine obind_eq (r := (rs, nil, (k, A, B, C, F, V, S, ()), (rs.length : Int), decide (inB A rs.length), decide (inB B rs.length), ())) (by by_cases a0 : 0 ≤ B <;> simp [a0, inB]) ?_
  dsimp only
  refine obind_eq (r := (rs, nil, (k, A, B, C, F, V, S, ()), (rs.length : Int), decide (inB A rs.length), decide (inB B rs.length), decide (inB C rs.length), ())) (by by_cases a0 : 0 ≤ C <;> simp [a0, inB]) ?_
  dsimp only
  have l8 : ((rs.length : Int) = 8) ↔ rs.length = 8 := by omega
  have l0 : (0 < rs.length) ↔ ¬ rs.length = 0 := by omega
  have key : ∀ {i : Int}, inB i rs.length → 0 ≤ i ∧ i.toNat < rs.length := fun h => by unfold inB at h; omega
  have pe := Classical.propComplete (rs.length = 8)
  have pe0 := Classical.propComplete (rs.length = 0)
  rcases kind_cases h1 h2 with h | h | h | h | h | h | h | h | h | h | h <;> subst h
  · rcases pe with e | e <;> simp [beginC, sl5Fields_ok, l8, e]
  · by_cases a : inB A rs.length
    · obtain ⟨a1, a2⟩ := key a
      rcases pe with e | e <;> by_cases n : rs[A.toNat] = nil <;> simp [beginC, sl5Fields_ok, l8, e, a, a1, a2, n]
    · simp [beginC, a]
  · by_cases a : inB A rs.length
    · obtain ⟨a1, a2⟩ := key a
      by_cases b : inB B rs.length
      · by_cases n : rs[A.toNat] = nil <;> simp [beginC, sl5Fields_ok, a, b, a1, a2, n]
      · simp [beginC, a, b]
    · simp [beginC, a]
  · by_cases a : inB A rs.length
    · obtain ⟨a1, a2⟩ := key a
      by_cases n : rs[A.toNat] = nil <;> simp [beginC, sl5Fields_ok, a, a1, a2, n]
    · simp [beginC, a]
  · by_cases a : inB A rs.length
    · obtain ⟨a1, a2⟩ := key a
      by_cases n : rs[A.toNat] = nil <;> simp [beginC, sl5Fields_ok, a, a1, a2, n]
    · simp [beginC, a]
  · by_cases a : inB A rs.length
    · obtain ⟨a1, a2⟩ := key a
      by_cases b : inB B rs.length
      · by_cases n : rs[A.toNat] = nil <;> simp [beginC, sl5Fields_ok, a, b, a1, a2, n]
      · simp [beginC, a, b]
    · simp [beginC, a]
  · by_cases a : inB A rs.length
    · obtain ⟨a1, a2⟩ := key a
      by_cases b : inB B rs.length
      · by_cases c : inB C rs.length
        · by_cases n : rs[A.toNat] = nil <;> simp [beginC, sl5Fields_ok, a, b, c, a1, a2, n]
        · simp [beginC, a, b, c]
      · simp [beginC, a, b]
    · simp [beginC, a]
  · rcases pe0 with e0 | e0 <;> simp [beginC, sl5Fields_ok, e0, l0]
  · by_cases a : inB A rs.length
    · obtain ⟨a1, a2⟩ := key a
      rcases pe with e | e <;> by_cases n : rs[A.toNat] = nil <;> simp [beginC, sl5Fields_ok, l8, e, a, a1, a2, n]
    · simp [beginC, a]
  · by_cases a : inB A rs.length
    · obtain ⟨a1, a2⟩ := key a
      by_cases n : rs[A.toNat] = nil <;> simp [beginC, sl5Fields_ok, a, a1, a2, n]
    · simp [beginC, a]
  · by_cases a : inB A rs.length
    · obtain ⟨a1, a2⟩ := key a
      by_cases n : rs[A.toNat] = nil <;> simp [beginC, sl5Fields_ok, a, a1, a2, n]
    · simp [beginC, a]
end

section
variable {N : Nat}

theorem sl5Field_ok {o : Opx} {r m : Nat} : Fsl5Field N (o, (r : Int), (m : Int), ()) = some (decide (inB o.2.2.2.2.1 (if o.1 = 4 ∨ o.1 = 5 then m else r)), ()) := by
  obtain ⟨k, A, B, C, F, V, S, ⟨⟩⟩ := o
  simp only [Fsl5Field, inB]
  by_cases h1 : k = 4
  · by_cases h : 0 ≤ F <;> simp [h1, h]
  by_cases h2 : k = 5
  · by_cases h : 0 ≤ F <;> simp [h2, h]
  by_cases h : 0 ≤ F <;> simp [h1, h2, h]

theorem sl5One_ok (b : Bool) : Fsl5One N (b, ()) = some (if b = true then 1 else 0, ()) := by
  cases b <;> simp [Fsl5One]

variable (hN : lim < N)
include hN

theorem sl5Pins_loop {xs : List Int} {a : Int} (hl : xs.length ≤ lim) : lsl5Pins_0 N N (xs, a, -1, 0, ()) = some (xs, lastP xs a, ()) := by
  have key : ∀ n i at', i ≤ xs.length → xs.length - i < n → lsl5Pins_0 N n (xs, a, at', (i : Int), ()) = some (xs, lastFrom (xs.drop i) a i at', ()) := by
    intro n
    induction n with
    | zero => intro i at' _ h; exact absurd h (Nat.not_lt_zero _)
    | succ n ih =>
      intro i at' hi hn
      by_cases h : i < xs.length
      · have hw : w64 ((i : Int) + 1) = ((i + 1 : Nat) : Int) := w64_succ (by have : lim = 2147483648 := rfl; omega)
        rw [drop_at h]
        by_cases e : xs[i] = a
        · have := ih (i + 1) (i : Int) (by omega) (by omega)
          simp only [lsl5Pins_0, hw]
          simp [h, e, lastFrom]
          simpa using this
        · have := ih (i + 1) at' (by omega) (by omega)
          simp only [lsl5Pins_0, hw]
          simp [h, e, lastFrom]
          simpa using this
      · have : i = xs.length := by omega
        subst this
        simp [lsl5Pins_0, lastFrom]
  have := key N 0 (-1) (by omega) (by omega)
  simpa [lastP] using this

theorem sl5Pins_pin {xs : List Int} {a : Int} (hl : xs.length + 1 ≤ lim) : Fsl5Pins N (xs, 10, a, ()) = some (if xs.length = 8 then (false, [], ()) else (true, xs ++ [a], ())) := by
  have l8 : ((xs.length : Int) = 8) ↔ xs.length = 8 := by omega
  rcases Classical.propComplete (xs.length = 8) with e | e <;> simp [Fsl5Pins, l8, e, sl5Ints_ok hN (show xs.length ≤ lim by omega), hl]

theorem sl5Pins_unpin {xs : List Int} {a : Int} (hl : xs.length ≤ lim) : Fsl5Pins N (xs, 11, a, ()) = some (if lastP xs a < 0 then (false, [], ()) else (true, xs.take (lastP xs a).toNat ++ xs.drop ((lastP xs a).toNat + 1), ())) := by
  have hr := lastFrom_rng xs a 0 (-1) (by omega) (by omega)
  have e0 : lastFrom xs a 0 (-1) = lastP xs a := rfl
  rw [e0] at hr
  have hw : w64 (lastP xs a + 1) = lastP xs a + 1 := w64_id (by omega) (by have : lim = 2147483648 := rfl; omega)
  unfold Fsl5Pins
  simp only [show ((11 : Int) == 10) = false from rfl, cond_false, sl5Pins_loop hN hl, Option.bind_some]
  by_cases h : lastP xs a < 0
  · simp [h]
  · have h0 : 0 ≤ lastP xs a := by omega
    have h1 : lastP xs a ≤ (xs.length : Int) := by omega
    have h2 : 0 ≤ lastP xs a + 1 := by omega
    have h3 : lastP xs a + 1 ≤ (xs.length : Int) := by omega
    have h4 : (lastP xs a + 1).toNat = (lastP xs a).toNat + 1 := by omega
    have h5 : ((xs.drop 0).take (lastP xs a).toNat).length ≤ lim := by simp; omega
    have h6 : (xs.drop ((lastP xs a).toNat + 1)).take (xs.length - ((lastP xs a).toNat + 1)) = xs.drop ((lastP xs a).toNat + 1) := by
      apply List.take_of_length_le; simp
    have h7 : (xs.take (lastP xs a).toNat).length + (xs.drop ((lastP xs a).toNat + 1)).length ≤ lim := by simp; omega
    have h8 : (0 : Int).toNat = 0 := rfl
    simp only [h, decide_false, cond_false, h0, h1, h2, h3, decide_true, cond_true, Int.le_refl, Int.natCast_nonneg, hw, h4, h8, Nat.sub_zero, Int.toNat_natCast, h6, if_false, List.drop_zero]
    rw [sl5Ints_ok hN (by simpa using h5)]
    simp only [Option.bind_some, h7, decide_true, cond_true]
end

section
variable {N : Nat} (hN : lim < N)
include hN

theorem sl5Copy_ok {g : Gr} (hs : smG g) : Fsl5Copy N (g, ()) = some g := by
  obtain ⟨a1, a2, a3, a4, a5⟩ := hs
  have l1 := sm_lim a1
  have l3 := sm_lim a3
  have e1 := fun Q => (fold_loop (xs := g.1) (n := N) (fun s x => s ++ [x]) (fun i s => s.length = i)
    (L := fun n i s => lsl5Copy_0 N n (g, (i : Int), s, ([] : List (List Int)), Q, ())) (fin := fun s => (g, s, ([] : List (List Int)), Q, ())) l1
    (fun n i s h hw hI => by
      subst hI
      have hlim : s.length + 1 ≤ lim := by omega
      have hx := a2 _ (List.getElem_mem h)
      simp [lsl5Copy_0, h, hw, sl5Ints_ok hN (sm_lim hx.1), sl5Ints_ok hN (sm_lim hx.2), hlim])
    (fun n s hI => by simp [lsl5Copy_0]) (by omega) (s := []) rfl).1
  have e2 := fun S Q => (fold_loop (xs := g.2.1) (n := N) (fun s x => s ++ [x]) (fun i s => s.length = i)
    (L := fun n i s => lsl5Copy_2 N n (g, (i : Int), S, s, Q, ())) (fin := fun s => (S, s, Q, ())) l3
    (fun n i s h hw hI => by
      subst hI
      have hlim : s.length + 1 ≤ lim := by omega
      have hx := a4 _ (List.getElem_mem h)
      simp [lsl5Copy_2, h, hw, sl5Ints_ok hN (sm_lim hx), hlim])
    (fun n s hI => by simp [lsl5Copy_2]) (by omega) (s := []) rfl).1
  have f1 := foldl_push (fun x : Nd => x) g.1 []
  have f2 := foldl_push (fun x : List Int => x) g.2.1 []
  simp only [Int.natCast_zero, f1, f2, List.nil_append, List.map_id'] at e1 e2
  simp [Fsl5Copy, sl5Ints_ok hN (sm_lim a5), e1, e2]
end

section
variable {N : Nat} (hN : lim < N)
include hN

theorem sl5Refs_ok {xs : List Int} {m : Nat} (hx : sm xs.length) : Fsl5Refs N (xs, (m : Int), ()) = some (okR m xs, ()) := by
  have hl := sm_lim hx
  have hL := all_loop (xs := xs) (n := N) (fun x => decide (-1 ≤ x) && decide (x < (m : Int))) (L := fun n i => lsl5Refs_0 N n (xs, (m : Int), (i : Int), ())) (yes := .inl ()) (no := .inr (false, ())) hl
    (fun n i h hw hq => by
      simp at hq
      simp [lsl5Refs_0, h, hw, Int.not_lt.2 hq.1, Int.not_le.2 hq.2])
    (fun n i h hq => by
      simp at hq
      by_cases h1 : xs[i] < -1
      · simp [lsl5Refs_0, h, h1]
      · simp [lsl5Refs_0, h, h1, hq (by omega)])
    (fun n => by simp [lsl5Refs_0]) (by omega)
  simp only [Int.natCast_zero] at hL
  simp only [Fsl5Refs, hL, okR]
  cases xs.all (fun x => decide (-1 ≤ x) && decide (x < (m : Int))) <;> simp

theorem sGraphOk_ok {g : Gr} (hx : smG g) : FsGraphOk N (g, ()) = some (okG g, ()) := by
  obtain ⟨a1, a2, a3, a4, a5⟩ := hx
  have h1 := all_loop (xs := g.1) (n := N) (okN g.1.length) (L := fun n i => lsGraphOk_0 N n (g, (i : Int), ())) (yes := .inl (g, ())) (no := .inr (false, ())) (sm_lim a1)
    (fun n i h hw hq => by
      simp [okN] at hq
      simp [lsGraphOk_0, h, hw, sl5Refs_ok hN (a2 _ (List.getElem_mem h)).1, hq, Nat.not_lt.2 hq.1, Nat.not_lt.2 hq.2.1])
    (fun n i h hq => by
      simp [lsGraphOk_0, h, sl5Refs_ok hN (a2 _ (List.getElem_mem h)).1]
      simp [okN] at hq
      by_cases h1 : g.1[i].1.length ≤ 4 <;> by_cases h2 : g.1[i].2.1.length ≤ 4 <;> simp_all)
    (fun n => by simp [lsGraphOk_0]) (by have := sm_lim a1; omega)
  have h2 := all_loop (xs := g.2.1) (n := N) (fun r => decide (r.length ≤ 8) && okR g.1.length r) (L := fun n i => lsGraphOk_2 N n (g, (i : Int), ())) (yes := .inl (g, ())) (no := .inr (false, ())) (sm_lim a3)
    (fun n i h hw hq => by
      simp at hq
      simp [lsGraphOk_2, h, hw, sl5Refs_ok hN (a4 _ (List.getElem_mem h)), hq, Nat.not_lt.2 hq.1])
    (fun n i h hq => by
      simp [lsGraphOk_2, h, sl5Refs_ok hN (a4 _ (List.getElem_mem h))]
      simp at hq
      by_cases h1 : g.2.1[i].length ≤ 8 <;> simp_all)
    (fun n => by simp [lsGraphOk_2]) (by have := sm_lim a3; omega)
  have h3 := all_loop (xs := g.2.2.1) (n := N) (fun x => decide (0 ≤ x)) (L := fun n i => lsGraphOk_4 N n (g, (i : Int), ())) (yes := .inl (g, ())) (no := .inr (false, ())) (sm_lim a5)
    (fun n i h hw hq => by
      simp at hq
      simp [lsGraphOk_4, h, hw, Int.not_lt.2 hq])
    (fun n i h hq => by
      simp at hq
      simp [lsGraphOk_4, h, hq])
    (fun n => by simp [lsGraphOk_4]) (by have := sm_lim a5; omega)
  simp only [Int.natCast_zero] at h1 h2 h3
  simp only [FsGraphOk, okG]
  by_cases b1 : g.1.length ≤ 200
  · by_cases b2 : 1 ≤ g.2.1.length
    · by_cases b3 : g.2.1.length ≤ 3
      · have c1 : ¬ ((g.1.length : Int) > 200) := by omega
        have c2 : ¬ ((g.2.1.length : Int) < 1) := by omega
        have c3 : ¬ ((g.2.1.length : Int) > 3) := by omega
        simp only [c1, c2, c3, b1, b2, b3, decide_true, decide_false, cond_false, Option.bind_some, Sum.elim_inl, h1, Bool.true_and]
        cases g.1.all (okN g.1.length)
        · simp
        · simp only [cond_true, Option.bind_some, Sum.elim_inl, h2, Bool.true_and]
          cases g.2.1.all (fun r => decide (r.length ≤ 8) && okR g.1.length r)
          · simp
          · simp only [cond_true, Option.bind_some, Sum.elim_inl, h3, Bool.true_and, sl5Refs_ok hN a5]
            by_cases b4 : g.2.2.1.length ≤ 8
            · have c4 : ((g.2.2.1.length : Int) ≤ 8) := by omega
              cases g.2.2.1.all (fun x => decide (0 ≤ x)) <;> simp [b4, c4, sl5Refs_ok hN a5]
            · have c4 : ¬ ((g.2.2.1.length : Int) ≤ 8) := by omega
              cases g.2.2.1.all (fun x => decide (0 ≤ x)) <;> simp [b4, c4, sl5Refs_ok hN a5]
      · have c1 : ¬ ((g.1.length : Int) > 200) := by omega
        have c2 : ¬ ((g.2.1.length : Int) < 1) := by omega
        have c3 : ((g.2.1.length : Int) > 3) := by omega
        simp [c1, c2, c3, b3]
    · have c1 : ¬ ((g.1.length : Int) > 200) := by omega
      have c2 : ((g.2.1.length : Int) < 1) := by omega
      simp [c1, c2, b2]
  · have c1 : ((g.1.length : Int) > 200) := by omega
    simp [c1, b1]

end

section
variable {N : Nat} (hN : lim < N)
include hN

theorem okG_small {g : Gr} (h : okG g = true) : smG g := by
  obtain ⟨h1, h2, h3, h4, h5, h6, h7, h8⟩ := okG_iff.1 h
  simp only [smG, smN, sm]
  refine ⟨by omega, fun x hx => ?_, by omega, fun x hx => ?_, by omega⟩
  · have := h4 x hx; omega
  · have := h5 x hx; omega

/-- One list of references, by the places. -/
theorem meets_loop {m : Nat} {xs : List Int} (hx : ∀ x ∈ xs, x < (m : Int)) (hm : m ≤ 200) (hl : xs.length ≤ lim) {ρ : Type} {L : Nat → Nat → Mst → Option ρ} {fin : Mst → ρ}
    (h1 : ∀ n i st (h : i < xs.length), w64 ((i : Int) + 1) = ((i + 1 : Nat) : Int) → Met m st → (0 ≤ xs[i] → xs[i].toNat < st.2.length) → st.1.length + 1 ≤ lim → L (n + 1) i st = L n (i + 1) (meet st xs[i]))
    (h3 : ∀ n st, Met m st → L (n + 1) xs.length st = some (fin st)) {st : Mst} (hst : Met m st) : L N 0 st = some (fin (xs.foldl meet st)) :=
  (fold_loop (xs := xs) (n := N) meet (fun _ st => Met m st) (L := L) (fin := fin) hl
    (fun n i st h hw hI => by
      have hr := hx _ (List.getElem_mem h)
      refine ⟨h1 n i st h hw hI (fun h0 => by have := hI.len; omega) ?_, hI.meet hr⟩
      have := hI.le; rw [lim_eq]; omega)
    (fun n st hI => h3 n st hI) (by omega) hst).1

theorem roots_loop {m : Nat} {ls : List (List Int)} (hx : ∀ l ∈ ls, ∀ x ∈ l, x < (m : Int)) (hl : ls.length ≤ lim) {ρ : Type} {L : Nat → Nat → Mst → Option ρ} {fin : Mst → ρ}
    (h1 : ∀ n i st (h : i < ls.length), w64 ((i : Int) + 1) = ((i + 1 : Nat) : Int) → Met m st → L (n + 1) i st = L n (i + 1) (ls[i].foldl meet st))
    (h3 : ∀ n st, Met m st → L (n + 1) ls.length st = some (fin st)) {st : Mst} (hst : Met m st) : L N 0 st = some (fin (ls.foldl (fun s l => l.foldl meet s) st)) :=
  (fold_loop (xs := ls) (n := N) (fun s l => l.foldl meet s) (fun _ st => Met m st) (L := L) (fin := fin) hl
    (fun n i st h hw hI => ⟨h1 n i st h hw hI, hI.meets (hx _ (List.getElem_mem h))⟩)
    (fun n st hI => h3 n st hI) (by omega) hst).1

theorem walk_loop {m : Nat} {R : Int → List Int} (hR : ∀ r, 0 ≤ r → r < (m : Int) → ∀ x ∈ R r, x < (m : Int)) (hm : m ≤ 200) {ρ : Type} {L : Nat → Nat → Mst → Option ρ} {fin : Mst → ρ}
    (h1 : ∀ n (i : Nat) st (h : i < st.1.length), w64 ((i : Int) + 1) = ((i + 1 : Nat) : Int) → Met m st → L (n + 1) i st = L n (i + 1) ((R st.1[i]).foldl meet st))
    (h3 : ∀ n i st, ¬ i < st.1.length → Met m st → L (n + 1) i st = some (fin st)) {st : Mst} (hst : Met m st) : L N 0 st = some (fin (walk R (m + 1) 0 st)) := by
  have key : ∀ n i st, Met m st → i ≤ st.1.length → m - i < n → L n i st = some (fin (walk R (m + 1 - i) i st)) := by
    intro n
    induction n with
    | zero => intro i st _ _ h; exact absurd h (Nat.not_lt_zero _)
    | succ n ih =>
      intro i st hI hi hn
      have hle := hI.le
      by_cases h : i < st.1.length
      · have e : m + 1 - i = (m + 1 - (i + 1)) + 1 := by omega
        rw [h1 n i st h (w64_succ (by omega)) hI, e]
        have hb := hI.meets (hR _ (hI.rng _ (List.getElem_mem h)).1 (hI.rng _ (List.getElem_mem h)).2)
        have hp := (meets_pre (l := R st.1[i]) (st := st)).length_le
        rw [ih (i + 1) _ hb (by omega) (by omega)]
        simp only [walk, h, if_true, getD_lt h]
      · rw [h3 n i st h hI]
        cases hk : m + 1 - i with
        | zero => rfl
        | succ k => simp only [walk, h, if_false]
  have := key N 0 st hst (by omega) (by rw [lim_eq] at hN; omega)
  simpa using this

end

theorem cguard {α : Type} {p : Prop} [Decidable p] {a z : Option α} (hp : p) (h : a = z) : (_root_.cond (decide p) a none) = z := by
  simpa [hp] using h

theorem begin_zero {o : Opx} {rs : List Int} {nil : Int} (h : beginC o rs nil = 0) : (o.1 = 8 → rs.length ≠ 0) ∧ (o.1 ≠ 1 → o.1 ≠ 8 → inB o.2.1 rs.length) ∧ (o.1 = 3 ∨ o.1 = 6 ∨ o.1 = 7 → inB o.2.2.1 rs.length) ∧ (o.1 = 7 → inB o.2.2.2.1 rs.length) ∧
    (o.1 ≠ 1 → o.1 ≠ 6 → o.1 ≠ 8 → o.1 ≠ 9 → rs.getD o.2.1.toNat 0 ≠ nil) ∧ (o.1 = 1 ∨ o.1 = 2 ∨ o.1 = 9 → rs.length ≠ 8) := by
  unfold beginC at h
  split at h
  · cases h
  · rename_i h1
    split at h
    · cases h
    · rename_i h2
      split at h
      · cases h
      · rename_i h3
        simp only [not_or, not_and, Decidable.not_not] at h1
        refine ⟨fun e => h1.1 e, fun e1 e2 => h1.2.1 e1 e2, fun e => h1.2.2.1 e, fun e => h1.2.2.2 e, fun e1 e2 e3 e4 e5 => h2 ⟨e1, e2, e3, e4, e5⟩, fun e1 e2 => h3 ⟨e1, e2⟩⟩

theorem inB_nat {i : Int} {n : Nat} (h : inB i n) : 0 ≤ i ∧ i.toNat < n := by unfold inB at h; omega
theorem inB_all {i : Int} {n : Nat} (h : inB i n) : 0 ≤ i ∧ i.toNat < n ∧ i < (n : Int) := by unfold inB at h; omega


section
variable {N : Nat} (hN : lim < N)
include hN

theorem sGraphDo_new {v : Int × Opx × Int × Int × Int × List Nd × List (List Int) × List Int × List Int × List Int × Unit} (hR : v.2.1.2.2.2.2.2.2.1.1 ≤ 4) (hR0 : 0 ≤ v.2.1.2.2.2.2.2.2.1.1) (hi : v.2.2.2.2.1 = 0) (hl : v.2.2.2.2.2.2.2.2.1 = []) (ht : 0 ≤ v.2.2.1) :
    lsGraphDo_1 N N v = some (v.1, v.2.2.1, v.2.2.2.1, v.2.2.2.2.2.1, v.2.2.2.2.2.2.1, v.2.2.2.2.2.2.2.1, List.replicate v.2.1.2.2.2.2.2.2.1.1.toNat (-1), v.2.2.2.2.2.2.2.2.2.1, ()) := by
  obtain ⟨t, o, u1, c, i, ns, rs, ps, l, m, ⟨⟩⟩ := v
  simp only at hR hR0 hi hl ht
  subst hi hl
  have hu : ((u1.toNat : Nat) : Int) = u1 := by omega
  have key : ∀ (n i : Nat), (i : Int) ≤ o.2.2.2.2.2.2.1.1 → o.2.2.2.2.2.2.1.1.toNat - i < n →
      lsGraphDo_1 N n (t, o, u1, c, (i : Int), ns, rs, ps, List.replicate i (-1), m, ()) = some (t, u1, c, ns, rs, ps, List.replicate o.2.2.2.2.2.2.1.1.toNat (-1), m, ()) := by
    intro n
    induction n with
    | zero => intro i _ h; exact absurd h (Nat.not_lt_zero _)
    | succ n ih =>
      intro i hi hn
      by_cases h : (i : Int) < o.2.2.2.2.2.2.1.1
      · have hw : w64 ((i : Int) + 1) = ((i + 1 : Nat) : Int) := w64_succ (by omega)
        have hlim : i + 1 ≤ lim := by rw [lim_eq]; omega
        have := ih (i + 1) (by omega) (by omega)
        simp only [lsGraphDo_1, hw]
        simp only [h, decide_true, cond_true, List.length_replicate, List.length_singleton, hlim, ← List.replicate_succ', Int.ofNat_eq_natCast, hu]
        exact this
      · have e : o.2.2.2.2.2.2.1.1.toNat = i := by omega
        simp [lsGraphDo_1, h, e, hu]
  have := key N 0 (by omega) (by rw [lim_eq] at hN; omega)
  simpa using this

theorem sGraphDo_act {g : Gr} {t : Int} {o : Opx} (hg : okG g = true) (ht : inB t g.2.1.length) (ho : opOk o = true) (hz : beginC o (g.2.1.getD t.toNat []) (-1) = 0) :
    FsGraphDo N (g, t, o, ()) = some (actG g t o (g.2.1.getD t.toNat [])) := by
  have hs := okG_small hN hg
  obtain ⟨k1, k11⟩ := opOk_kind ho
  obtain ⟨t0, t1⟩ := inB_nat ht
  have t1' : ¬ t < 0 := by omega
  have t2' : ¬ t ≥ (g.2.1.length : Int) := by unfold inB at ht; omega
  obtain ⟨z1, z2, z3, z4, z5, z6⟩ := begin_zero hz
  have hok := okG_iff.1 hg
  have hrs : okR g.1.length (g.2.1.getD t.toNat []) = true ∧ (g.2.1.getD t.toNat []).length ≤ 8 := by
    rw [getD_lt t1]
    have := hok.2.2.2.2.1 _ (List.getElem_mem t1)
    exact ⟨this.2, this.1⟩
  unfold FsGraphDo
  dsimp only
  refine obind_eq (r := .inl (t, g, o, ())) (by simp [sGraphOk_ok hN hs, hg, sOpOk_ok, ho, t1', t2']) ?_
  dsimp only [Sum.elim_inl]
  refine obind_eq (sl5Copy_ok hN hs) (cguard t0 (cguard t1 (obind_eq (sl5Begin_ok k1 k11) ?_)))
  dsimp only
  rw [hz]
  generalize hrse : g.2.1.getD t.toNat [] = rs at *
  have hra : ∀ {i : Int}, inB i rs.length → rs.getD i.toNat 0 ≠ -1 → 0 ≤ rs.getD i.toNat 0 ∧ (rs.getD i.toNat 0).toNat < g.1.length ∧ rs.getD i.toNat 0 < (g.1.length : Int) := by
    intro i hi hne
    obtain ⟨a, b⟩ := inB_nat hi
    rw [getD_lt b] at hne ⊢
    have := okR_iff.1 hrs.1 _ (List.getElem_mem b)
    omega
  obtain ⟨k, A, B, C, F, V, ⟨R, M, ⟨⟩⟩, ⟨⟩⟩ := o
  simp only at k1 k11 z1 z2 z3 z4 z5 z6
  have hmx : max t 0 = t := by omega
  rcases kind_cases k1 k11 with h | h | h | h | h | h | h | h | h | h | h <;> subst h
  · -- new
    simp only [opOk, shOk, Bool.and_eq_true, decide_eq_true_eq, Bool.or_eq_true, Bool.not_eq_true', decide_eq_false_iff_not] at ho
    have hsh := (ho.2.2.resolve_left (by simp))
    obtain ⟨r0, r4, m0, m4⟩ := hsh
    have m4' : M.toNat ≤ lim := by rw [lim_eq]; omega
    have l200 : ((g.1.length : Int) = 200) ↔ g.1.length = 200 := by omega
    rcases Classical.propComplete (g.1.length = 200) with e | e
    · simp [-List.getD_eq_getElem?_getD, l200, e, actG, sl5Fields_ok]
    · have hl1 : g.1.length + 1 ≤ lim := by rw [lim_eq]; omega
      have hl2 : rs.length + 1 ≤ lim := by rw [lim_eq]; omega
      have hw : w64 ((g.1.length : Int) + 1 - 1) = g.1.length := by rw [w64_id (by omega) (by omega)]; omega
      have hw2 : w64 (g.1.length : Int) = g.1.length := w64_id (by omega) (by omega)
      have m5 : M ≤ (lim : Int) := by have : (lim : Int) = 2147483648 := rfl; omega
      simp [-List.getD_eq_getElem?_getD, l200, e, actG, m0, m4', m5, hmx, hw2, sGraphDo_new hN, r0, r4, t0, t1, hl1, hl2, hw, hrse, sl5Fields_ok]
  · -- load
    obtain ⟨a1, a2, a3⟩ := inB_all (z2 (by omega) (by omega))
    obtain ⟨n1, n2, n3⟩ := hra (z2 (by omega) (by omega)) (z5 (by omega) (by omega) (by omega) (by omega))
    have hl2 : rs.length + 1 ≤ lim := by rw [lim_eq]; omega
    by_cases f : inB F (g.1.getD (rs.getD A.toNat 0).toNat nd0).1.length
    · obtain ⟨f1, f2, f3⟩ := inB_all f
      simp [-List.getD_eq_getElem?_getD, actG, sl5Fields_ok, a1, a2, a3, n1, n2, n3, hmx, sl5Field_ok, f, f1, f2, f3, t0, t1, hl2, hrse]
    · simp [-List.getD_eq_getElem?_getD, actG, sl5Fields_ok, a1, a2, a3, n1, n2, n3, hmx, sl5Field_ok, f]
  · -- store
    obtain ⟨a1, a2, a3⟩ := inB_all (z2 (by omega) (by omega))
    obtain ⟨b1, b2, b3⟩ := inB_all (z3 (by omega))
    obtain ⟨n1, n2, n3⟩ := hra (z2 (by omega) (by omega)) (z5 (by omega) (by omega) (by omega) (by omega))
    by_cases f : inB F (g.1.getD (rs.getD A.toNat 0).toNat nd0).1.length
    · obtain ⟨f1, f2, f3⟩ := inB_all f
      simp [-List.getD_eq_getElem?_getD, actG, sl5Fields_ok, a1, a2, a3, b1, b2, b3, n1, n2, n3, hmx, sl5Field_ok, f, f1, f2, f3, hrse]
    · simp [-List.getD_eq_getElem?_getD, actG, sl5Fields_ok, a1, a2, a3, n1, n2, n3, hmx, sl5Field_ok, f]
  · -- put
    obtain ⟨a1, a2, a3⟩ := inB_all (z2 (by omega) (by omega))
    obtain ⟨n1, n2, n3⟩ := hra (z2 (by omega) (by omega)) (z5 (by omega) (by omega) (by omega) (by omega))
    by_cases f : inB F (g.1.getD (rs.getD A.toNat 0).toNat nd0).2.1.length
    · obtain ⟨f1, f2, f3⟩ := inB_all f
      simp [-List.getD_eq_getElem?_getD, actG, sl5Fields_ok, a1, a2, a3, n1, n2, n3, hmx, sl5Field_ok, f, f1, f2, f3, hrse]
    · simp [-List.getD_eq_getElem?_getD, actG, sl5Fields_ok, a1, a2, a3, n1, n2, n3, hmx, sl5Field_ok, f]
  · -- get
    obtain ⟨a1, a2, a3⟩ := inB_all (z2 (by omega) (by omega))
    obtain ⟨n1, n2, n3⟩ := hra (z2 (by omega) (by omega)) (z5 (by omega) (by omega) (by omega) (by omega))
    by_cases f : inB F (g.1.getD (rs.getD A.toNat 0).toNat nd0).2.1.length
    · obtain ⟨f1, f2, f3⟩ := inB_all f
      simp [-List.getD_eq_getElem?_getD, actG, sl5Fields_ok, a1, a2, a3, n1, n2, n3, hmx, sl5Field_ok, f, f1, f2, f3, hrse]
    · simp [-List.getD_eq_getElem?_getD, actG, sl5Fields_ok, a1, a2, a3, n1, n2, n3, hmx, sl5Field_ok, f]
  · -- same
    obtain ⟨a1, a2, a3⟩ := inB_all (z2 (by omega) (by omega))
    obtain ⟨b1, b2, b3⟩ := inB_all (z3 (by omega))
    simp [-List.getD_eq_getElem?_getD, actG, sl5Fields_ok, a1, a2, a3, b1, b2, b3, hrse, hmx, sl5One_ok]
  · -- cas
    obtain ⟨a1, a2, a3⟩ := inB_all (z2 (by omega) (by omega))
    obtain ⟨b1, b2, b3⟩ := inB_all (z3 (by omega))
    obtain ⟨c1, c2, c3⟩ := inB_all (z4 (by omega))
    obtain ⟨n1, n2, n3⟩ := hra (z2 (by omega) (by omega)) (z5 (by omega) (by omega) (by omega) (by omega))
    by_cases f : inB F (g.1.getD (rs.getD A.toNat 0).toNat nd0).1.length
    · obtain ⟨f1, f2, f3⟩ := inB_all f
      by_cases e : (g.1.getD (rs.getD A.toNat 0).toNat nd0).1.getD F.toNat 0 = rs.getD B.toNat 0
      · simp [-List.getD_eq_getElem?_getD, actG, sl5Fields_ok, a1, a2, a3, b1, b2, b3, c1, c2, c3, n1, n2, n3, hmx, sl5Field_ok, f, f1, f2, f3, hrse, e]
      · simp [-List.getD_eq_getElem?_getD, actG, sl5Fields_ok, a1, a2, a3, b1, b2, b3, c1, c2, c3, n1, n2, n3, hmx, sl5Field_ok, f, f1, f2, f3, hrse, e]
    · simp [-List.getD_eq_getElem?_getD, actG, sl5Fields_ok, a1, a2, a3, n1, n2, n3, hmx, sl5Field_ok, f]
  · -- drop
    have hl := z1 rfl
    have hw : w64 ((rs.length : Int) - 1) = ((rs.length - 1 : Nat) : Int) := by rw [w64_id (by omega) (by omega)]; omega
    have h1 : ((rs.length - 1 : Nat) : Int) ≤ (rs.length : Int) := by omega
    simp [-List.getD_eq_getElem?_getD, actG, sl5Fields_ok, t0, t1, hw, hrse, hmx, h1]
  · -- dup
    obtain ⟨a1, a2, a3⟩ := inB_all (z2 (by omega) (by omega))
    have hl2 : rs.length + 1 ≤ lim := by rw [lim_eq]; omega
    simp [-List.getD_eq_getElem?_getD, actG, sl5Fields_ok, a1, a2, a3, t0, t1, hrse, hmx, hl2]
  · -- pin
    obtain ⟨a1, a2, a3⟩ := inB_all (z2 (by omega) (by omega))
    have hl2 : g.2.2.1.length + 1 ≤ lim := by rw [lim_eq]; omega
    by_cases e : g.2.2.1.length = 8
    · simp [-List.getD_eq_getElem?_getD, actG, sl5Fields_ok, a1, a2, a3, hrse, hmx, sl5Pins_pin hN hl2, e]
    · simp [-List.getD_eq_getElem?_getD, actG, sl5Fields_ok, a1, a2, a3, hrse, hmx, sl5Pins_pin hN hl2, e]
  · -- unpin
    obtain ⟨a1, a2, a3⟩ := inB_all (z2 (by omega) (by omega))
    have hl2 : g.2.2.1.length ≤ lim := by rw [lim_eq]; omega
    by_cases e : lastP g.2.2.1 (rs.getD A.toNat 0) < 0
    · simp [-List.getD_eq_getElem?_getD, actG, sl5Fields_ok, a1, a2, a3, hrse, hmx, sl5Pins_unpin hN hl2, e]
    · simp [-List.getD_eq_getElem?_getD, actG, sl5Fields_ok, a1, a2, a3, hrse, hmx, sl5Pins_unpin hN hl2, e]

theorem sGraphDo_ok {g : Gr} {t : Int} {o : Opx} (hs : smG g) : FsGraphDo N (g, t, o, ()) = some (doG g t o) := by
  by_cases hc : okG g = true ∧ inB t g.2.1.length ∧ opOk o = true
  · obtain ⟨hg, ht, ho⟩ := hc
    by_cases hz : beginC o (g.2.1.getD t.toNat []) (-1) = 0
    · rw [sGraphDo_act hN hg ht ho hz]
      simp only [doG, hg, ht, ho, hz, and_self, if_true]
    · obtain ⟨k1, k11⟩ := opOk_kind ho
      obtain ⟨t0, t1⟩ := inB_nat ht
      have t1' : ¬ t < 0 := by omega
      have t2' : ¬ t ≥ (g.2.1.length : Int) := by unfold inB at ht; omega
      unfold FsGraphDo
      dsimp only
      refine obind_eq (r := .inl (t, g, o, ())) (by simp [sGraphOk_ok hN hs, hg, sOpOk_ok, ho, t1', t2']) ?_
      dsimp only [Sum.elim_inl]
      refine obind_eq (sl5Copy_ok hN hs) (cguard t0 (cguard t1 (obind_eq (sl5Begin_ok k1 k11) ?_)))
      simp only [doG, hg, ht, ho, hz, and_self, if_true, if_false]
      generalize beginC o (g.2.1.getD t.toNat []) (-1) = c at hz ⊢
      simp [hz]
  · simp only [doG, hc, if_false]
    unfold FsGraphDo
    dsimp only
    cases hg : okG g with
    | false => simp [sGraphOk_ok hN hs, hg]
    | true =>
      by_cases h1 : t < 0
      · simp [sGraphOk_ok hN hs, hg, h1]
      · by_cases h2 : t ≥ (g.2.1.length : Int)
        · have h2' : (g.2.1.length : Int) ≤ t := h2
          simp [sGraphOk_ok hN hs, hg, h1, h2']
        · have ht : inB t g.2.1.length := by unfold inB; omega
          have ho : opOk o = false := by
            cases h : opOk o with
            | false => rfl
            | true => exact absurd ⟨hg, ht, h⟩ hc
          have h2' : ¬ (g.2.1.length : Int) ≤ t := h2
          simp [sGraphOk_ok hN hs, hg, h1, h2', sOpOk_ok, ho]
end

theorem okR_mono {m m' : Nat} {l : List Int} (h : okR m l = true) (hm : m ≤ m') : okR m' l = true := by
  rw [okR_iff] at h ⊢
  intro x hx
  have := h x hx
  omega

theorem okR_push {m : Nat} {l : List Int} {x : Int} (h : okR m l = true) (h1 : -1 ≤ x) (h2 : x < (m : Int)) : okR m (l ++ [x]) = true := by
  rw [okR_iff] at h ⊢
  intro y hy
  simp only [List.mem_append, List.mem_singleton] at hy
  rcases hy with hy | rfl
  · exact h y hy
  · exact ⟨h1, h2⟩

theorem okR_set {m : Nat} {l : List Int} {x : Int} {i : Nat} (h : okR m l = true) (h1 : -1 ≤ x) (h2 : x < (m : Int)) : okR m (l.set i x) = true := by
  rw [okR_iff] at h ⊢
  intro y hy
  rcases List.mem_or_eq_of_mem_set hy with hy | rfl
  · exact h y hy
  · exact ⟨h1, h2⟩

theorem okR_sub {m : Nat} {l l' : List Int} (h : okR m l = true) (hs : ∀ x ∈ l', x ∈ l) : okR m l' = true := by
  rw [okR_iff] at h ⊢
  exact fun y hy => h y (hs y hy)

theorem okR_get {m : Nat} {l : List Int} {i : Nat} (h : okR m l = true) (hi : i < l.length) : -1 ≤ l.getD i 0 ∧ l.getD i 0 < (m : Int) := by
  rw [getD_lt hi]
  exact okR_iff.1 h _ (List.getElem_mem hi)

theorem inBn {i : Int} {n : Nat} (h : inB i n) : 0 ≤ i ∧ i.toNat < n := by unfold inB at h; omega

theorem beginZ {o : Opx} {rs : List Int} {nil : Int} (h : beginC o rs nil = 0) : (o.1 = 8 → rs.length ≠ 0) ∧ (o.1 ≠ 1 → o.1 ≠ 8 → inB o.2.1 rs.length) ∧ (o.1 = 3 ∨ o.1 = 6 ∨ o.1 = 7 → inB o.2.2.1 rs.length) ∧ (o.1 = 7 → inB o.2.2.2.1 rs.length) ∧
    (o.1 ≠ 1 → o.1 ≠ 6 → o.1 ≠ 8 → o.1 ≠ 9 → rs.getD o.2.1.toNat 0 ≠ nil) ∧ (o.1 = 1 ∨ o.1 = 2 ∨ o.1 = 9 → rs.length ≠ 8) := by
  unfold beginC at h
  split at h
  · cases h
  · rename_i h1
    split at h
    · cases h
    · rename_i h2
      split at h
      · cases h
      · rename_i h3
        simp only [not_or, not_and, Decidable.not_not] at h1
        refine ⟨fun e => h1.1 e, fun e1 e2 => h1.2.1 e1 e2, fun e => h1.2.2.1 e, fun e => h1.2.2.2 e, fun e1 e2 e3 e4 e5 => h2 ⟨e1, e2, e3, e4, e5⟩, fun e1 e2 => h3 ⟨e1, e2⟩⟩

/-- A graph with other roots of a thread. -/
theorem okG_roots {g : Gr} {t : Int} {l : List Int} (h : okG g = true) (hl : l.length ≤ 8) (hr : okR g.1.length l = true) : okG (g.1, g.2.1.set t.toNat l, g.2.2.1, ()) = true := by
  obtain ⟨h1, h2, h3, h4, h5, h6, h7, h8⟩ := okG_iff.1 h
  refine okG_iff.2 ⟨h1, by simpa using h2, by simpa using h3, h4, fun r hm => ?_, h6, h7, h8⟩
  rcases List.mem_or_eq_of_mem_set hm with hm | rfl
  · exact h5 r hm
  · exact ⟨hl, hr⟩

/-- A graph with another node. -/
theorem okG_node {g : Gr} {i : Nat} {n : Nd} (h : okG g = true) (hn : n.1.length ≤ 4 ∧ n.2.1.length ≤ 4 ∧ okR g.1.length n.1 = true) : okG (g.1.set i n, g.2.1, g.2.2.1, ()) = true := by
  obtain ⟨h1, h2, h3, h4, h5, h6, h7, h8⟩ := okG_iff.1 h
  refine okG_iff.2 ⟨by simpa using h1, h2, h3, fun x hm => ?_, by simpa using h5, h6, h7, by simpa using h8⟩
  simp only [List.length_set]
  rcases List.mem_or_eq_of_mem_set hm with hm | rfl
  · exact h4 x hm
  · exact hn

theorem actG_ok {g : Gr} {t : Int} {o : Opx} (hg : okG g = true) (ht : inB t g.2.1.length) (ho : opOk o = true) (hz : beginC o (g.2.1.getD t.toNat []) (-1) = 0) : okG (actG g t o (g.2.1.getD t.toNat [])).2.2 = true := by
  obtain ⟨k1, k11⟩ := opOk_kind ho
  obtain ⟨t0, t1⟩ := inBn ht
  obtain ⟨z1, z2, z3, z4, z5, z6⟩ := beginZ hz
  have hok := okG_iff.1 hg
  have hrs : okR g.1.length (g.2.1.getD t.toNat []) = true ∧ (g.2.1.getD t.toNat []).length ≤ 8 := by
    rw [getD_lt t1]
    have := hok.2.2.2.2.1 _ (List.getElem_mem t1)
    exact ⟨this.2, this.1⟩
  generalize hrse : g.2.1.getD t.toNat [] = rs at *
  have hra : ∀ {i : Int}, inB i rs.length → -1 ≤ rs.getD i.toNat 0 ∧ rs.getD i.toNat 0 < (g.1.length : Int) := fun hi => okR_get hrs.1 (inBn hi).2
  have hnode : ∀ {i : Int}, inB i rs.length → rs.getD i.toNat 0 ≠ -1 → (g.1.getD (rs.getD i.toNat 0).toNat nd0).1.length ≤ 4 ∧ (g.1.getD (rs.getD i.toNat 0).toNat nd0).2.1.length ≤ 4 ∧ okR g.1.length (g.1.getD (rs.getD i.toNat 0).toNat nd0).1 = true := by
    intro i hi hne
    have := hra hi
    have hlt : (rs.getD i.toNat 0).toNat < g.1.length := by omega
    rw [getD_lt hlt]
    exact hok.2.2.2.1 _ (List.getElem_mem hlt)
  obtain ⟨k, A, B, C, F, V, ⟨R, M, ⟨⟩⟩, ⟨⟩⟩ := o
  simp only at k1 k11 z1 z2 z3 z4 z5 z6
  unfold actG
  dsimp only
  rcases kind_cases k1 k11 with h | h | h | h | h | h | h | h | h | h | h <;> subst h <;> simp only [Int.reduceEq, ↓reduceIte]
  · simp only [opOk, shOk, Bool.and_eq_true, decide_eq_true_eq, Bool.or_eq_true, Bool.not_eq_true', decide_eq_false_iff_not] at ho
    obtain ⟨r0, r4, m0, m4⟩ := ho.2.2.resolve_left (by simp)
    split
    · exact hg
    · rename_i hne
      have z6 := z6 (.inl rfl)
      obtain ⟨h1, h2, h3, h4, h5, h6, h7, h8⟩ := hok
      refine okG_iff.2 ⟨by simp; omega, by simpa using h2, by simpa using h3, fun x hm => ?_, fun r hm => ?_, h6, h7, okR_mono h8 (by simp)⟩
      · simp only [List.mem_append, List.mem_singleton] at hm
        rcases hm with hm | rfl
        · exact ⟨(h4 x hm).1, (h4 x hm).2.1, okR_mono (h4 x hm).2.2 (by simp)⟩
        · refine ⟨by simp; omega, by simp; omega, okR_iff.2 fun y hy => ?_⟩
          have := List.eq_of_mem_replicate hy
          subst this
          simp only [List.length_append, List.length_singleton]
          omega
      · rcases List.mem_or_eq_of_mem_set hm with hm | rfl
        · exact ⟨(h5 r hm).1, okR_mono (h5 r hm).2 (by simp)⟩
        · refine ⟨by simp; omega, okR_push (okR_mono hrs.1 (by simp)) (by omega) (by simp only [List.length_append, List.length_singleton]; omega)⟩
  · have hA := z2 (by omega) (by omega)
    have hn := hnode hA (z5 (by omega) (by omega) (by omega) (by omega))
    have z6 := z6 (.inr (.inl rfl))
    split
    · rename_i hF
      have := okR_get hn.2.2 (inBn hF).2
      exact okG_roots hg (by simp; omega) (okR_push hrs.1 this.1 this.2)
    · exact hg
  · have hA := z2 (by omega) (by omega)
    have hn := hnode hA (z5 (by omega) (by omega) (by omega) (by omega))
    have hB := hra (z3 (by omega))
    split
    · exact okG_node hg ⟨by simpa using hn.1, hn.2.1, okR_set hn.2.2 hB.1 hB.2⟩
    · exact hg
  · have hA := z2 (by omega) (by omega)
    have hn := hnode hA (z5 (by omega) (by omega) (by omega) (by omega))
    split
    · exact okG_node hg ⟨hn.1, by simpa using hn.2.1, hn.2.2⟩
    · exact hg
  · split <;> exact hg
  · exact hg
  · have hA := z2 (by omega) (by omega)
    have hn := hnode hA (z5 (by omega) (by omega) (by omega) (by omega))
    have hC := hra (z4 (by omega))
    split
    · split
      · exact okG_node hg ⟨by simpa using hn.1, hn.2.1, okR_set hn.2.2 hC.1 hC.2⟩
      · exact hg
    · exact hg
  · exact okG_roots hg (by simp; omega) (okR_sub hrs.1 fun x hx => List.mem_of_mem_take hx)
  · have hA := hra (z2 (by omega) (by omega))
    have z6 := z6 (.inr (.inr rfl))
    exact okG_roots hg (by simp; omega) (okR_push hrs.1 hA.1 hA.2)
  · have hA := z2 (by omega) (by omega)
    have hAr := hra hA
    have hne := z5 (by omega) (by omega) (by omega) (by omega)
    split
    · exact hg
    · obtain ⟨h1, h2, h3, h4, h5, h6, h7, h8⟩ := hok
      refine okG_iff.2 ⟨h1, h2, h3, h4, h5, by simp; omega, fun x hx => ?_, okR_push h8 hAr.1 hAr.2⟩
      simp only [List.mem_append, List.mem_singleton] at hx
      rcases hx with hx | rfl
      · exact h7 x hx
      · omega
  · split
    · exact hg
    · obtain ⟨h1, h2, h3, h4, h5, h6, h7, h8⟩ := hok
      have hsub : ∀ x ∈ g.2.2.1.take (lastP g.2.2.1 (rs.getD A.toNat 0)).toNat ++ g.2.2.1.drop ((lastP g.2.2.1 (rs.getD A.toNat 0)).toNat + 1), x ∈ g.2.2.1 := by
        intro x hx
        rcases List.mem_append.1 hx with hx | hx
        · exact List.mem_of_mem_take hx
        · exact List.mem_of_mem_drop hx
      exact okG_iff.2 ⟨h1, h2, h3, h4, h5, by simp; omega, fun x hx => h7 x (hsub x hx), okR_sub h8 hsub⟩

theorem doG_ok {g : Gr} {t : Int} {o : Opx} (h : (doG g t o).2.1 ≠ 1) : okG g = true ∧ okG (doG g t o).2.2 = true := by
  unfold doG at h ⊢
  split
  · rename_i hc
    refine ⟨hc.1, ?_⟩
    split
    · rename_i hz; exact actG_ok hc.1 hc.2.1 hc.2.2 hz
    · exact hc.1
  · rename_i hc; simp [hc] at h

theorem actG_len {g : Gr} {t : Int} {o : Opx} {rs : List Int} : g.1.length ≤ (actG g t o rs).2.2.1.length ∧ (actG g t o rs).2.2.2.1.length = g.2.1.length := by
  by_cases h1 : o.1 = 1
  · simp only [actG, h1, Int.reduceEq, ↓reduceIte]
    split <;> simp
  by_cases h2 : o.1 = 2
  · simp only [actG, h2, Int.reduceEq, ↓reduceIte]
    split <;> simp
  by_cases h3 : o.1 = 3
  · simp only [actG, h3, Int.reduceEq, ↓reduceIte]
    split <;> simp
  by_cases h4 : o.1 = 4
  · simp only [actG, h4, Int.reduceEq, ↓reduceIte]
    split <;> simp
  by_cases h5 : o.1 = 5
  · simp only [actG, h5, Int.reduceEq, ↓reduceIte]
    split <;> simp
  by_cases h6 : o.1 = 6
  · simp only [actG, h6, Int.reduceEq, ↓reduceIte]
    simp
  by_cases h7 : o.1 = 7
  · simp only [actG, h7, Int.reduceEq, ↓reduceIte]
    (repeat' split) <;> simp
  by_cases h8 : o.1 = 8
  · simp only [actG, h8, Int.reduceEq, ↓reduceIte]
    simp
  by_cases h9 : o.1 = 9
  · simp only [actG, h9, Int.reduceEq, ↓reduceIte]
    simp
  by_cases h10 : o.1 = 10
  · simp only [actG, h10, Int.reduceEq, ↓reduceIte]
    split <;> simp
  simp only [actG, h1, h2, h3, h4, h5, h6, h7, h8, h9, h10, if_false]
  split <;> simp

theorem doG_len {g : Gr} {t : Int} {o : Opx} (h : (doG g t o).2.1 ≠ 1) : g.1.length ≤ (doG g t o).2.2.1.length ∧ (doG g t o).2.2.2.1.length = g.2.1.length := by
  unfold doG at h ⊢
  split
  · split
    · exact actG_len
    · exact ⟨Nat.le_refl _, rfl⟩
  · rename_i hc; simp [hc] at h

section
variable {N : Nat} (hN : lim < N)
include hN

theorem sGraphNew_ok {n : Int} (h1 : 1 ≤ n) (h3 : n ≤ 3) : FsGraphNew N (n, ()) = some (true, [([-1, -1, -1, -1], [0, 0], ())], List.replicate n.toNat [0], ()) := by
  have hN' : 2147483648 < N := by rw [lim_eq] at hN; exact hN
  obtain ⟨m, rfl⟩ : ∃ m, N = m + 10 := ⟨N - 10, by omega⟩
  have e0 : ∀ a b, lsGraphNew_0 (m + 10) (m + 10) (a, 0, [], b, ()) = some (a, [-1, -1, -1, -1], b, ()) := by
    intro a b
    have w1 : w64 1 = 1 := by decide
    have w2 : w64 2 = 2 := by decide
    have w3 : w64 3 = 3 := by decide
    have w4 : w64 4 = 4 := by decide
    simp [lsGraphNew_0, w1, w2, w3, w4, lim_eq]
  have e2 : ∀ a, lsGraphNew_2 (m + 10) (m + 10) (n, 0, a, [], ()) = some (a, List.replicate n.toNat [0], ()) := by
    intro a
    have w1 : w64 1 = 1 := by decide
    have w2 : w64 2 = 2 := by decide
    have w3 : w64 3 = 3 := by decide
    have : n = 1 ∨ n = 2 ∨ n = 3 := by omega
    rcases this with h | h | h <;> subst h <;> simp [lsGraphNew_2, w1, w2, w3, lim_eq] <;> rfl
  have c1 : ¬ n < 1 := by omega
  have c2 : ¬ n > 3 := by omega
  have c3 : ¬ 3 < n := by omega
  simp [FsGraphNew, c1, c2, c3, e0, e2, lim_eq]

theorem newG_ok {n : Int} (h1 : 1 ≤ n) (h3 : n ≤ 3) : okG ([([-1, -1, -1, -1], [0, 0], ())], List.replicate n.toNat [0], [], ()) = true := by
  refine okG_iff.2 ⟨by simp, by simp; omega, by simp; omega, ?_, ?_, by simp, by simp, by rfl⟩
  · intro x hx
    simp only [List.mem_singleton] at hx
    subst hx
    exact ⟨by decide, by decide, by simp [okR]⟩
  · intro r hr
    have := List.eq_of_mem_replicate hr
    subst this
    exact ⟨by decide, by simp [okR]⟩

theorem l20Graph_0_ok {cnt : Int} {b : List Int} (hb : byteL b) (hc : cnt ≤ 30) : ∀ (n i : Nat) (p : Int) (g : Gr), 30 - i < n → i ≤ 30 → okG g = true → 1 ≤ g.1.length → 0 ≤ p → p < 1099511000000 - 40 * (30 - i) →
    Ret (lsl20Graph_0 N n (cnt, (i : Int), b, p, g.1, g.2.1, g.2.2.1, ())) (fun r => r.1 = b ∧ p ≤ r.2.1 ∧ r.2.1 ≤ p + 40 * (30 - i) ∧ okG r.2.2 = true ∧ 1 ≤ r.2.2.1.length)
  | 0, _, _, _, h, _, _, _, _, _ => absurd h (Nat.not_lt_zero _)
  | n + 1, i, p, g, hn, hi0, hg, h1, hp, hp' => by
    have hok := okG_iff.1 hg
    have hs := okG_small hN hg
    unfold lsl20Graph_0
    dsimp only
    refine Ret.dec (fun hi => ?_) (fun hi => ?_)
    · refine pick_bind hb (by omega) (by omega) (fun t t0 t1 => ?_)
      dsimp only
      have ht : t.toNat < g.2.1.length := by omega
      refine Ret.guard t0 (Ret.guard ht ?_)
      refine Ret.bind _ (l20Op_ok hb (by omega) (by omega)) (fun r hr => ?_)
      obtain ⟨k, A, B, C, F, V, R, M, b', p', ⟨⟩⟩ := r
      simp only at hr
      obtain ⟨rfl, p1, p2⟩ := hr
      dsimp only
      have hw : w64 ((i : Int) + 1) = ((i + 1 : Nat) : Int) := w64_succ (by omega)
      refine Ret.bindE (sGraphDo_ok hN (g := g) (t := t) (o := (k, A, B, C, F, V, (R, M, ()), ())) hs) ?_
      have hi30 : (i : Int) < 30 := by omega
      rw [hw]
      by_cases hcode : (doG g t (k, A, B, C, F, V, (R, M, ()), ())).2.1 = 1
      · simp only [hcode, bne_self_eq_false, cond_false]
        refine (l20Graph_0_ok hb hc n (i + 1) p' g (by omega) (by omega) hg h1 (by omega) (by omega)).mono fun r hr => ?_
        obtain ⟨r1, r2, r3, r5, r6⟩ := hr
        exact ⟨r1, by omega, by omega, r5, r6⟩
      · have hb2 : ((doG g t (k, A, B, C, F, V, (R, M, ()), ())).2.1 != 1) = true := by simpa using hcode
        simp only [hb2, cond_true]
        obtain ⟨_, hg'⟩ := doG_ok hcode
        obtain ⟨hl', _⟩ := doG_len hcode
        refine (l20Graph_0_ok hb hc n (i + 1) p' (doG g t (k, A, B, C, F, V, (R, M, ()), ())).2.2 (by omega) (by omega) hg' (by omega) (by omega) (by omega)).mono fun r hr => ?_
        obtain ⟨r1, r2, r3, r5, r6⟩ := hr
        exact ⟨r1, by omega, by omega, r5, r6⟩
    · exact Ret.pure ⟨rfl, by dsimp only; omega, by dsimp only; omega, hg, h1⟩

theorem l20Graph_3_ok {b : List Int} (hb : byteL b) (rs : List (List Int)) (ps : List Int) : ∀ (n : Nat) (p : Int) (ns : List Nd), 201 - ns.length < n → ns.length ≤ 201 → 0 ≤ p → p < 1099511500000 + ns.length → (∀ x ∈ ns, smN x) →
    Ret (lsl20Graph_3 N n (b, p, ns, rs, ps, ())) (fun r => r.1.length ≤ 201 ∧ ns.length ≤ r.1.length ∧ (∀ x ∈ r.1, smN x) ∧ r.2.1 = rs ∧ r.2.2.1 = ps ∧ r.2.2.2.1 = b ∧ p ≤ r.2.2.2.2.1 ∧ r.2.2.2.2.1 ≤ p + 202 - ns.length)
  | 0, _, _, h, _, _, _, _ => absurd h (Nat.not_lt_zero _)
  | n + 1, p, ns, hn, hl, hp, hp', hx => by
    unfold lsl20Graph_3
    dsimp only
    refine pick_bind hb (by omega) (by omega) (fun v v0 v1 => ?_)
    dsimp only
    have hw : w64 (200 + v) = 200 + v := w64_id (by omega) (by omega)
    rw [hw]
    refine Ret.dec (fun h => ?_) (fun h => ?_)
    · refine Ret.guard (by rw [lim_eq]; simp; omega) ?_
      refine (l20Graph_3_ok hb rs ps n (p + 1) (ns ++ [([], [], ())]) (by simp; omega) (by simp; omega) (by omega) (by simp; omega) ?_).mono fun r hr => ?_
      · intro x hm
        simp only [List.mem_append, List.mem_singleton] at hm
        rcases hm with hm | rfl
        · exact hx x hm
        · exact ⟨by simp [sm], by simp [sm]⟩
      · obtain ⟨r1, r2, r3, r4, r5, r6, r7, r8⟩ := hr
        simp only [List.length_append, List.length_singleton] at r2 r8
        exact ⟨r1, by omega, r3, r4, r5, r6, by omega, by omega⟩
    · exact Ret.pure ⟨hl, Nat.le_refl _, hx, rfl, rfl, rfl, by dsimp only; omega, by dsimp only; omega⟩

theorem l20Graph_ok {b : List Int} {p : Int} (hb : byteL b) (hp : 0 ≤ p) (hp' : p < 1000000) :
    Ret (Fsl20Graph N (b, p, ())) (fun r => smG (r.1, r.2.1, r.2.2.1, ()) ∧ 1 ≤ r.1.length ∧ 1 ≤ r.2.1.length ∧ r.2.2.2.1 = b ∧ p ≤ r.2.2.2.2.1 ∧ r.2.2.2.2.1 ≤ p + 2000) := by
  have hN' : 2147483648 < N := by rw [lim_eq] at hN; exact hN
  unfold Fsl20Graph
  dsimp only
  refine pick_bind hb (by omega) (by omega) (fun v1 a1 c1 => ?_)
  dsimp only
  have hw : w64 (1 + v1) = 1 + v1 := w64_id (by omega) (by omega)
  rw [hw]
  refine Ret.bindE (sGraphNew_ok hN (by omega) (by omega)) ?_
  dsimp only
  refine pick_bind hb (by omega) (by omega) (fun v2 a2 c2 => ?_)
  dsimp only
  have h0 := l20Graph_0_ok hN (cnt := v2) hb (by omega) N 0 (p + 1 + 1) ([([-1, -1, -1, -1], [0, 0], ())], List.replicate (1 + v1).toNat [0], [], ()) (by omega) (by omega) (newG_ok hN (by omega) (by omega)) (by simp) (by omega) (by omega)
  refine Ret.bind _ h0 (fun o ho => ?_)
  obtain ⟨b', p', g⟩ := o
  simp only at ho
  obtain ⟨rfl, q1, q2, hg, hg1⟩ := ho
  have hok := okG_iff.1 hg
  have hs := okG_small hN hg
  dsimp only
  refine pick_bind hb (by omega) (by omega) (fun v3 a3 c3 => ?_)
  dsimp only
  refine Ret.beq (fun e => ?_) (fun e => ?_)
  · refine pick_bind hb (by omega) (by omega) (fun v4 a4 c4 => ?_)
    dsimp only
    refine Ret.guard (by omega) (Ret.guard (by show (0 : Nat) < _; omega) (Ret.pure ?_))
    refine ⟨⟨by simpa using hs.1, fun x hm => ?_, hs.2.2⟩, by simpa using hg1, hok.2.1, rfl, by dsimp only; omega, by dsimp only; omega⟩
    rcases List.mem_or_eq_of_mem_set hm with hm | rfl
    · exact hs.2.1 x hm
    · refine ⟨by simp [sm], ?_⟩
      have := hs.2.1 _ (List.getElem_mem (show 0 < g.1.length by omega))
      have e0 : g.1.getD (0 : Int).toNat ([], [], ()) = g.1[0]'(by omega) := getD_lt (show 0 < g.1.length by omega)
      rw [e0]
      exact this.2
  refine Ret.beq (fun e => ?_) (fun e => ?_)
  · refine Ret.guard (by omega) (Ret.guard (by show (0 : Nat) < _; omega) ?_)
    have hr0 := hok.2.2.2.2.1 _ (List.getElem_mem (show 0 < g.2.1.length by omega))
    have e0 : g.2.1.getD (0 : Int).toNat [] = g.2.1[0]'(by omega) := getD_lt (show 0 < g.2.1.length by omega)
    refine Ret.bindE (sl5Ints_ok hN (by rw [e0, lim_eq]; omega)) ?_
    dsimp only
    refine pick_bind hb (by omega) (by omega) (fun v4 a4 c4 => ?_)
    dsimp only
    refine Ret.guard (by rw [e0, lim_eq]; simp; omega) (Ret.guard (by omega) (Ret.guard (by show (0 : Nat) < _; omega) (Ret.pure ?_)))
    refine ⟨⟨hs.1, hs.2.1, by simpa using hs.2.2.1, fun x hm => ?_, hs.2.2.2.2⟩, hg1, by simpa using hok.2.1, rfl, by dsimp only; omega, by dsimp only; omega⟩
    rcases List.mem_or_eq_of_mem_set hm with hm | rfl
    · exact hs.2.2.2.1 x hm
    · rw [e0]; simp [sm]; omega
  refine Ret.beq (fun e => ?_) (fun e => ?_)
  · refine Ret.guard (by rw [lim_eq]; simp; omega) (Ret.pure ?_)
    refine ⟨⟨hs.1, hs.2.1, by simp [sm]; omega, fun x hm => ?_, hs.2.2.2.2⟩, hg1, by simp, rfl, by dsimp only; omega, by dsimp only; omega⟩
    simp only [List.mem_append, List.mem_cons, List.not_mem_nil, or_false] at hm
    rcases hm with hm | rfl | rfl
    · exact hs.2.2.2.1 x hm
    · simp [sm]
    · simp [sm]
  refine Ret.beq (fun e => ?_) (fun e => ?_)
  · refine Ret.bind _ (l20Graph_3_ok hN hb g.2.1 g.2.2.1 N (p' + 1) g.1 (by omega) (by omega) (by omega) (by omega) hs.2.1) (fun r hr => ?_)
    obtain ⟨r1, r2, r3, r4, r5, r6, r7, r8⟩ := hr
    refine Ret.pure ⟨⟨by simp [sm]; omega, r3, ?_⟩, by dsimp only; omega, by dsimp only; rw [r4]; exact hok.2.1, r6, by dsimp only; omega, by dsimp only; omega⟩
    dsimp only
    rw [r4, r5]
    exact hs.2.2
  · exact Ret.pure ⟨hs, hg1, hok.2.1, rfl, by dsimp only; omega, by dsimp only; omega⟩

theorem sl1Open_ok {code : List Int} (hb : ∀ x ∈ code, 0 ≤ x ∧ x < 256) : ∃ b, Fsl1Open_o_ N (code, ()) = some (b, 0, ()) ∧ byteL b := by
  by_cases h : code.length > 2000
  · have h1 : (code.length : Int) > 2000 := by omega
    have h2 : (2000 : Int) ≤ code.length := by omega
    refine ⟨(code.drop 0).take (2000 - 0), by simp only [Fsl1Open_o_, h1, h2]; rfl, by simp; omega, fun x hx => hb x ?_⟩
    exact List.mem_of_mem_take (i := 2000) (by simpa using hx)
  · have h1 : ¬ (code.length : Int) > 2000 := by omega
    exact ⟨code, by simp only [Fsl1Open_o_, h1]; rfl, by omega, hb⟩
end

section
variable {N : Nat} (hN : lim < N)
include hN

theorem vflInts_ok {xs ys : List Int} (hl : xs.length ≤ lim) : FvflInts N (xs, ys, ()) = some (decide (xs = ys), ()) := by
  by_cases hlen : xs.length = ys.length
  · have hL := eq_loop (xs := xs) (ys := ys) (n := N) (L := fun n i => lvflInts_0 N n (xs, ys, (i : Int), ())) (yes := .inl ()) (no := .inr (false, ())) hl hlen
      (fun n i h1 h2 hw hq => by simp [lvflInts_0, h1, h2, hw, hq])
      (fun n i h1 h2 hq => by simp [lvflInts_0, h1, h2, hq])
      (fun n => by simp [lvflInts_0, hlen]) (by omega)
    simp only [Int.natCast_zero] at hL
    rcases Decidable.em (xs = ys) with rfl | h
    · simp [FvflInts, hL]
    · simp [FvflInts, hL, h, hlen]
  · have h : xs ≠ ys := fun h => hlen (by rw [h])
    have h2 : (xs.length : Int) ≠ ys.length := by omega
    simp [FvflInts, h, h2]
end

/-- What a list of references leads to, not through one node. -/
inductive Rch (R : Int → List Int) (skip : Int) (l : List Int) : Int → Prop
  | root {r : Int} : r ∈ l → 0 ≤ r → r ≠ skip → Rch R skip l r
  | step {a r : Int} : Rch R skip l a → r ∈ R a → 0 ≤ r → r ≠ skip → Rch R skip l r

theorem Rch.mono {R : Int → List Int} {skip : Int} {l l' : List Int} (h : ∀ x ∈ l, x ∈ l') {k : Int} (hk : Rch R skip l k) : Rch R skip l' k := by
  induction hk with
  | root h1 h2 h3 => exact .root (h _ h1) h2 h3
  | step _ h1 h2 h3 ih => exact .step ih h1 h2 h3

theorem Rch.trans {R : Int → List Int} {skip : Int} {l : List Int} {r k : Int} (hr : Rch R skip l r) (hk : Rch R skip (R r) k) : Rch R skip l k := by
  induction hk with
  | root h1 h2 h3 => exact .step hr h1 h2 h3
  | step _ h1 h2 h3 ih => exact .step ih h1 h2 h3

abbrev Sn := List (Int × Bool)
abbrev keys (s : Sn) : List Int := s.map Prod.fst

structure Seen (m : Nat) (s : Sn) : Prop where
  nd : (keys s).Nodup
  tr : ∀ p ∈ s, p.2 = true
  rng : ∀ k ∈ keys s, 0 ≤ k ∧ k < (m : Int)

theorem pigeon : ∀ {m : Nat} {l : List Int}, l.Nodup → (∀ k ∈ l, 0 ≤ k ∧ k < (m : Int)) → l.length ≤ m
  | 0, [], _, _ => Nat.le_refl _
  | 0, x :: l, _, h => by have := h x (by simp); omega
  | m + 1, l, hn, h => by
    by_cases hm : (m : Int) ∈ l
    · have h1 := pigeon (m := m) (l := l.erase (m : Int)) (hn.erase _) (fun k hk => by
        have h2 := (hn.mem_erase_iff).1 hk
        have := h k h2.2
        have := h2.1
        omega)
      rw [List.length_erase_of_mem hm] at h1
      omega
    · have h1 := pigeon (m := m) hn (fun k hk => by
        have := h k hk
        have : k ≠ m := fun e => hm (e ▸ hk)
        omega)
      omega

theorem Seen.le {m : Nat} {s : Sn} (h : Seen m s) : s.length ≤ m := by
  have := pigeon h.nd h.rng
  simpa using this

theorem mget_keys : ∀ {s : Sn} {k : Int}, (∀ p ∈ s, p.2 = true) → ((mget s k).getD false = true ↔ k ∈ keys s)
  | [], k, _ => by simp [mget]
  | (q, b) :: s, k, h => by
    have hb : b = true := h (q, b) (by simp)
    subst hb
    have ih := mget_keys (s := s) (k := k) (fun p hp => h p (by simp [hp]))
    by_cases e : k = q
    · simp [mget, e]
    · simp only [mget, e, decide_false, cond_false, ih]
      simp [e]

theorem mset_fresh : ∀ {s : Sn} {k : Int} {b : Bool}, k ∉ keys s → mset s k b = s ++ [(k, b)]
  | [], _, _, _ => rfl
  | (q, c) :: s, k, b, h => by
    have h1 : k ≠ q := fun e => h (by simp [e])
    have h2 : k ∉ keys s := fun e => h (by simp only [keys, List.map_cons, List.mem_cons]; exact .inr e)
    simp only [mset, h1, decide_false, cond_false, mset_fresh h2, List.cons_append]

theorem Seen.add {m : Nat} {s : Sn} (h : Seen m s) {k : Int} (h0 : 0 ≤ k) (h1 : k < (m : Int)) (h2 : k ∉ keys s) : Seen m (s ++ [(k, true)]) := by
  refine ⟨?_, ?_, ?_⟩
  · simp only [keys, List.map_append, List.map_cons, List.map_nil]
    rw [List.nodup_append]
    refine ⟨h.nd, by simp, ?_⟩
    intro a ha b hb e
    simp only [List.mem_singleton] at hb
    subst hb; subst e
    exact h2 ha
  · intro p hp
    simp only [List.mem_append, List.mem_singleton] at hp
    rcases hp with hp | rfl
    · exact h.tr p hp
    · rfl
  · intro p hp
    simp only [keys, List.map_append, List.mem_append, List.map_cons, List.map_nil, List.mem_singleton] at hp
    rcases hp with hp | rfl
    · exact h.rng p hp
    · exact ⟨h0, h1⟩

/-- From one seen to the next. -/
structure Dfs (g : Gr) (skip : Int) (l : List Int) (s s' : Sn) : Prop where
  ok : Seen g.1.length s'
  le : s.length ≤ s'.length
  sub : ∀ k ∈ keys s, k ∈ keys s'
  new : ∀ k ∈ keys s', k ∈ keys s ∨ Rch (refsOf g) skip l k
  roots : ∀ r ∈ l, 0 ≤ r → r ≠ skip → r ∈ keys s'
  closed : ∀ k ∈ keys s', k ∉ keys s → ∀ r ∈ refsOf g k, 0 ≤ r → r ≠ skip → r ∈ keys s'

theorem Dfs.nil {g : Gr} {skip : Int} {s : Sn} (h : Seen g.1.length s) : Dfs g skip [] s s :=
  ⟨h, Nat.le_refl _, fun _ h => h, fun _ h => .inl h, fun _ h => by simp at h, fun _ h h' => absurd h h'⟩

theorem Dfs.skip {g : Gr} {skip r : Int} {l : List Int} {s s' : Sn} (h : Dfs g skip l s s') (hr : 0 ≤ r → r ≠ skip → r ∈ keys s') : Dfs g skip (l ++ [r]) s s' :=
  ⟨h.ok, h.le, h.sub, fun k hk => (h.new k hk).imp_right (Rch.mono fun x hx => by simp [hx]), fun x hx h0 h1 => by
    simp only [List.mem_append, List.mem_singleton] at hx
    rcases hx with hx | rfl
    · exact h.roots x hx h0 h1
    · exact hr h0 h1, h.closed⟩

theorem keys_push {s : Sn} {r k : Int} : k ∈ keys (s ++ [(r, true)]) ↔ k ∈ keys s ∨ k = r := by
  simp only [keys, List.map_append, List.mem_append, List.map_cons, List.map_nil, List.mem_singleton]

theorem Dfs.go {g : Gr} {skip r : Int} {l : List Int} {s s1 s2 : Sn} (h : Dfs g skip l s s1) (h0 : 0 ≤ r) (hs : r ≠ skip) (hn : r ∉ keys s1)
    (h2 : Dfs g skip (refsOf g r) (s1 ++ [(r, true)]) s2) : Dfs g skip (l ++ [r]) s s2 := by
  have hr : Rch (refsOf g) skip (l ++ [r]) r := .root (by simp) h0 hs
  have hsub : ∀ k ∈ keys s1, k ∈ keys s2 := fun k hk => h2.sub k (keys_push.2 (.inl hk))
  have hrm : r ∈ keys s2 := h2.sub r (keys_push.2 (.inr rfl))
  refine ⟨h2.ok, ?_, fun k hk => hsub k (h.sub k hk), ?_, ?_, ?_⟩
  · have := h2.le; have := h.le; simp only [List.length_append, List.length_singleton] at *; omega
  · intro k hk
    rcases h2.new k hk with h3 | h3
    · rcases keys_push.1 h3 with h4 | rfl
      · exact (h.new k h4).imp_right (Rch.mono fun x hx => by simp [hx])
      · exact .inr hr
    · exact .inr (hr.trans h3)
  · intro x hx h3 h4
    simp only [List.mem_append, List.mem_singleton] at hx
    rcases hx with hx | rfl
    · exact hsub x (h.roots x hx h3 h4)
    · exact hrm
  · intro k hk hks x hx h3 h4
    by_cases hk2 : k ∈ keys (s1 ++ [(r, true)])
    · rcases keys_push.1 hk2 with h5 | rfl
      · exact hsub x (h.closed k h5 hks x hx h3 h4)
      · exact h2.roots x hx h3 h4
    · exact h2.closed k hk hk2 x hx h3 h4

/-- From nothing: just what is reached. -/
theorem Dfs.all {g : Gr} {skip : Int} {l : List Int} {s : Sn} (h : Dfs g skip l [] s) (k : Int) : k ∈ keys s ↔ Rch (refsOf g) skip l k := by
  constructor
  · intro hk
    rcases h.new k hk with h1 | h1
    · simp at h1
    · exact h1
  · intro hk
    induction hk with
    | root h1 h2 h3 => exact h.roots _ h1 h2 h3
    | step _ h1 h2 h3 ih => exact h.closed _ ih (by simp) _ h1 h2 h3

/-- The order's members. -/
theorem order_rch {g : Gr} {l : List Int} (h : okG (g.1, [l], [], ()) = true) (k : Int) : k ∈ order (g.1, [l], [], ()) ↔ Rch (refsOf g) (-1) l k := by
  constructor
  · intro hk
    refine order_ind (g := (g.1, [l], [], ())) (P := fun k => Rch (refsOf g) (-1) l k) ?_ ?_ ?_ k hk
    · intro l' hl x hx h0
      simp only [List.mem_singleton] at hl
      subst hl
      exact .root hx h0 (by omega)
    · intro x hx; simp at hx
    · intro r hr x hx h0
      exact .step hr hx h0 (by omega)
  · intro hk
    induction hk with
    | root h1 h2 h3 => exact order_roots h _ (by simp) _ h1 h2
    | step _ h1 h2 h3 ih => exact order_closed h _ ih _ h1 h2

def mark (out : List Bool) (l : List Int) : List Bool := l.foldl (fun o r => o.set r.toNat true) out
def reachL (g : Gr) : List Bool := mark (List.replicate g.1.length false) (order g)

theorem mark_len {l : List Int} : ∀ {out : List Bool}, (mark out l).length = out.length := by
  induction l with
  | nil => intro out; rfl
  | cons r l ih => intro out; simp only [mark, List.foldl_cons]; exact (ih (out := out.set r.toNat true)).trans (by simp)

theorem mark_get {l : List Int} : ∀ {out : List Bool} {k : Nat}, (∀ r ∈ l, 0 ≤ r ∧ r < (out.length : Int)) → ((mark out l).getD k false = true ↔ out.getD k false = true ∨ (k : Int) ∈ l) := by
  induction l with
  | nil => intro out k _; simp [mark]
  | cons r l ih =>
    intro out k h
    have hr := h r (by simp)
    have := ih (out := out.set r.toNat true) (k := k) (fun x hx => by simpa using h x (by simp [hx]))
    simp only [mark, List.foldl_cons] at this ⊢
    rw [this]
    simp only [List.getD_eq_getElem?_getD, List.getElem?_set, List.mem_cons]
    by_cases e : r.toNat = k
    · have e' : (k : Int) = r := by omega
      have hlt : r.toNat < out.length := by omega
      simp only [e, if_true, e', true_or, or_true, iff_true]
      rw [if_pos (by omega)]
      simp
    · have e' : ¬ (k : Int) = r := by omega
      simp only [e, if_false, e', false_or]

theorem count_mark : ∀ {l : List Bool} {i : Nat}, i < l.length → l.getD i false = false → (l.set i true).count true = l.count true + 1
  | [], _, h, _ => by simp at h
  | b :: l, 0, _, h => by simp at h; subst h; simp
  | b :: l, i + 1, h, h2 => by
    have ih := count_mark (l := l) (i := i) (by simpa using h) (by simpa using h2)
    simp only [List.set_cons_succ, List.count_cons]
    omega

theorem mark_count {l : List Int} : ∀ {out : List Bool}, l.Nodup → (∀ r ∈ l, 0 ≤ r ∧ r < (out.length : Int)) → (∀ r ∈ l, out.getD r.toNat false = false) → (mark out l).count true = out.count true + l.length := by
  induction l with
  | nil => intro out _ _ _; simp [mark]
  | cons r l ih =>
    intro out hn h hf
    have hr := h r (by simp)
    have hn' := List.nodup_cons.1 hn
    have := ih (out := out.set r.toNat true) hn'.2 (fun x hx => by simpa using h x (by simp [hx])) (fun x hx => by
      have hx0 := h x (by simp [hx])
      have : r.toNat ≠ x.toNat := fun e => hn'.1 (by have : r = x := by omega
                                                     rw [this]; exact hx)
      simp only [List.getD_eq_getElem?_getD, List.getElem?_set, this, if_false]
      simpa using hf x (by simp [hx]))
    simp only [mark, List.foldl_cons] at this ⊢
    rw [this, count_mark (by omega) (hf r (by simp)), List.length_cons]
    omega

theorem reachL_len (g : Gr) : (reachL g).length = g.1.length := by simp [reachL, mark_len]

theorem reachL_get {g : Gr} (h : okG g = true) {k : Nat} : (reachL g).getD k false = true ↔ (k : Int) ∈ order g := by
  unfold reachL
  rw [mark_get (fun r hr => by simpa using order_rng h r hr)]
  simp only [List.getD_eq_getElem?_getD, List.getElem?_replicate]
  constructor
  · rintro (h | h)
    · split at h <;> simp at h
    · exact h
  · exact .inr

theorem reachL_count {g : Gr} (h : okG g = true) : (reachL g).count true = (order g).length := by
  unfold reachL
  rw [mark_count (order_nodup h) (fun r hr => by simpa using order_rng h r hr)]
  · simp [List.count_replicate]
  · intro r hr
    simp only [List.getD_eq_getElem?_getD, List.getElem?_replicate]
    split <;> rfl

def bump (c : List Int) (p : Nat → Bool) : List Int := (List.range c.length).map fun k => c.getD k 0 + if p k = true then 1 else 0

theorem bump_len {c : List Int} {p : Nat → Bool} : (bump c p).length = c.length := by simp [bump]

theorem bump_get {c : List Int} {p : Nat → Bool} {k : Nat} (h : k < (bump c p).length) : (bump c p)[k] = c.getD k 0 + if p k = true then 1 else 0 := by
  simp [bump]

theorem bump_congr {c : List Int} {p q : Nat → Bool} (h : ∀ k, k < c.length → p k = q k) : bump c p = bump c q := by
  apply List.ext_getElem (by simp [bump_len])
  intro k h1 h2
  rw [bump_get, bump_get, h k (by simpa [bump_len] using h1)]

theorem bump_none {c : List Int} {p : Nat → Bool} (h : ∀ k, k < c.length → p k = false) : bump c p = c := by
  apply List.ext_getElem (by simp [bump_len])
  intro k h1 h2
  rw [bump_get, h k h2, getD_lt h2]
  simp

theorem bump_set {c : List Int} {p q : Nat → Bool} {k : Nat} (hk : k < c.length) (hp : p k = true) (hq : q k = false) (h : ∀ j, j ≠ k → p j = q j) : bump (c.set k (c.getD k 0 + 1)) q = bump c p := by
  apply List.ext_getElem (by simp [bump_len])
  intro j h1 h2
  rw [bump_get, bump_get]
  simp only [bump_len, List.length_set] at h1
  by_cases e : j = k
  · subst e
    rw [getD_lt (by simpa using h1), List.getElem_set_self, hp, hq]; simp
  · rw [getD_lt (by simpa using h1), List.getElem_set_ne (by omega), h j e, getD_lt h1]

/-- The nodes that the list leads to. -/
def isRch (g : Gr) (l : List Int) (k : Nat) : Bool := (reachL (g.1, [l], [], ())).getD k false

def counts (g : Gr) : List Int := g.2.1.foldl (fun c l => bump c (isRch g l)) (List.replicate g.1.length 0)

def pushIf (c : List Int) (s : List Int) (k : Int) : List Int := if c.getD k.toNat 0 > 1 then s ++ [k] else s

def upto (n : Nat) : List Int := (List.range n).map fun k : Nat => (k : Int)

def shared (g : Gr) : List Int := (upto g.1.length).foldl (pushIf (counts g)) []

theorem upto_len {n : Nat} : (upto n).length = n := by simp [upto]
theorem upto_get {n i : Nat} (h : i < (upto n).length) : (upto n)[i] = (i : Int) := by simp [upto]

theorem okG_one {g : Gr} (h : okG g = true) {l : List Int} (hl : l.length ≤ 8) (hr : okR g.1.length l = true) : okG (g.1, [l], [], ()) = true := by
  have := okG_iff.1 h
  refine okG_iff.2 ⟨this.1, by simp, by simp, this.2.2.2.1, ?_, by simp, by simp, by simp [okR]⟩
  intro r hm
  simp only [List.mem_singleton] at hm
  subst hm
  exact ⟨hl, hr⟩

theorem okG_root {g : Gr} (h : okG g = true) {l : List Int} (hl : l ∈ g.2.1) : okG (g.1, [l], [], ()) = true := by
  have := (okG_iff.1 h).2.2.2.2.1 l hl
  exact okG_one h this.1 this.2

theorem isRch_iff {g : Gr} {l : List Int} (h : okG (g.1, [l], [], ()) = true) {k : Nat} : isRch g l k = true ↔ Rch (refsOf g) (-1) l k := by
  rw [isRch, reachL_get h, order_rch h]

/-- What is counted stays small. -/
structure Cnt (m i : Nat) (c : List Int) : Prop where
  len : c.length = m
  lo : ∀ k, 0 ≤ c.getD k 0
  hi : ∀ k, c.getD k 0 ≤ (i : Int)

theorem Cnt.zero (m : Nat) : Cnt m 0 (List.replicate m 0) := by
  refine ⟨by simp, ?_, ?_⟩ <;> intro k <;> simp only [List.getD_eq_getElem?_getD, List.getElem?_replicate] <;> split <;> simp

theorem Cnt.bump {m i : Nat} {c : List Int} (h : Cnt m i c) (p : Nat → Bool) : Cnt m (i + 1) (bump c p) := by
  have hg : ∀ k, (Fl.bump c p).getD k 0 = if k < m then c.getD k 0 + (if p k = true then 1 else 0) else 0 := by
    intro k
    by_cases hk : k < m
    · rw [getD_lt (by rw [bump_len, h.len]; exact hk), bump_get]; simp [hk]
    · rw [List.getD_eq_getElem?_getD, List.getElem?_eq_none (by rw [bump_len, h.len]; omega)]; simp [hk]
  refine ⟨by rw [bump_len, h.len], ?_, ?_⟩ <;> intro k <;> rw [hg k] <;> have := h.lo k <;> have := h.hi k <;> split <;> (try split) <;> omega

theorem counts_cnt {g : Gr} (h : okG g = true) : Cnt g.1.length g.2.1.length (counts g) := by
  have key : ∀ (ls : List (List Int)) (i : Nat) (c : List Int), Cnt g.1.length i c → Cnt g.1.length (i + ls.length) (ls.foldl (fun c l => bump c (isRch g l)) c) := by
    intro ls
    induction ls with
    | nil => intro i c hc; simpa using hc
    | cons l ls ih =>
      intro i c hc
      have := ih (i + 1) _ (hc.bump (isRch g l))
      simp only [List.foldl_cons, List.length_cons]
      rw [show i + (ls.length + 1) = i + 1 + ls.length by omega]
      exact this
  have := key g.2.1 0 _ (Cnt.zero g.1.length)
  simpa [counts] using this

theorem pushIf_one {c s : List Int} {x : Int} : (pushIf c s x).length ≤ s.length + 1 := by unfold pushIf; split <;> simp

theorem pushIf_len {c : List Int} : ∀ {xs : List Int} {s : List Int}, (xs.foldl (pushIf c) s).length ≤ s.length + xs.length
  | [], s => by simp
  | x :: xs, s => by
    have := pushIf_len (c := c) (xs := xs) (s := pushIf c s x)
    simp only [List.foldl_cons, List.length_cons]
    have h2 : (pushIf c s x).length ≤ s.length + 1 := by unfold pushIf; split <;> simp
    omega

theorem shared_len (g : Gr) : (shared g).length ≤ g.1.length := by
  have := pushIf_len (c := counts g) (xs := upto g.1.length) (s := [])
  simpa [shared, upto_len] using this

theorem Rch.split {R : Int → List Int} {skip : Int} {l : List Int} {k : Int} (h : Rch R skip l k) : ∃ f ∈ l, 0 ≤ f ∧ f ≠ skip ∧ (f = k ∨ Rch R skip (R f) k) := by
  induction h with
  | root h1 h2 h3 => exact ⟨_, h1, h2, h3, .inl rfl⟩
  | step _ h1 h2 h3 ih =>
    obtain ⟨f, hf, h0, hs, h4⟩ := ih
    refine ⟨f, hf, h0, hs, .inr ?_⟩
    rcases h4 with rfl | h4
    · exact .root h1 h2 h3
    · exact .step h4 h1 h2 h3

theorem Rch.one {R : Int → List Int} {skip : Int} {l : List Int} {k : Int} : Rch R skip l k ↔ ∃ f ∈ l, Rch R skip [f] k := by
  constructor
  · intro h
    obtain ⟨f, hf, h0, hs, h4⟩ := h.split
    refine ⟨f, hf, ?_⟩
    have h5 : Rch R skip [f] f := .root (by simp) h0 hs
    rcases h4 with rfl | h4
    · exact h5
    · exact h5.trans h4
  · rintro ⟨f, hf, h⟩
    exact h.mono fun x hx => by simp only [List.mem_singleton] at hx; exact hx ▸ hf

open Classical in
noncomputable def ringB (g : Gr) (k : Int) : Bool := decide (Rch (refsOf g) (-1) (refsOf g k) k)

noncomputable def rings (g : Gr) : List Int := (upto g.1.length).filter (ringB g)

theorem ringB_iff {g : Gr} {k : Int} : ringB g k = true ↔ Rch (refsOf g) (-1) (refsOf g k) k := by simp [ringB]

theorem foldl_filter {p : Int → Bool} {xs : List Int} : ∀ {s : List Int}, xs.foldl (fun s x => if p x = true then s ++ [x] else s) s = s ++ xs.filter p := by
  induction xs with
  | nil => intro s; simp
  | cons x xs ih =>
    intro s
    rw [List.foldl_cons, ih, List.filter_cons]
    cases p x <;> simp

theorem mem_upto {n : Nat} {k : Int} : k ∈ upto n ↔ 0 ≤ k ∧ k < (n : Int) := by
  simp only [upto, List.mem_map, List.mem_range]
  constructor
  · rintro ⟨a, h, rfl⟩; omega
  · intro h; exact ⟨k.toNat, by omega, by omega⟩

theorem shared_filter (g : Gr) : shared g = (upto g.1.length).filter (fun k => decide ((counts g).getD k.toNat 0 > 1)) := by
  have : pushIf (counts g) = fun s x => if (fun k : Int => decide ((counts g).getD k.toNat 0 > 1)) x = true then s ++ [x] else s := by
    funext s x; simp only [pushIf, decide_eq_true_eq]
  rw [shared, this, foldl_filter]; rfl

/-- Whoever is on a ring leads on to one that is. -/
theorem rings_next {g : Gr} (h : okG g = true) {a : Int} (ha : a ∈ rings g) : ∃ f ∈ refsOf g a, f ∈ rings g := by
  simp only [rings, List.mem_filter, ringB_iff, mem_upto] at ha
  obtain ⟨f, hf, h0, hs, h4⟩ := ha.2.split
  refine ⟨f, hf, ?_⟩
  simp only [rings, List.mem_filter, ringB_iff, mem_upto]
  refine ⟨⟨h0, refs_rng h a f hf⟩, ?_⟩
  rcases h4 with rfl | h4
  · exact ha.2
  · exact .step h4 hf h0 hs

theorem counts_mono {g : Gr} (h : okG g = true) {a b : Nat} (ha : a < g.1.length) (hb : b < g.1.length) (hab : (b : Int) ∈ refsOf g a) : (counts g).getD a 0 ≤ (counts g).getD b 0 := by
  have key : ∀ (ls : List (List Int)) (c : List Int), (∀ l ∈ ls, l ∈ g.2.1) → c.length = g.1.length → c.getD a 0 ≤ c.getD b 0 → (ls.foldl (fun c l => bump c (isRch g l)) c).getD a 0 ≤ (ls.foldl (fun c l => bump c (isRch g l)) c).getD b 0 := by
    intro ls
    induction ls with
    | nil => intro c _ _ hc; exact hc
    | cons l ls ih =>
      intro c hm hl hc
      refine ih _ (fun x hx => hm x (by simp [hx])) (by rw [bump_len, hl]) ?_
      rw [getD_lt (by rw [bump_len, hl]; exact ha), getD_lt (by rw [bump_len, hl]; exact hb), bump_get, bump_get]
      have hone := okG_root h (hm l (by simp))
      have : isRch g l a = true → isRch g l b = true := fun hx => (isRch_iff hone).2 (.step ((isRch_iff hone).1 hx) hab (by omega) (by omega))
      cases h1 : isRch g l a with
      | false => simp only [Bool.false_eq_true, if_false]; split <;> omega
      | true => rw [this h1]; simpa using hc
  exact key g.2.1 _ (fun _ h => h) (by simp) (by simp [ha, hb])

theorem shared_closed {g : Gr} (h : okG g = true) {a r : Int} (ha : a ∈ shared g) (hr : r ∈ refsOf g a) (h0 : 0 ≤ r) : r ∈ shared g := by
  rw [shared_filter] at ha ⊢
  simp only [List.mem_filter, mem_upto, decide_eq_true_eq] at ha ⊢
  have hr2 := refs_rng h a r hr
  have := counts_mono h (a := a.toNat) (b := r.toNat) (by omega) (by omega) (by rw [show ((a.toNat : Nat) : Int) = a by omega, show ((r.toNat : Nat) : Int) = r by omega]; exact hr)
  exact ⟨⟨h0, hr2⟩, by omega⟩

theorem upto_filter_len {n : Nat} {p : Int → Bool} : ((upto n).filter p).length ≤ n := by
  have := List.length_filter_le p (upto n)
  rwa [upto_len] at this

def orF (i : Nat) (a b : List Bool) : List Bool := (List.range a.length).map fun k => a.getD k false || (decide (i ≤ k) && b.getD k false)

theorem orF_len {i : Nat} {a b : List Bool} : (orF i a b).length = a.length := by simp [orF]
theorem orF_get {i k : Nat} {a b : List Bool} (h : k < (orF i a b).length) : (orF i a b)[k] = (a.getD k false || (decide (i ≤ k) && b.getD k false)) := by simp [orF]
theorem orF_getD {i k : Nat} {a b : List Bool} (h : k < a.length) : (orF i a b).getD k false = (a.getD k false || (decide (i ≤ k) && b.getD k false)) := by
  rw [getD_lt (by rw [orF_len]; exact h), orF_get]
theorem orF_end {i : Nat} {a b : List Bool} (h : a.length ≤ i) : orF i a b = a := by
  apply List.ext_getElem (by simp [orF_len])
  intro k h1 h2
  have : ¬ i ≤ k := by omega
  rw [orF_get, getD_lt h2, decide_eq_false this]; simp
theorem orF_set {i : Nat} {a b : List Bool} (h : i < a.length) : orF (i + 1) (a.set i (a.getD i false || b.getD i false)) b = orF i a b := by
  apply List.ext_getElem (by simp [orF_len])
  intro k h1 h2
  rw [orF_get, orF_get]
  simp only [orF_len, List.length_set] at h1
  rw [getD_lt (show k < (a.set i (a.getD i false || b.getD i false)).length by simpa using h1), getD_lt h1]
  by_cases e : k = i
  · subst e
    rw [List.getElem_set_self, getD_lt h1]
    have : ¬ k + 1 ≤ k := by omega
    rw [decide_eq_false this]; simp
  · rw [List.getElem_set_ne (by omega)]
    have : decide (i + 1 ≤ k) = decide (i ≤ k) := by simp only [decide_eq_decide]; omega
    rw [this]

section
variable {N : Nat} (hN : lim < N)
include hN

theorem sl5Order_roots {g : Gr} (h : okG g = true) {k : Nat} (hk : k < g.2.1.length) {st : Mst} (hst : Met g.1.length st) :
    lsl5Order_2 N N (g, (k : Int), 0, st.1, st.2, ()) = some (g, (k : Int), (g.2.1[k].foldl meet st).1, (g.2.1[k].foldl meet st).2, ()) := by
  have hg := okG_iff.1 h
  have hs := okG_small hN h
  have := meets_loop hN (xs := g.2.1[k]) (m := g.1.length) (rootsrng h _ (List.getElem_mem hk)) hg.1 (sm_lim (hs.2.2.2.1 _ (List.getElem_mem hk)))
    (L := fun n i st => lsl5Order_2 N n (g, (k : Int), (i : Int), st.1, st.2, ())) (fin := fun st => (g, (k : Int), st.1, st.2, ()))
    (fun n i st hi hw hI hb hlim => by
      by_cases h0 : 0 ≤ g.2.1[k][i]
      · have hb := hb h0
        cases hh : st.2.getD g.2.1[k][i].toNat false with
        | false => 
          have hh' := hh
          rw [getD_lt hb] at hh'
          simp [lsl5Order_2, hk, hi, hw, h0, hb, hlim, meet, hh']
        | true =>
          have hh' := hh
          rw [getD_lt hb] at hh'
          simp [lsl5Order_2, hk, hi, hw, h0, hb, hlim, meet, hh']
      · simp [lsl5Order_2, hk, hi, hw, h0, meet])
    (fun n st hI => by simp [lsl5Order_2, hk]) hst
  simpa using this

theorem sl5Order_ok {g : Gr} (h : okG g = true) : Fsl5Order N (g, ()) = some (order g, ()) := by
  have hg := okG_iff.1 h
  have hs := okG_small hN h
  have e1 := roots_loop hN (ls := g.2.1) (m := g.1.length) (rootsrng h) (sm_lim hs.2.2.1) (L := fun n i st => lsl5Order_0 N n (g, (i : Int), st.1, st.2, ())) (fin := fun st => (g, st.1, st.2, ()))
    (fun n i st hi hw hI => by simp [lsl5Order_0, hi, hw, sl5Order_roots hN h hi hI])
    (fun n st hI => by simp [lsl5Order_0]) (met0_ok _)
  have hb := roots_met (met0_ok g.1.length) (rootsrng h)
  have e2 := meets_loop hN (xs := g.2.2.1) (m := g.1.length) (pinsrng h) hg.1 (sm_lim hs.2.2.2.2)
    (L := fun n i st => lsl5Order_4 N n (g, (i : Int), st.1, st.2, ())) (fin := fun st => (g, st.1, st.2, ()))
    (fun n i st hi hw hI hb hlim => by
      have h0 := hg.2.2.2.2.2.2.1 _ (List.getElem_mem hi)
      have hb := hb h0
      cases hh : st.2.getD g.2.2.1[i].toNat false with
      | false => 
        have hh' := hh
        rw [getD_lt hb] at hh'
        simp [lsl5Order_4, hi, hw, h0, hb, hlim, meet, hh']
      | true =>
        have hh' := hh
        rw [getD_lt hb] at hh'
        simp [lsl5Order_4, hi, hw, h0, hb, hlim, meet, hh'])
    (fun n st hI => by simp [lsl5Order_4]) hb
  have e3 : ∀ k st, Met g.1.length st → ∀ (r : Int) (hr : r.toNat < g.1.length), lsl5Order_8 N N (g, k, refsOf g r, (0 : Int), st.1, st.2, ()) = some (g, k, ((refsOf g r).foldl meet st).1, ((refsOf g r).foldl meet st).2, ()) := by
    intro k st hst r hr
    have hsm : (refsOf g r).length ≤ lim := by
      unfold refsOf; rw [getD_lt hr]; exact sm_lim (hs.2.1 _ (List.getElem_mem hr)).1
    have := meets_loop hN (xs := refsOf g r) (m := g.1.length) (refs_rng h r) hg.1 hsm
      (L := fun n i st => lsl5Order_8 N n (g, k, refsOf g r, (i : Int), st.1, st.2, ())) (fin := fun st => (g, k, st.1, st.2, ()))
      (fun n i st hi hw hI hb hlim => by
        by_cases h0 : 0 ≤ (refsOf g r)[i]
        · have hb := hb h0
          cases hh : st.2.getD (refsOf g r)[i].toNat false with
          | false => 
            have hh' := hh
            rw [getD_lt hb] at hh'
            simp [lsl5Order_8, hi, hw, h0, hb, hlim, meet, hh']
          | true =>
            have hh' := hh
            rw [getD_lt hb] at hh'
            simp [lsl5Order_8, hi, hw, h0, hb, hlim, meet, hh']
        · simp [lsl5Order_8, hi, hw, h0, meet])
      (fun n st hI => by simp [lsl5Order_8]) hst
    simpa using this
  have hb2 : Met g.1.length (begin0 g) := begin0_ok h
  have e4 := walk_loop hN (R := refsOf g) (m := g.1.length) (fun r _ _ => refs_rng h r) hg.1 (L := fun n i st => lsl5Order_6 N n (g, (i : Int), st.1, st.2, ())) (fin := fun st => (st.1, ()))
    (fun n i st hi hw hI => by
      have hr := hI.rng _ (List.getElem_mem hi)
      have hr' : st.1[i].toNat < g.1.length := by omega
      have e := e3 (i : Int) st hI st.1[i] hr'
      simp only [refsOf, getD_lt hr'] at e ⊢
      simp [lsl5Order_6, hi, hw, hr.1, hr', e])
    (fun n i st hi hI => by simp [lsl5Order_6, hi]) hb2
  simp only [Int.natCast_zero] at e1 e2 e4
  have hl := sm_lim hs.1
  simp only [met0] at e1
  simp only [Fsl5Order, Int.natCast_nonneg, decide_true, cond_true, Int.toNat_natCast, hl, e1, Option.bind_some]
  simp only [met0] at e2
  rw [e2]
  simp only [Option.bind_some]
  have e5 : begin0 g = (g.2.2.1.foldl meet (g.2.1.foldl (fun s l => l.foldl meet s) ([], List.replicate g.1.length false))) := rfl
  rw [← e5, e4]
  rfl

end

section
variable {N : Nat} (hN : lim < N)
include hN

theorem sGraphReach_ok {g : Gr} (hs : smG g) : FsGraphReach N (g, ()) = some (if okG g = true then reachL g else [], ()) := by
  cases h : okG g with
  | false => simp [FsGraphReach, sGraphOk_ok hN hs, h]
  | true =>
    have hg := okG_iff.1 h
    have ho : (order g).length ≤ lim := by have := order_le h; rw [lim_eq]; omega
    have hl := sm_lim hs.1
    have e := (fold_loop (xs := order g) (n := N) (fun o r => o.set r.toNat true) (fun _ s => s.length = g.1.length)
      (L := fun n i s => lsGraphReach_0 N n ((i : Int), s, order g, ())) (fin := fun s => (s, ())) ho
      (fun n i s hi hw hI => by
        have hr := order_rng h _ (List.getElem_mem hi)
        have hr' : (order g)[i].toNat < s.length := by omega
        refine ⟨?_, by simpa using hI⟩
        simp [lsGraphReach_0, hi, hw, hr.1, hr'])
      (fun n s hI => by simp [lsGraphReach_0]) (by omega) (s := List.replicate g.1.length false) (by simp)).1
    simp only [Int.natCast_zero] at e
    simp [FsGraphReach, sGraphOk_ok hN hs, h, hl, sl5Order_ok hN h, e, reachL, mark]
end

section
variable {N : Nat} (hN : lim < N)
include hN

omit hN in
theorem below2 {a b c : Int} {g : Gr} {ns : List Nd} {rs : List (List Int)} {o : List Bool} (ho : o.length ≤ 200) : ∀ (d n i : Nat) {out : List Bool}, out.length = o.length → i + d = o.length → d < n →
    lsl17Below_2 N n (a, g, c, (i : Int), ns, rs, out, o, ()) = some (a, g, c, ns, rs, orF i out o, ())
  | 0, n, i, out, hl, hi, hn => by
    obtain ⟨n, rfl⟩ : ∃ k, n = k + 1 := ⟨n - 1, by omega⟩
    have : ¬ (i : Int) < o.length := by omega
    rw [orF_end (by omega)]
    simp [lsl17Below_2, this]
  | d + 1, n, i, out, hl, hi, hn => by
    obtain ⟨n, rfl⟩ : ∃ k, n = k + 1 := ⟨n - 1, by omega⟩
    have h1 : i < o.length := by omega
    have h2 : i < out.length := by omega
    have hw : w64 ((i : Int) + 1) = ((i + 1 : Nat) : Int) := w64_succ (by omega)
    have ih := below2 (a := a) (b := b) (c := c) (g := g) (ns := ns) (rs := rs) ho d n (i + 1) (out := out.set i (out.getD i false || o.getD i false)) (by simpa using hl) (by omega) (by omega)
    rw [orF_set h2] at ih
    simp only [lsl17Below_2, Int.ofNat_lt, h1, h2, decide_true, cond_true, Int.natCast_nonneg, Int.toNat_natCast, hw]
    cases hb : out.getD i false with
    | true => rw [hb, Bool.true_or] at ih; simpa using ih
    | false => rw [hb, Bool.false_or] at ih; simpa using ih

theorem sl17Below_ok {g : Gr} (h : okG g = true) {k : Nat} (hk : k < g.1.length) : ∃ out, Fsl17Below N (g, (k : Int), ()) = some (out, ()) ∧ out.length = g.1.length ∧
    ∀ j, j < g.1.length → (out.getD j false = true ↔ Rch (refsOf g) (-1) (refsOf g k) j) := by
  have hg := okG_iff.1 h
  have hnd := hg.2.2.2.1 _ (List.getElem_mem hk)
  have hrf : refsOf g k = g.1[k].1 := by simp only [refsOf, Int.toNat_natCast, getD_lt hk]
  have hl := sm_lim (okG_small hN h).1
  obtain ⟨e, hI⟩ := fold_loop (xs := g.1[k].1) (n := N) (fun (s : List (List Int) × List Bool) r => ([[r]], orF 0 s.2 (reachL (g.1, [[r]], [], ()))))
    (fun i s => s.1.length = 1 ∧ s.2.length = g.1.length ∧ ∀ j, j < g.1.length → (s.2.getD j false = true ↔ ∃ f ∈ (g.1[k].1).take i, Rch (refsOf g) (-1) [f] j))
    (L := fun n i s => lsl17Below_0 N n ((k : Int), g, (i : Int), g.1, s.1, s.2, ())) (fin := fun s => (s.2, ())) (by rw [lim_eq]; omega)
    (fun n i s hi hw hI => by
      obtain ⟨h1, h2, h3⟩ := hI
      have hone := okG_one h (l := [g.1[k].1[i]]) (by simp) (okR_iff.2 fun x hx => by
        simp only [List.mem_singleton] at hx
        subst hx
        exact okR_iff.1 hnd.2.2 _ (List.getElem_mem hi))
      have hs := okG_small hN hone
      have ho : (reachL (g.1, [[g.1[k].1[i]]], [], ())).length = g.1.length := reachL_len _
      have hset : s.1.set 0 [g.1[k].1[i]] = [[g.1[k].1[i]]] := by
        obtain ⟨s1, s2⟩ := s
        match s1, h1 with
        | [_], _ => rfl
      have hin := below2 (N := N) (a := (k : Int)) (b := 0) (c := (i : Int)) (g := g) (ns := g.1) (rs := [[g.1[k].1[i]]]) (o := reachL (g.1, [[g.1[k].1[i]]], [], ())) (by omega) g.1.length N 0 (out := s.2) (by omega) (by omega) (by rw [lim_eq] at hN; omega)
      simp only [Int.natCast_zero] at hin
      refine ⟨?_, rfl, by rw [orF_len]; exact h2, fun j hj => ?_⟩
      · simp only [lsl17Below_0, Int.natCast_nonneg, Int.toNat_natCast, Int.ofNat_lt, hk, hi, getD_lt hk, getD_lt hi, decide_true, cond_true, Int.le_refl, Int.toNat_zero, h1, Nat.zero_lt_one, hset, sGraphReach_ok hN hs, hone, if_true, Option.bind_some, hin, hw]
      · rw [orF_getD (by omega), List.take_succ_eq_append_getElem hi]
        simp only [Nat.zero_le, decide_true, Bool.true_and, Bool.or_eq_true, h3 j hj, List.mem_append, List.mem_singleton]
        rw [reachL_get hone, order_rch hone]
        constructor
        · rintro (⟨f, hf, hr⟩ | hr)
          · exact ⟨f, .inl hf, hr⟩
          · exact ⟨_, .inr rfl, hr⟩
        · rintro ⟨f, hf | rfl, hr⟩
          · exact .inl ⟨f, hf, hr⟩
          · exact .inr hr)
    (fun n s hI => by simp [lsl17Below_0, hk]) (by rw [lim_eq] at hN; omega) (s := ([[]], List.replicate g.1.length false)) (by
      refine ⟨rfl, by simp, fun j hj => ?_⟩
      simp [hj])
  obtain ⟨_, h2, h3⟩ := hI
  refine ⟨_, ?_, h2, fun j hj => ?_⟩
  · simp only [Int.natCast_zero] at e
    simp [Fsl17Below, sl5Copy_ok hN (okG_small hN h), hl, e]
  · rw [h3 j hj, List.take_length, hrf]
    exact Rch.one.symm

theorem rings_s {g : Gr} (h : okG g = true) : lsPathLoops_0 N N (g, 0, [], ()) = some (rings g, ()) := by
  have hg := okG_iff.1 h
  have e := (fold_loop (xs := upto g.1.length) (n := N) (fun s x => if ringB g x = true then s ++ [x] else s) (fun i s => s.length ≤ i) (L := fun n i s => lsPathLoops_0 N n (g, (i : Int), s, ())) (fin := fun s => (s, ()))
    (by rw [lim_eq, upto_len]; omega)
    (fun n i s hi hw hI => by
      have hi' : i < g.1.length := by simpa [upto_len] using hi
      have hlim : s.length + 1 ≤ lim := by rw [lim_eq]; omega
      obtain ⟨out, eo, h2, h3⟩ := sl17Below_ok hN h hi'
      have h4 : out.getD i false = ringB g i := by rw [Bool.eq_iff_iff, h3 i hi', ringB_iff]
      have h5 : i < out.length := by omega
      rw [upto_get hi]
      simp only [lsPathLoops_0, Int.ofNat_lt, hi', decide_true, cond_true, eo, Option.bind_some, Int.natCast_nonneg, Int.toNat_natCast, h5, h4, hw, List.length_cons, List.length_nil, Nat.zero_add, hlim]
      cases hq : ringB g i with
      | true => exact ⟨rfl, by simp; omega⟩
      | false => exact ⟨rfl, by simp; omega⟩)
    (fun n s hI => by simp [lsPathLoops_0, upto_len]) (by rw [lim_eq] at hN; rw [upto_len]; omega) (s := []) (by simp)).1
  rw [foldl_filter] at e
  simpa [rings] using e

theorem sPathLoops_ok {g : Gr} (hs : smG g) : FsPathLoops N (g, ()) = some (if okG g = true then rings g else [], ()) := by
  cases h : okG g with
  | false => simp [FsPathLoops, sGraphOk_ok hN hs, h]
  | true => simp [FsPathLoops, sGraphOk_ok hN hs, h, rings_s hN h]
end

section
variable {N : Nat} (hN : lim < N)
include hN

theorem dfs_ok {g : Gr} (hg : okG g = true) {skip : Int} : ∀ (m : Nat) {l : List Int} {s : Sn}, (∀ x ∈ l, x < (g.1.length : Int)) → l.length ≤ lim → Seen g.1.length s → g.1.length - s.length < m →
    ∃ s', FiGraph_from_1_iGraph_from_1 N m (l, skip, g, s, skip, g, ()) = some (s', skip, g, ()) ∧ Dfs g skip l s s'
  | 0, _, _, _, _, _, h => absurd h (Nat.not_lt_zero _)
  | m + 1, l, s, hl, hlen, hs, hm => by
    have key : ∀ (d n i : Nat) (s1 : Sn), i + d = l.length → d < n → Dfs g skip (l.take i) s s1 →
        ∃ s', liGraph_from_1_iGraph_from_1_0 N (fun x_ => FiGraph_from_1_iGraph_from_1 N m x_) n (skip, g, l, (l.length : Int), (i : Int), s1, skip, g, ()) = some (s', skip, g, ()) ∧ Dfs g skip l s s' := by
      intro d
      induction d with
      | zero =>
        intro n i s1 hi hn hD
        obtain ⟨n, rfl⟩ : ∃ k, n = k + 1 := ⟨n - 1, by omega⟩
        have : i = l.length := by omega
        subst this
        rw [List.take_length] at hD
        exact ⟨s1, by simp [liGraph_from_1_iGraph_from_1_0], hD⟩
      | succ d ih =>
        intro n i s1 hi hn hD
        obtain ⟨n, rfl⟩ : ∃ k, n = k + 1 := ⟨n - 1, by omega⟩
        have hlt : i < l.length := by omega
        have hw : w64 ((i : Int) + 1) = ((i + 1 : Nat) : Int) := w64_succ (by rw [lim_eq] at hlen; omega)
        have ht : l.take (i + 1) = l.take i ++ [l[i]] := by rw [List.take_succ_eq_append_getElem hlt]
        have go := fun s2 (h : Dfs g skip (l.take i ++ [l[i]]) s s2) => ih n (i + 1) s2 (by omega) (by omega) (by rw [ht]; exact h)
        simp only [liGraph_from_1_iGraph_from_1_0, Int.ofNat_lt, hlt, decide_true, cond_true, Int.natCast_nonneg, Int.toNat_natCast, getD_lt hlt, hw]
        by_cases h0 : 0 ≤ l[i]
        · by_cases h1 : l[i] = skip
          · have e : (l[i] != skip) = false := by simp [h1]
            simp only [ge_iff_le, h0, decide_true, cond_true, e, cond_false]
            exact go s1 (hD.skip fun _ h => absurd h1 h)
          · have e : (l[i] != skip) = true := by simp [h1]
            simp only [ge_iff_le, h0, decide_true, cond_true, e]
            by_cases h2 : l[i] ∈ keys s1
            · have e2 := (mget_keys (k := l[i]) hD.ok.tr).2 h2
              simp only [e2, Bool.not_true, cond_false]
              exact go s1 (hD.skip fun _ _ => h2)
            · have e2 : (mget s1 l[i]).getD false = false := by
                cases hb : (mget s1 l[i]).getD false with
                | false => rfl
                | true => exact absurd ((mget_keys hD.ok.tr).1 hb) h2
              have hr := hl _ (List.getElem_mem hlt)
              have hr' : l[i].toNat < g.1.length := by omega
              have hs2 := hD.ok.add h0 hr h2
              have hsm := (okG_iff.1 hg).2.2.2.1 _ (List.getElem_mem hr')
              have hle := hD.le
              obtain ⟨s3, e3, h3⟩ := dfs_ok hg (skip := skip) m (l := refsOf g l[i]) (s := s1 ++ [(l[i], true)]) (refs_rng hg _)
                (by simp only [refsOf, getD_lt hr']; rw [lim_eq]; omega) hs2 (by simp only [List.length_append, List.length_singleton]; have := hs2.le; simp only [List.length_append, List.length_singleton] at this; omega)
              simp only [e2, Bool.not_false, cond_true, hr', decide_true, mset_fresh h2]
              simp only [refsOf] at e3
              rw [e3]
              exact go s3 (hD.go h0 h1 h2 h3)
        · simp only [ge_iff_le, h0, decide_false, cond_false]
          exact go s1 (hD.skip fun h => absurd h h0)
    obtain ⟨s', e, h⟩ := key l.length N 0 s (by omega) (by omega) (by simpa using Dfs.nil hs)
    simp only [Int.natCast_zero] at e
    exact ⟨s', by simp [FiGraph_from_1_iGraph_from_1, e], h⟩

theorem iGraph_from_ok {g : Gr} (hg : okG g = true) {l : List Int} (hl : ∀ x ∈ l, x < (g.1.length : Int)) (hlen : l.length ≤ lim) (skip : Int) :
    ∃ s, FiGraph_from N (g, l, skip, ()) = some (s, ()) ∧ Seen g.1.length s ∧ ∀ k, k ∈ keys s ↔ Rch (refsOf g) skip l k := by
  have h0 : Seen g.1.length [] := ⟨by simp, by simp, by simp⟩
  have := (okG_iff.1 hg).1
  obtain ⟨s, e, h⟩ := dfs_ok hN hg (skip := skip) N hl hlen h0 (by rw [lim_eq] at hN; simp; omega)
  exact ⟨s, by simp [FiGraph_from, e], h.ok, h.all⟩
end

section
variable {N : Nat} (hN : lim < N)
include hN

theorem leads_ok {g : Gr} {xs : List Int} {low : Int} (hl : xs.length ≤ lim) :
    FiGraph_leads N (g, xs, low, ()) = some (xs.all fun x => decide (low ≤ x) && decide (x < (g.1.length : Int)), ()) := by
  have hL := find_loop (xs := xs) (n := N) (fun x => decide (x < low) || decide (x ≥ (g.1.length : Int))) (L := fun n i => lkIndexFunc_Sint_int_iGraph_leads_1_0 N n (xs, low, g, (xs.length : Int), (i : Int), ()))
    (yes := fun i => .inr ((i : Int), ())) (no := .inl ()) hl
    (fun n i h hw hq => by
      simp at hq
      simp [lkIndexFunc_Sint_int_iGraph_leads_1_0, FiGraph_leads_1, h, hw, Int.not_lt.2 hq.1, Int.not_le.2 hq.2])
    (fun n i h hq => by
      by_cases h1 : xs[i] < low
      · simp [lkIndexFunc_Sint_int_iGraph_leads_1_0, FiGraph_leads_1, h, h1]
      · simp [h1] at hq
        simp [lkIndexFunc_Sint_int_iGraph_leads_1_0, FiGraph_leads_1, h, h1, hq])
    (fun n => by simp [lkIndexFunc_Sint_int_iGraph_leads_1_0]) (by omega)
  simp only [Int.natCast_zero] at hL
  simp only [FiGraph_leads, FkContainsFunc_Sint_int_iGraph_leads_1, FkIndexFunc_Sint_int_iGraph_leads_1, hL]
  cases hf : xs.findIdx? (fun x => decide (x < low) || decide (x ≥ (g.1.length : Int))) with
  | none =>
    have : (xs.all fun x => decide (low ≤ x) && decide (x < (g.1.length : Int))) = true := by
      rw [List.findIdx?_eq_none_iff] at hf
      rw [List.all_eq_true]
      intro x hx
      have := hf x hx
      simp at this ⊢
      omega
    simp [this]
  | some i =>
    have : (xs.all fun x => decide (low ≤ x) && decide (x < (g.1.length : Int))) = false := by
      rw [List.findIdx?_eq_some_iff_getElem] at hf
      obtain ⟨h, h1, _⟩ := hf
      rw [List.all_eq_false]
      refine ⟨_, List.getElem_mem h, ?_⟩
      simp at h1 ⊢
      omega
    simp [this]

theorem leads1_ok {g : Gr} {xs : List Int} (hl : xs.length ≤ lim) : FiGraph_leads N (g, xs, -1, ()) = some (okR g.1.length xs, ()) := leads_ok hN hl

theorem iGraphOk_ok {g : Gr} (hs : smG g) : FiGraphOk N (g, ()) = some (okG g, ()) := by
  obtain ⟨a1, a2, a3, a4, a5⟩ := hs
  have h1 := all_loop (xs := g.1) (n := N) (okN g.1.length) (L := fun n i => liGraphOk_0 N n (g, g.1, (g.1.length : Int), (i : Int), ())) (yes := .inl (g, ())) (no := .inr (false, ())) (sm_lim a1)
    (fun n i h hw hq => by
      simp [okN] at hq
      simp [liGraphOk_0, h, hw, leads1_ok hN (sm_lim (a2 _ (List.getElem_mem h)).1), hq, Nat.not_lt.2 hq.1, Nat.not_lt.2 hq.2.1]
      )
    (fun n i h hq => by
      simp only [liGraphOk_0, leads1_ok hN (sm_lim (a2 _ (List.getElem_mem h)).1), getD_lt h, Int.toNat_natCast]
      simp only [okN] at hq
      by_cases h1 : g.1[i].1.length ≤ 4 <;> by_cases h2 : g.1[i].2.1.length ≤ 4 <;> simp_all)
    (fun n => by simp [liGraphOk_0]) (by have := sm_lim a1; omega)
  have h2 := all_loop (xs := g.2.1) (n := N) (fun r => decide (r.length ≤ 8) && okR g.1.length r) (L := fun n i => liGraphOk_2 N n (g, g.2.1, (g.2.1.length : Int), (i : Int), ())) (yes := .inl ()) (no := .inr (false, ())) (sm_lim a3)
    (fun n i h hw hq => by
      simp at hq
      simp [liGraphOk_2, h, hw, leads1_ok hN (sm_lim (a4 _ (List.getElem_mem h))), hq, Nat.not_lt.2 hq.1])
    (fun n i h hq => by
      simp only [liGraphOk_2, leads1_ok hN (sm_lim (a4 _ (List.getElem_mem h))), getD_lt h, Int.toNat_natCast]
      by_cases h1 : g.2.1[i].length ≤ 8 <;> simp_all)
    (fun n => by simp [liGraphOk_2]) (by have := sm_lim a3; omega)
  simp only [Int.natCast_zero] at h1 h2
  simp only [FiGraphOk, okG]
  have hp : (g.2.2.1.all (fun x => decide (0 ≤ x)) && okR g.1.length g.2.2.1) = g.2.2.1.all fun x => decide (0 ≤ x) && decide (x < (g.1.length : Int)) := by
    rw [Bool.eq_iff_iff]
    simp only [okR, Bool.and_eq_true, List.all_eq_true, decide_eq_true_eq]
    constructor
    · rintro ⟨h1, h2⟩ x hx; exact ⟨h1 x hx, (h2 x hx).2⟩
    · intro h; exact ⟨fun x hx => (h x hx).1, fun x hx => ⟨by have := (h x hx).1; omega, (h x hx).2⟩⟩
  rw [hp]
  by_cases b1 : g.1.length ≤ 200
  · by_cases b2 : 1 ≤ g.2.1.length
    · by_cases b3 : g.2.1.length ≤ 3
      · by_cases b4 : g.2.2.1.length ≤ 8
        · simp only [gt_iff_lt, lit_lt200, lt_lit1, lit_lt3, lit_lt8, Nat.not_lt.2 b1, Nat.not_lt.2 b2, Nat.not_lt.2 b3, Nat.not_lt.2 b4, b1, b2, b3, b4, decide_true, decide_false, cond_false, Option.bind_some, leads_ok hN (sm_lim a5), bif_neg]
          cases g.2.2.1.all fun x => decide (0 ≤ x) && decide (x < (g.1.length : Int))
          · simp
          · simp only [cond_true, Option.bind_some, Sum.elim_inl, h1]
            cases g.1.all (okN g.1.length)
            · simp
            · simp only [cond_true, Option.bind_some, Sum.elim_inl, h2]
              cases g.2.1.all fun r => decide (r.length ≤ 8) && okR g.1.length r <;> simp
        · simp [Nat.not_lt.2 b1, Nat.not_lt.2 b2, Nat.not_lt.2 b3, Nat.not_le.1 b4, b4]
      · simp [Nat.not_lt.2 b1, Nat.not_lt.2 b2, Nat.not_le.1 b3, b3]
    · simp [Nat.not_lt.2 b1, Nat.not_le.1 b2, b2]
  · simp [Nat.not_le.1 b1, b1]

end

section
variable {N : Nat} (hN : lim < N)
include hN

theorem rings_i {g : Gr} (h : okG g = true) : liPathLoops_0 N N (g, g.1, (g.1.length : Int), 0, [], ()) = some (rings g, ()) := by
  have hg := okG_iff.1 h
  have e := (fold_loop (xs := upto g.1.length) (n := N) (fun s x => if ringB g x = true then s ++ [x] else s) (fun i s => s.length ≤ i) (L := fun n i s => liPathLoops_0 N n (g, g.1, (g.1.length : Int), (i : Int), s, ())) (fin := fun s => (s, ()))
    (by rw [lim_eq, upto_len]; omega)
    (fun n i s hi hw hI => by
      have hi' : i < g.1.length := by simpa [upto_len] using hi
      have hlim : s.length + 1 ≤ lim := by rw [lim_eq]; omega
      have hnd := hg.2.2.2.1 _ (List.getElem_mem hi')
      have hrf : refsOf g i = g.1[i].1 := by simp only [refsOf, Int.toNat_natCast, getD_lt hi']
      obtain ⟨s', e, h1, h2⟩ := iGraph_from_ok hN h (l := g.1[i].1) (fun x hx => (okR_iff.1 hnd.2.2 x hx).2) (by rw [lim_eq]; omega) (-1)
      have h4 : (mget s' i).getD false = ringB g i := by rw [Bool.eq_iff_iff, mget_keys h1.tr, ringB_iff, h2, hrf]
      rw [upto_get hi]
      simp only [liPathLoops_0, Int.ofNat_lt, hi', decide_true, cond_true, getD_lt hi', e, Option.bind_some, Int.natCast_nonneg, Int.toNat_natCast, h4, hw, List.length_cons, List.length_nil, Nat.zero_add, hlim]
      cases hq : ringB g i with
      | true => exact ⟨rfl, by simp; omega⟩
      | false => exact ⟨rfl, by simp; omega⟩)
    (fun n s hI => by simp [liPathLoops_0, upto_len]) (by rw [lim_eq] at hN; rw [upto_len]; omega) (s := []) (by simp)).1
  rw [foldl_filter] at e
  simpa [rings] using e

theorem iPathLoops_ok {g : Gr} (hs : smG g) : FiPathLoops N (g, ()) = some (if okG g = true then rings g else [], ()) := by
  cases h : okG g with
  | false => simp [FiPathLoops, iGraphOk_ok hN hs, h]
  | true => simp [FiPathLoops, iGraphOk_ok hN hs, h, rings_i hN h]
end

section
variable {N : Nat} (hN : lim < N)
include hN

omit hN in
theorem shared_s2 {g : Gr} {j : Int} {o : List Bool} (ho : o.length ≤ 200) : ∀ (d n i : Nat) {c : List Int}, c.length = o.length → (∀ k, i ≤ k → 0 ≤ c.getD k 0 ∧ c.getD k 0 ≤ 1000) → i + d = o.length → d < n →
    lsPathShared_2 N n (g, j, (i : Int), c, o, ()) = some (g, j, bump c (fun k => decide (i ≤ k) && o.getD k false), ())
  | 0, n, i, c, hc, hb, hi, hn => by
    obtain ⟨n, rfl⟩ : ∃ k, n = k + 1 := ⟨n - 1, by omega⟩
    have : ¬ (i : Int) < o.length := by omega
    have e : bump c (fun k => decide (i ≤ k) && o.getD k false) = c := bump_none fun k hk => by
      have : ¬ i ≤ k := by omega
      simp [this]
    rw [e]
    simp [lsPathShared_2, this]
  | d + 1, n, i, c, hc, hb, hi, hn => by
    obtain ⟨n, rfl⟩ : ∃ k, n = k + 1 := ⟨n - 1, by omega⟩
    have h1 : i < o.length := by omega
    have h2 : i < c.length := by omega
    have hw : w64 ((i : Int) + 1) = ((i + 1 : Nat) : Int) := w64_succ (by omega)
    simp only [lsPathShared_2, Int.ofNat_lt, h1, h2, decide_true, cond_true, Int.natCast_nonneg, Int.toNat_natCast, hw]
    cases ho' : o.getD i false with
    | false =>
      simp only [cond_false]
      rw [shared_s2 ho d n (i + 1) hc (fun k hk => hb k (by omega)) (by omega) (by omega), bump_congr (q := fun k => decide (i ≤ k) && o.getD k false)]
      intro k _
      by_cases e : k = i
      · subst e; simp only [ho', Bool.and_false]
      · have : (decide (i + 1 ≤ k)) = decide (i ≤ k) := by simp only [decide_eq_decide]; omega
        simp only [this]
    | true =>
      have h3 := hb i (Nat.le_refl _)
      have hw2 : w64 (c.getD i 0 + 1) = c.getD i 0 + 1 := w64_id (by omega) (by omega)
      simp only [cond_true, hw2]
      rw [shared_s2 ho d n (i + 1) (by simpa using hc) (fun k hk => by
        have : (c.set i (c.getD i 0 + 1)).getD k 0 = c.getD k 0 := by
          simp only [List.getD_eq_getElem?_getD, List.getElem?_set]
          rw [if_neg (by omega)]
        rw [this]; exact hb k (by omega)) (by omega) (by omega)]
      rw [bump_set (p := fun k => decide (i ≤ k) && o.getD k false) h2 (by simp only [ho', Nat.le_refl, decide_true, Bool.true_and]) (by simp only [Nat.not_succ_le_self, decide_false, Bool.false_and]) (fun j hj => by
        have : (decide (i + 1 ≤ j)) = decide (i ≤ j) := by simp only [decide_eq_decide]; omega
        simp only [this])]

theorem shared_fold {g : Gr} (h : okG g = true) : lsPathShared_0 N N (g, 0, List.replicate g.1.length 0, ()) = some (counts g, ()) := by
  have hg := okG_iff.1 h
  have e := (fold_loop (xs := g.2.1) (n := N) (fun c l => bump c (isRch g l)) (fun i c => Cnt g.1.length i c) (L := fun n i c => lsPathShared_0 N n (g, (i : Int), c, ())) (fin := fun c => (c, ()))
    (by rw [lim_eq]; omega)
    (fun n i c hi hw hI => by
      have hone := okG_root h (List.getElem_mem hi)
      have hs := okG_small hN hone
      have ho : (reachL (g.1, [g.2.1[i]], [], ())).length = g.1.length := reachL_len _
      have hin := shared_s2 (N := N) (g := g) (j := (i : Int)) (o := reachL (g.1, [g.2.1[i]], [], ())) (by omega) g.1.length N 0 (c := c) (by rw [hI.len, ho])
        (fun k _ => ⟨hI.lo k, by have := hI.hi k; omega⟩) (by omega) (by rw [lim_eq] at hN; omega)
      simp only [Int.natCast_zero, Nat.zero_le, decide_true, Bool.true_and] at hin
      have hin' : lsPathShared_2 N N (g, (i : Int), 0, c, reachL (g.1, [g.2.1[i]], [], ()), ()) = some (g, (i : Int), bump c (isRch g g.2.1[i]), ()) := hin
      refine ⟨?_, hI.bump _⟩
      simp [lsPathShared_0, hi, hw, sl5Copy_ok hN (okG_small hN h), sGraphReach_ok hN hs, hone, hin'])
    (fun n c hI => by simp [lsPathShared_0]) (by rw [lim_eq] at hN; omega) (Cnt.zero _)).1
  simpa [counts] using e

theorem shared_last {g : Gr} (h : okG g = true) : lsPathShared_4 N N (0, counts g, [], ()) = some (shared g, ()) := by
  have hg := okG_iff.1 h
  have hc := counts_cnt h
  have e := (fold_loop (xs := upto g.1.length) (n := N) (pushIf (counts g)) (fun i s => s.length ≤ i) (L := fun n i s => lsPathShared_4 N n ((i : Int), counts g, s, ())) (fin := fun s => (s, ()))
    (by rw [lim_eq, upto_len]; omega)
    (fun n i s hi hw hI => by
      have hi' : i < (counts g).length := by rw [hc.len]; simpa [upto_len] using hi
      have hlim : s.length + 1 ≤ lim := by rw [lim_eq]; rw [upto_len] at hi; omega
      rw [upto_get hi]
      by_cases hq : (counts g)[i] > 1
      · refine ⟨by simp [lsPathShared_4, hi', hw, hq, hlim, pushIf], by have := pushIf_one (c := counts g) (s := s) (x := (i : Int)); omega⟩
      · refine ⟨by simp [lsPathShared_4, hi', hw, hq, pushIf], by have := pushIf_one (c := counts g) (s := s) (x := (i : Int)); omega⟩)
    (fun n s hI => by simp [lsPathShared_4, upto_len, hc.len]) (by rw [lim_eq] at hN; rw [upto_len]; omega) (s := []) (by simp)).1
  simpa [shared] using e

theorem sPathShared_ok {g : Gr} (hs : smG g) : FsPathShared N (g, ()) = some (if okG g = true then shared g else [], ()) := by
  cases h : okG g with
  | false => simp [FsPathShared, sGraphOk_ok hN hs, h]
  | true =>
    have hl := sm_lim hs.1
    simp [FsPathShared, sGraphOk_ok hN hs, h, hl, shared_fold hN h, shared_last hN h]
end

theorem all_erase {α : Type} {q : α → Bool} : ∀ {l : List α} {i : Nat} (h : i < l.length), l.all q = (q l[i] && (l.eraseIdx i).all q)
  | [], _, h => absurd h (Nat.not_lt_zero _)
  | x :: l, 0, _ => by simp
  | x :: l, i + 1, h => by
    have hi : i < l.length := by simpa using h
    have := all_erase (q := q) (l := l) (i := i) hi
    simp only [List.all_cons, List.getElem_cons_succ, List.eraseIdx_cons_succ, this]
    cases q x <;> cases q l[i] <;> rfl
/-- Going over a map, in whatever order. -/
theorem anyall_loop {α ρ : Type} {P : α → Prop} (q : α → Bool) {L : Nat → List α → Option ρ} {yes no : ρ} (h0 : ∀ n, L (n + 1) [] = some yes)
    (h1 : ∀ n rest, rest ≠ [] → (∀ x ∈ rest, P x) → ∃ f, L (n + 1) rest = anyOf rest.length f ∧ ∀ i (h : i < rest.length), (q rest[i] = true → f i = L n (rest.eraseIdx i)) ∧ (q rest[i] = false → f i = some no)) :
    ∀ (n : Nat) (rest : List α), rest.length < n → (∀ x ∈ rest, P x) → L n rest = some (if rest.all q = true then yes else no)
  | 0, _, h, _ => absurd h (Nat.not_lt_zero _)
  | n + 1, rest, h, hP => by
    by_cases he : rest = []
    · subst he; rw [h0]; simp
    · obtain ⟨f, e, hf⟩ := h1 n rest he hP
      rw [e]
      have hpos : 0 < rest.length := List.length_pos_iff.2 he
      refine anyOf_eq hpos fun i hi => ?_
      obtain ⟨f1, f2⟩ := hf i hi
      rw [all_erase hi]
      cases hq : q rest[i] with
      | false => rw [f2 hq]; simp
      | true =>
        rw [f1 hq, anyall_loop q h0 h1 n (rest.eraseIdx i) (by rw [List.length_eraseIdx_of_lt hi]; omega) (fun x hx => hP x (List.mem_of_mem_eraseIdx hx))]
        simp
theorem find_of_idx {α : Type} {p : α → Bool} : ∀ {l : List α}, l.find? p = (l.findIdx? p).bind fun i => l[i]?
  | [] => by simp
  | x :: l => by
    have ih := find_of_idx (p := p) (l := l)
    simp only [List.find?_cons, List.findIdx?_cons]
    cases hx : p x with
    | true => simp
    | false =>
      simp only [ih]
      cases l.findIdx? p <;> simp

section
variable {N : Nat} (hN : lim < N)
include hN

omit hN in
theorem keys_eraseIdx : ∀ {s : Sn} {i : Nat}, keys (s.eraseIdx i) = (keys s).eraseIdx i
  | [], _ => rfl
  | _ :: _, 0 => rfl
  | x :: s, i + 1 => by
    have := keys_eraseIdx (s := s) (i := i)
    simp only [keys, List.eraseIdx_cons_succ, List.map_cons] at this ⊢
    rw [this]

omit hN in
theorem mem_erase_nd {α : Type} {k : α} : ∀ {l : List α} {i : Nat}, l.Nodup → (h : i < l.length) → (k ∈ l.eraseIdx i ↔ k ∈ l ∧ k ≠ l[i])
  | [], _, _, h => absurd h (Nat.not_lt_zero _)
  | x :: l, 0, hn, _ => by
    have := (List.nodup_cons.1 hn).1
    simp only [List.eraseIdx_cons_zero, List.mem_cons, List.getElem_cons_zero]
    constructor
    · intro h; exact ⟨.inr h, fun e => this (e ▸ h)⟩
    · rintro ⟨h | h, h2⟩
      · exact absurd h h2
      · exact h
  | x :: l, i + 1, hn, h => by
    have h1 := List.nodup_cons.1 hn
    have hi : i < l.length := by simpa using h
    have ih := mem_erase_nd (k := k) h1.2 hi
    simp only [List.eraseIdx_cons_succ, List.mem_cons, List.getElem_cons_succ, ih]
    constructor
    · rintro (rfl | h2)
      · exact ⟨.inl rfl, fun e => h1.1 (by rw [e]; exact List.getElem_mem hi)⟩
      · exact ⟨.inr h2.1, h2.2⟩
    · rintro ⟨h2 | h2, h3⟩
      · exact .inl h2
      · exact .inr ⟨h2, h3⟩

omit hN in
theorem keys_erase {s : Sn} (hn : (keys s).Nodup) {i : Nat} (h : i < s.length) (k : Int) : k ∈ keys (s.eraseIdx i) ↔ k ∈ keys s ∧ k ≠ s[i].1 := by
  rw [keys_eraseIdx, mem_erase_nd hn (by simpa using h)]
  simp

omit hN in
theorem shared_i2 {g : Gr} {R : List (List Int)} {j k : Int} : ∀ (n : Nat) (s : Sn) {c : List Int}, (keys s).Nodup → (∀ x ∈ keys s, 0 ≤ x ∧ x < (c.length : Int)) → (∀ x : Nat, (x : Int) ∈ keys s → 0 ≤ c.getD x 0 ∧ c.getD x 0 ≤ 1000) → s.length < n →
    liPathShared_2 N n (g, R, j, k, c, s, ()) = some (g, R, j, k, bump c (fun x => decide ((x : Int) ∈ keys s)), ())
  | 0, _, _, _, _, _, h => absurd h (Nat.not_lt_zero _)
  | n + 1, s, c, hn, hr, hb, hlen => by
    by_cases he : s = []
    · subst he
      rw [bump_none (by simp)]
      simp [liPathShared_2]
    · have hpos : 0 < s.length := List.length_pos_iff.2 he
      have he' : s.isEmpty = false := by simp [he]
      simp only [liPathShared_2, he', cond_false]
      refine anyOf_eq hpos fun i hi => ?_
      have hm : s[i].1 ∈ keys s := List.mem_map.2 ⟨_, List.getElem_mem hi, rfl⟩
      have h1 := hr _ hm
      have h2 : s[i].1.toNat < c.length := by omega
      have h3 : ((s[i].1.toNat : Nat) : Int) = s[i].1 := by omega
      have h4 := hb s[i].1.toNat (by rw [h3]; exact hm)
      have hw2 : w64 (c.getD s[i].1.toNat 0 + 1) = c.getD s[i].1.toNat 0 + 1 := w64_id (by omega) (by omega)
      have ih := shared_i2 (g := g) (R := R) (j := j) (k := k) n (s.eraseIdx i) (c := c.set s[i].1.toNat (c.getD s[i].1.toNat 0 + 1)) (by rw [keys_eraseIdx]; exact hn.eraseIdx i) (fun x hx => by simpa using hr x ((keys_erase hn hi x).1 hx).1)
        (fun x hx => by
          have h5 := (keys_erase hn hi _).1 hx
          have h6 : s[i].1.toNat ≠ x := fun e => h5.2 (by omega)
          have : (c.set s[i].1.toNat (c.getD s[i].1.toNat 0 + 1)).getD x 0 = c.getD x 0 := by
            simp only [List.getD_eq_getElem?_getD, List.getElem?_set, if_neg h6]
          rw [this]; exact hb x h5.1) (by rw [List.length_eraseIdx_of_lt hi]; omega)
      rw [bump_set (p := fun x => decide ((x : Int) ∈ keys s)) h2 (by simp only [h3]; simpa using hm) (by
          simp only [h3, decide_eq_false_iff_not]
          exact fun h => ((keys_erase hn hi _).1 h).2 rfl) (fun x hx => by
          simp only [decide_eq_decide]
          rw [keys_erase hn hi]
          exact ⟨fun h => ⟨h, fun e => hx (by omega)⟩, fun h => h.1⟩)] at ih
      simp only [getD_lt hi, h1.1, h2, decide_true, cond_true, hw2]
      exact ih

theorem shared_ifold {g : Gr} (h : okG g = true) : liPathShared_0 N N (g, g.2.1, (g.2.1.length : Int), 0, List.replicate g.1.length 0, ()) = some (counts g, ()) := by
  have hg := okG_iff.1 h
  have e := (fold_loop (xs := g.2.1) (n := N) (fun c l => bump c (isRch g l)) (fun i c => Cnt g.1.length i c) (L := fun n i c => liPathShared_0 N n (g, g.2.1, (g.2.1.length : Int), (i : Int), c, ())) (fin := fun c => (c, ()))
    (by rw [lim_eq]; omega)
    (fun n i c hi hw hI => by
      have hone := okG_root h (List.getElem_mem hi)
      have hroot := (okG_iff.1 h).2.2.2.2.1 _ (List.getElem_mem hi)
      obtain ⟨s, e, h1, h2⟩ := iGraph_from_ok hN h (l := g.2.1[i]) (fun x hx => (okR_iff.1 hroot.2 x hx).2) (by rw [lim_eq]; omega) (-1)
      have hin := shared_i2 (N := N) (g := g) (R := g.2.1) (j := (g.2.1.length : Int)) (k := (i : Int)) N s (c := c) h1.nd (fun x hx => by rw [hI.len]; exact h1.rng x hx)
        (fun x _ => ⟨hI.lo x, by have := hI.hi x; omega⟩) (by have := h1.le; rw [lim_eq] at hN; omega)
      rw [bump_congr (q := isRch g g.2.1[i])] at hin
      · refine ⟨?_, hI.bump _⟩
        simp [liPathShared_0, hi, hw, e, hin]
      · intro k _
        rw [Bool.eq_iff_iff, isRch_iff hone, decide_eq_true_eq, h2])
    (fun n c hI => by simp [liPathShared_0]) (by rw [lim_eq] at hN; omega) (Cnt.zero _)).1
  simpa [counts] using e

theorem shared_ilast {g : Gr} (h : okG g = true) : liPathShared_4 N N (((counts g).length : Int), 0, [], counts g, ()) = some (shared g, ()) := by
  have hg := okG_iff.1 h
  have hc := counts_cnt h
  have e := (fold_loop (xs := upto g.1.length) (n := N) (pushIf (counts g)) (fun i s => s.length ≤ i) (L := fun n i s => liPathShared_4 N n (((counts g).length : Int), (i : Int), s, counts g, ())) (fin := fun s => (s, ()))
    (by rw [lim_eq, upto_len]; omega)
    (fun n i s hi hw hI => by
      have hi' : i < (counts g).length := by rw [hc.len]; simpa [upto_len] using hi
      have hlim : s.length + 1 ≤ lim := by rw [lim_eq]; rw [upto_len] at hi; omega
      rw [upto_get hi]
      by_cases hq : (counts g)[i] > 1
      · refine ⟨by simp [liPathShared_4, hi', hw, hq, hlim, pushIf], by have := pushIf_one (c := counts g) (s := s) (x := (i : Int)); omega⟩
      · refine ⟨by simp [liPathShared_4, hi', hw, hq, pushIf], by have := pushIf_one (c := counts g) (s := s) (x := (i : Int)); omega⟩)
    (fun n s hI => by simp [liPathShared_4, upto_len, hc.len]) (by rw [lim_eq] at hN; rw [upto_len]; omega) (s := []) (by simp)).1
  simpa [shared] using e

theorem iPathShared_ok {g : Gr} (hs : smG g) : FiPathShared N (g, ()) = some (if okG g = true then shared g else [], ()) := by
  cases h : okG g with
  | false => simp [FiPathShared, iGraphOk_ok hN hs, h]
  | true =>
    have hl := sm_lim hs.1
    simp [FiPathShared, iGraphOk_ok hN hs, h, hl, shared_ifold hN h, shared_ilast hN h]
end

section
variable {N : Nat} (hN : lim < N)
include hN

theorem sDrawPathLoops_ok {code : List Int} (hb : ∀ x ∈ code, 0 ≤ x ∧ x < 256) : ∃ g, FsDrawPathLoops N (code, ()) = some g ∧ smG g := by
  obtain ⟨b, e, hb'⟩ := sl1Open_ok hN hb
  obtain ⟨r, e2, h2⟩ := l20Graph_ok hN hb' (p := 0) (by omega) (by omega)
  exact ⟨(r.1, r.2.1, r.2.2.1, ()), by simp [FsDrawPathLoops, e, e2], h2.1⟩

theorem rings_in {g : Gr} (h : okG g = true) {lo sh : List Int} (hlo : lo.length ≤ lim) (hr : ∀ x ∈ lo, 0 ≤ x ∧ x < (g.1.length : Int)) {i : Nat} (hi : i < lo.length) (b : Bool) :
    lvFnPathRings_2 N N ((i : Int), b, 0, g.1, g.2.1, g.2.2.1, lo, sh, ()) = some ((i : Int), b || (refsOf g lo[i]).any (fun r => lo.any (· == r)), g.1, g.2.1, g.2.2.1, lo, sh, ()) := by
  have hg := okG_iff.1 h
  have hr1 := hr _ (List.getElem_mem hi)
  have hk : lo[i].toNat < g.1.length := by omega
  have hnd := hg.2.2.2.1 _ (List.getElem_mem hk)
  have hrf : refsOf g lo[i] = g.1[lo[i].toNat].1 := by simp only [refsOf, getD_lt hk]
  have fold_any : ∀ (p : Int → Bool) (xs : List Int) (b : Bool), xs.foldl (fun b x => b || p x) b = (b || xs.any p) := by
    intro p xs
    induction xs with
    | nil => intro b; simp
    | cons x xs ih => intro b; rw [List.foldl_cons, ih, List.any_cons, Bool.or_assoc]
  have inner : ∀ (k : Nat) (hk2 : k < g.1[lo[i].toNat].1.length) (b : Bool), lvFnPathRings_4 N N ((i : Int), b, (k : Int), 0, g.1, g.2.1, g.2.2.1, lo, sh, ()) =
      some ((i : Int), b || lo.any (· == g.1[lo[i].toNat].1[k]), (k : Int), g.1, g.2.1, g.2.2.1, lo, sh, ()) := by
    intro k hk2 b
    have e := (fold_loop (xs := lo) (n := N) (fun b x => b || x == g.1[lo[i].toNat].1[k]) (fun _ _ => True) (L := fun n j b => lvFnPathRings_4 N n ((i : Int), b, (k : Int), (j : Int), g.1, g.2.1, g.2.2.1, lo, sh, ()))
      (fin := fun b => ((i : Int), b, (k : Int), g.1, g.2.1, g.2.2.1, lo, sh, ())) hlo
      (fun n j b hj hw _ => by
        refine ⟨?_, trivial⟩
        cases b with
        | true => simp only [lvFnPathRings_4, Int.ofNat_lt, hj, decide_true, cond_true, hw, Bool.true_or]
        | false => simp only [lvFnPathRings_4, Int.ofNat_lt, hj, hi, hk, hk2, decide_true, cond_true, cond_false, hw, Bool.false_or, Int.natCast_nonneg, Int.toNat_natCast, getD_lt hj, getD_lt hi, getD_lt hk, getD_lt hk2, hr1.1])
      (fun n b _ => by simp [lvFnPathRings_4]) (by omega) (s := b) trivial).1
    rw [fold_any (fun x => x == g.1[lo[i].toNat].1[k])] at e
    simpa only [Int.natCast_zero] using e
  have e := (fold_loop (xs := g.1[lo[i].toNat].1) (n := N) (fun b r => b || lo.any (· == r)) (fun _ _ => True) (L := fun n k b => lvFnPathRings_2 N n ((i : Int), b, (k : Int), g.1, g.2.1, g.2.2.1, lo, sh, ()))
      (fin := fun b => ((i : Int), b, g.1, g.2.1, g.2.2.1, lo, sh, ())) (by rw [lim_eq]; omega)
      (fun n k b hk2 hw _ => by
        refine ⟨?_, trivial⟩
        simp only [lvFnPathRings_2, Int.ofNat_lt, hi, hk, hk2, decide_true, cond_true, hw, Int.natCast_nonneg, Int.toNat_natCast, getD_lt hi, getD_lt hk, hr1.1, inner k hk2, Option.bind_some])
      (fun n b _ => by simp [lvFnPathRings_2, hi, hk, hr1.1]) (by rw [lim_eq] at hN; omega) (s := b) trivial).1
  rw [fold_any (fun r => lo.any (· == r)), ← hrf] at e
  simpa only [Int.natCast_zero] using e

theorem shared_in {g : Gr} (h : okG g = true) {sh : List Int} (hlo : sh.length ≤ lim) (hr : ∀ x ∈ sh, 0 ≤ x ∧ x < (g.1.length : Int)) {i : Nat} (hi : i < sh.length) :
    lvFnPathRings_8 N N ((i : Int), 0, g.1, g.2.1, g.2.2.1, sh, ()) = some (bif (refsOf g sh[i]).all (fun r => decide (r < 0) || sh.any (· == r)) then .inl ((i : Int), g.1, g.2.1, g.2.2.1, sh, ()) else .inr (false, ())) := by
  have hg := okG_iff.1 h
  have hr1 := hr _ (List.getElem_mem hi)
  have hk : sh[i].toNat < g.1.length := by omega
  have hnd := hg.2.2.2.1 _ (List.getElem_mem hk)
  have hrf : refsOf g sh[i] = g.1[sh[i].toNat].1 := by simp only [refsOf, getD_lt hk]
  have fold_any : ∀ (p : Int → Bool) (xs : List Int) (b : Bool), xs.foldl (fun b x => b || p x) b = (b || xs.any p) := by
    intro p xs
    induction xs with
    | nil => intro b; simp
    | cons x xs ih => intro b; rw [List.foldl_cons, ih, List.any_cons, Bool.or_assoc]
  have inner : ∀ (k : Int) (t : Int) (b : Bool), lvFnPathRings_10 N N ((i : Int), k, t, b, 0, g.1, g.2.1, g.2.2.1, sh, ()) = some ((i : Int), k, b || sh.any (· == t), g.1, g.2.1, g.2.2.1, sh, ()) := by
    intro k t b
    have e := (fold_loop (xs := sh) (n := N) (fun b x => b || x == t) (fun _ _ => True) (L := fun n j b => lvFnPathRings_10 N n ((i : Int), k, t, b, (j : Int), g.1, g.2.1, g.2.2.1, sh, ()))
      (fin := fun b => ((i : Int), k, b, g.1, g.2.1, g.2.2.1, sh, ())) hlo
      (fun n j b hj hw _ => by
        refine ⟨?_, trivial⟩
        cases b with
        | true => simp only [lvFnPathRings_10, Int.ofNat_lt, hj, decide_true, cond_true, hw, Bool.true_or]
        | false => simp only [lvFnPathRings_10, Int.ofNat_lt, hj, decide_true, cond_true, cond_false, hw, Bool.false_or, Int.natCast_nonneg, Int.toNat_natCast, getD_lt hj])
      (fun n b _ => by simp [lvFnPathRings_10]) (by omega) (s := b) trivial).1
    rw [fold_any (fun x => x == t)] at e
    simpa only [Int.natCast_zero] using e
  have e := all_loop (xs := g.1[sh[i].toNat].1) (n := N) (fun r => decide (r < 0) || sh.any (· == r)) (L := fun n k => lvFnPathRings_8 N n ((i : Int), (k : Int), g.1, g.2.1, g.2.2.1, sh, ()))
      (yes := .inl ((i : Int), g.1, g.2.1, g.2.2.1, sh, ())) (no := .inr (false, ())) (by rw [lim_eq]; omega)
      (fun n k hk2 hw hq => by
        simp only [lvFnPathRings_8, Int.ofNat_lt, hi, hk, hk2, decide_true, cond_true, hw, Int.natCast_nonneg, Int.toNat_natCast, getD_lt hi, getD_lt hk, getD_lt hk2, hr1.1, inner, hq, Option.bind_some, Bool.not_true, cond_false])
      (fun n k hk2 hq => by
        simp only [lvFnPathRings_8, Int.ofNat_lt, hi, hk, hk2, decide_true, cond_true, Int.natCast_nonneg, Int.toNat_natCast, getD_lt hi, getD_lt hk, getD_lt hk2, hr1.1, inner, hq, Option.bind_some, Bool.not_false])
      (fun n => by simp [lvFnPathRings_8, hi, hk, hr1.1]) (by rw [lim_eq] at hN; omega)
  rw [← hrf] at e
  simpa only [Int.natCast_zero] using e

theorem FnPathRings_ok {code : List Int} (hb : ∀ x ∈ code, 0 ≤ x ∧ x < 256) : FvFnPathRings N (code, ()) = some (true, ()) := by
  by_cases hc : (code.length : Int) > 1048576
  · simp [FvFnPathRings, hc]
  · obtain ⟨g, e, hs⟩ := sDrawPathLoops_ok hN hb
    obtain ⟨ns, rs, ps, ⟨⟩⟩ := g
    cases h : okG (ns, rs, ps, ()) with
    | false =>
      obtain ⟨m, rfl⟩ : ∃ m, N = m + 1 := ⟨N - 1, by omega⟩
      simp [FvFnPathRings, hc, e, iPathLoops_ok hN hs, iPathShared_ok hN hs, sPathLoops_ok hN hs, sPathShared_ok hN hs, h, vflInts_ok hN, lvFnPathRings_0, lvFnPathRings_6]
    | true =>
      have hn := (okG_iff.1 h).1
      dsimp only at hn
      have hlo : (rings (ns, rs, ps, ())).length ≤ lim := by have := upto_filter_len (n := ns.length) (p := ringB (ns, rs, ps, ())); simp only [rings]; rw [lim_eq]; omega
      have hsh : (shared (ns, rs, ps, ())).length ≤ lim := by have := shared_len (ns, rs, ps, ()); dsimp only at this; rw [lim_eq]; omega
      have r1 : ∀ x ∈ rings (ns, rs, ps, ()), 0 ≤ x ∧ x < (ns.length : Int) := fun x hx => mem_upto.1 (List.mem_filter.1 hx).1
      have r2 : ∀ x ∈ shared (ns, rs, ps, ()), 0 ≤ x ∧ x < (ns.length : Int) := fun x hx => by
        rw [shared_filter] at hx
        exact mem_upto.1 (List.mem_filter.1 hx).1
      have q1 : ∀ i (hi : i < (rings (ns, rs, ps, ())).length), (refsOf (ns, rs, ps, ()) (rings (ns, rs, ps, ()))[i]).any (fun r => (rings (ns, rs, ps, ())).any (· == r)) = true := fun i hi => by
        obtain ⟨f, hf, hm⟩ := rings_next h (List.getElem_mem hi)
        exact List.any_eq_true.2 ⟨f, hf, List.any_eq_true.2 ⟨f, hm, by simp⟩⟩
      have q2 : ∀ i (hi : i < (shared (ns, rs, ps, ())).length), (refsOf (ns, rs, ps, ()) (shared (ns, rs, ps, ()))[i]).all (fun r => decide (r < 0) || (shared (ns, rs, ps, ())).any (· == r)) = true := fun i hi => by
        refine List.all_eq_true.2 fun r hr => ?_
        by_cases h0 : r < 0
        · simp [h0]
        · have := shared_closed h (List.getElem_mem hi) hr (by omega)
          rw [List.any_eq_true.2 ⟨r, this, by simp⟩, Bool.or_true]
      have i1 := fun (sh : List Int) i (hi : i < (rings (ns, rs, ps, ())).length) b => rings_in hN h (sh := sh) hlo r1 hi b
      have i2 := fun i (hi : i < (shared (ns, rs, ps, ())).length) => shared_in hN h hsh r2 hi
      have e1 := iPathLoops_ok hN hs
      have e2 := iPathShared_ok hN hs
      have e3 := sPathLoops_ok hN hs
      have e4 := sPathShared_ok hN hs
      simp only [h, if_true] at e1 e2 e3 e4
      generalize rings (ns, rs, ps, ()) = lo at *
      generalize shared (ns, rs, ps, ()) = sh at *
      have l1 := all_loop (xs := lo) (n := N) (fun _ => true) (L := fun n i => lvFnPathRings_0 N n ((i : Int), ns, rs, ps, lo, sh, ())) (yes := .inl (ns, rs, ps, sh, ())) (no := .inr (false, ())) hlo
        (fun n i hi hw _ => by
          simp only [lvFnPathRings_0, Int.ofNat_lt, hi, decide_true, cond_true, i1 sh i hi, q1 i hi, Option.bind_some, Bool.false_or, Bool.not_true, cond_false, hw])
        (fun n i hi hq => by cases hq)
        (fun n => by simp [lvFnPathRings_0]) (by omega)
      have l2 := all_loop (xs := sh) (n := N) (fun _ => true) (L := fun n i => lvFnPathRings_6 N n ((i : Int), ns, rs, ps, sh, ())) (yes := .inl ()) (no := .inr (false, ())) hsh
        (fun n i hi hw _ => by
          simp only [lvFnPathRings_6, Int.ofNat_lt, hi, decide_true, cond_true, i2 i hi, q2 i hi, Option.bind_some, Sum.elim_inl, hw])
        (fun n i hi hq => by cases hq)
        (fun n => by simp [lvFnPathRings_6]) (by omega)
      simp only [Int.natCast_zero] at l1 l2
      rw [show lo.all (fun _ => true) = true from List.all_eq_true.2 fun _ _ => rfl, cond_true] at l1
      rw [show sh.all (fun _ => true) = true from List.all_eq_true.2 fun _ _ => rfl, cond_true] at l2
      simp only [FvFnPathRings, hc, decide_false, cond_false, e, Option.bind_some, e1, e2, e3, e4, vflInts_ok hN hlo, vflInts_ok hN hsh, decide_true, Bool.not_true, Sum.elim_inl, l1, l2]
end
end Go.Fl
