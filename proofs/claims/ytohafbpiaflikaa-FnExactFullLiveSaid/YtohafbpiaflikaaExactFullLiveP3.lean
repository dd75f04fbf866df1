/- Proved: for every input the law FnExactFullLive returns true and leaves its arguments as they were. Part 3: the functions that the law reaches, as plain functions, and plain laws about them; no conditions. -/
import Derived.Test.YtohafbpiaflikaaExactFullLiveP2
import Derived.Sort.AssemblyPlain
set_option linter.all false
set_option linter.all false
set_option maxRecDepth 10000
namespace Go.Fl
open Go
abbrev sm (n : Nat) : Prop := n ≤ 1048576
theorem size_loop {α : Type} {xs : List α} (P : α → Prop) {L : Nat → Nat → Int → Option ((Int × Unit) ⊕ (Int × Unit))} (hl : xs.length ≤ lim)
  (h1 : ∀ n i (h : i < xs.length) (left : Int), 0 ≤ left → left ≤ 1048576 → w64 ((i : Int) + 1) = ((i + 1 : Nat) : Int) →
   L (n + 1) i left = some (.inr (-1, ())) ∨ ∃ r, 0 ≤ r ∧ r ≤ left ∧ P xs[i] ∧ L (n + 1) i left = L n (i + 1) r)
  (h3 : ∀ n left, L (n + 1) xs.length left = some (.inl (left, ()))) {n : Nat} (hn : xs.length < n) {left : Int} (h0 : 0 ≤ left) (h1' : left ≤ 1048576) :
  L n 0 left = some (.inr (-1, ())) ∨ ∃ r, 0 ≤ r ∧ r ≤ left ∧ (∀ x ∈ xs, P x) ∧ L n 0 left = some (.inl (r, ())) := by
 have key : ∀ n i left, 0 ≤ left → left ≤ 1048576 → i ≤ xs.length → xs.length - i < n → L n i left = some (.inr (-1, ())) ∨ ∃ r, 0 ≤ r ∧ r ≤ left ∧ (∀ x ∈ xs.drop i, P x) ∧ L n i left = some (.inl (r, ())) := by
  intro n
  induction n with
  | zero => intro i left _ _ _ h; exact absurd h (Nat.not_lt_zero _)
  | succ n ih =>
   intro i left h0 h2 hi hn
   by_cases h : i < xs.length
   ·rcases h1 n i h left h0 h2 (w64_succ (by have : lim = 2147483648 := rfl; omega)) with h4 | ⟨r, h4, h5, h6, h7⟩
    ·exact .inl h4
    ·rw [h7]
     rcases ih (i + 1) r h4 (by omega) (by omega) (by omega) with h8 | ⟨q, h8, h9, h10, h11⟩
     ·exact .inl h8
     ·refine .inr ⟨q, h8, by omega, ?_, h11⟩
      rw [drop_at h]
      exact List.forall_mem_cons.2 ⟨h6, h10⟩
   ·have : i = xs.length := by omega
    subst this
    exact .inr ⟨left, h0, Int.le_refl _, by simp, h3 _ _⟩
 simpa using key n 0 left h0 h1' (by omega) (by omega)
abbrev Mst := List Int × List Bool
def meet (st : Mst) (r : Int) : Mst := if 0 ≤ r ∧ st.2.getD r.toNat false = false then (st.1 ++ [r], st.2.set r.toNat true) else st
structure Met (m : Nat) (st : Mst) : Prop where
 len : st.2.length = m
 cnt : st.1.length + st.2.count false = m
 rng : ∀ r ∈ st.1, 0 ≤ r ∧ r < (m : Int)
 had : ∀ r : Int, 0 ≤ r → (st.2.getD r.toNat false = true ↔ r ∈ st.1)
 nd : st.1.Nodup
theorem count_set_true : ∀ {l : List Bool} {i : Nat}, i < l.length → l.getD i false = false → (l.set i true).count false + 1 = l.count false
 | [], _, h, _ => by simp at h
 | b :: l, 0, _, h => by simp at h; subst h; simp
 | b :: l, i + 1, h, h2 => by
  have ih := count_set_true (l := l) (i := i) (by simpa using h) (by simpa using h2)
  simp only [List.set_cons_succ, List.count_cons]
  omega
theorem Met.le {m : Nat} {st : Mst} (h : Met m st) : st.1.length ≤ m := by have := h.cnt; omega
theorem Met.meet {m : Nat} {st : Mst} (h : Met m st) {r : Int} (hr : r < (m : Int)) : Met m (meet st r) := by
 unfold Fl.meet
 split
 ·rename_i hc
  have hl : r.toNat < st.2.length := by rw [h.len]; omega
  have hn : ¬ r ∈ st.1 := fun hm => by
   have := (h.had r hc.1).2 hm
   rw [hc.2] at this
   cases this
  refine ⟨by simp [h.len], ?_, ?_, ?_, ?_⟩
  ·have := count_set_true hl hc.2
   have := h.cnt
   simp only [List.length_append, List.length_singleton]
   omega
  ·intro x hx
   simp only [List.mem_append, List.mem_singleton] at hx
   rcases hx with hx | rfl
   ·exact h.rng x hx
   ·exact ⟨hc.1, hr⟩
  ·intro x hx
   simp only [List.mem_append, List.mem_singleton]
   rw [← h.had x hx]
   simp only [List.getD_eq_getElem?_getD, List.getElem?_set]
   by_cases e : r.toNat = x.toNat
   ·have : x = r := by omega
    subst this
    simp [hl]
   ·have : ¬ x = r := fun e' => e (by rw [e'])
    simp [e, this]
  ·rw [List.nodup_append]
   refine ⟨h.nd, by simp, ?_⟩
   intro a ha b hb e
   simp at hb
   subst hb
   subst e
   exact hn ha
 ·exact h
def shOk (s : Int × Int × Unit) : Bool := decide (0 ≤ s.1) && (decide (s.1 ≤ 4) && (decide (0 ≤ s.2.1) && decide (s.2.1 ≤ 4)))
def inB (i : Int) (n : Nat) : Prop := 0 ≤ i ∧ i < (n : Int)
instance (i : Int) (n : Nat) : Decidable (inB i n) := by unfold inB; infer_instance
def Ret {α : Type} (o : Option α) (P : α → Prop) : Prop := ∃ r, o = some r ∧ P r
theorem Ret.pure {α : Type} {a : α} {P : α → Prop} (h : P a) : Ret (some a) P := ⟨a, rfl, h⟩
theorem Ret.bind {α β : Type} {o : Option α} {k : α → Option β} {P : β → Prop} (Q : α → Prop) (h : Ret o Q) (hk : ∀ r, Q r → Ret (k r) P) : Ret (o.bind k) P := by
 obtain ⟨r, e, hr⟩ := h
 rw [e]
 exact hk r hr
theorem Ret.mono {α : Type} {o : Option α} {P Q : α → Prop} (h : Ret o P) (hm : ∀ r, P r → Q r) : Ret o Q := by
 obtain ⟨r, e, hr⟩ := h; exact ⟨r, e, hm r hr⟩
theorem Ret.bif {α : Type} {c : Bool} {a b : Option α} {P : α → Prop} (h1 : c = true → Ret a P) (h2 : c = false → Ret b P) : Ret (bif c then a else b) P := by
 cases c with
 | true => exact h1 rfl
 | false => exact h2 rfl
theorem Ret.guard {α : Type} {p : Prop} [Decidable p] {a : Option α} {P : α → Prop} (hp : p) (h : Ret a P) : Ret (_root_.cond (decide p) a none) P := by
 simpa [hp] using h
abbrev Shx := Int × Int × Unit
abbrev Rgx := Int × Int × Int × Int × Int × Unit
def wordsOk (w : List Int) : Bool := decide (w.length % 16 = 0) && (decide (32 ≤ w.length) && decide (w.length ≤ 192))
theorem wordsOk_iff {w : List Int} : wordsOk w = true ↔ w.length % 16 = 0 ∧ 32 ≤ w.length ∧ w.length ≤ 192 := by
 simp only [wordsOk, Bool.and_eq_true, decide_eq_true_eq]
def fitsB (w : List Int) (a n : Int) : Bool := wordsOk w && (decide (1 ≤ n) && (decide (16 ≤ a) && (decide (a < (w.length : Int)) && decide (a % 16 + n ≤ 16))))
theorem fitsB_iff {w : List Int} {a n : Int} : fitsB w a n = true ↔ wordsOk w = true ∧ 1 ≤ n ∧ 16 ≤ a ∧ a < (w.length : Int) ∧ a % 16 + n ≤ 16 := by
 simp only [fitsB, Bool.and_eq_true, decide_eq_true_eq]
def shSz (s : Shx) : Int := if shOk s = true then 2 + s.1 + s.2.1 else 0
def shWd (s : Shx) : Int := if shOk s = true then 16 * s.1 + s.2.1 else -1
theorem shOk_iff {s : Shx} : shOk s = true ↔ 0 ≤ s.1 ∧ s.1 ≤ 4 ∧ 0 ≤ s.2.1 ∧ s.2.1 ≤ 4 := by
 simp only [shOk, Bool.and_eq_true, decide_eq_true_eq]
theorem fits_room {w : List Int} {a n : Int} (h : fitsB w a n = true) : a + n ≤ (w.length : Int) ∧ a < 192 ∧ w.length ≤ 192 := by
 obtain ⟨h1, h2, h3, h4, h5⟩ := fitsB_iff.1 h
 obtain ⟨h6, h7, h8⟩ := wordsOk_iff.1 h1
 omega
def edgeRow : Rgx := (0, -1, 0, 0, 0, ())
def regBase (r : Int) : Int := if r < 0 ∨ r ≥ 12 then 0 else 16 * r
def regOf (a : Int) : Int := if a < 0 then -1 else a / 16
theorem push_loop {α ρ : Type} {m : Nat} (f : Nat → α) {L : Nat → Nat → List α → Option ρ} {fin : List α → ρ} (hm : m ≤ 1048576)
  (h1 : ∀ n i s, i < m → s.length + 1 ≤ lim → w64 ((i : Int) + 1) = ((i + 1 : Nat) : Int) → L (n + 1) i s = L n (i + 1) (s ++ [f i])) (h3 : ∀ n s, L (n + 1) m s = some (fin s)) :
  ∀ (n i : Nat) (s : List α), i ≤ m → m - i < n → s.length + m ≤ 2097152 + i → L n i s = some (fin (s ++ (List.range' i (m - i)).map f))
 | 0, _, _, _, h, _ => absurd h (Nat.not_lt_zero _)
 | n + 1, i, s, hi, hn, hs => by
  have hlim : lim = 2147483648 := rfl
  by_cases h : i < m
  ·rw [h1 n i s h (by omega) (w64_succ (by omega)), push_loop f hm h1 h3 n (i + 1) _ (by omega) (by omega) (by simp; omega)]
   have e : m - i = (m - (i + 1)) + 1 := by omega
   rw [e, List.range'_succ]
   simp
  ·have : i = m := by omega
   subst this
   rw [h3]
   simp
abbrev Tgx := Int × Int × Shx × List Int × List Int × Unit
abbrev tg0 : Tgx := (0, 0, (0, 0, ()), [], [], ())
abbrev rg0 : Rgx := (0, 0, 0, 0, 0, ())
def shOf (w : Int) : Option Shx := if 0 ≤ w ∧ w / 16 ≤ 4 ∧ w % 16 ≤ 4 then some (w / 16, w % 16, ()) else none
def thingAt (w : List Int) (a : Int) : Option Tgx :=
 if fitsB w a 2 = true then (match shOf (w.getD (a + 1).toNat 0) with
  | some s => if fitsB w a (shSz s) = true then some (a, w.getD a.toNat 0, s, (w.drop (a.toNat + 2)).take s.1.toNat, (w.drop (a.toNat + 2 + s.1.toNat)).take s.2.1.toNat, ()) else none
  | none => none) else none
def thingsFrom (w : List Int) (top : Int) : Nat → Int → Option (List Tgx)
 | 0, _ => none
 | n + 1, a => if a < top then (match thingAt w a with
     | none => none
     | some t => if a + shSz t.2.2.1 > top then none else (thingsFrom w top n (a + shSz t.2.2.1)).map (t :: ·)) else some []
def thingsIn (w : List Int) (r top : Int) : Option (List Tgx) :=
 if wordsOk w = true ∧ 1 ≤ r ∧ r < ((w.length / 16 : Nat) : Int) ∧ 16 * r ≤ top ∧ top ≤ 16 * r + 16 then thingsFrom w top 17 (16 * r) else none
def thingsGo (w : List Int) (tb : List Rgx) : Nat → Nat → Option (List Tgx)
 | 0, _ => some []
 | k + 1, i => match thingsIn w (i : Int) (tb.getD i rg0).2.2.1 with
  | none => none
  | some l => (thingsGo w tb k (i + 1)).map (l ++ ·)
def thingsAll (w : List Int) (tb : List Rgx) : Option (List Tgx) := thingsGo w tb (tb.length - 1) 1
theorem shOf_some {w : Int} {s : Shx} (h : shOf w = some s) : shOk s = true ∧ w = 16 * s.1 + s.2.1 := by
 unfold shOf at h
 split at h
 ·simp only [Option.some.injEq] at h
  subst h
  rw [shOk_iff]
  dsimp only
  omega
 ·cases h
theorem thingAt_some {w : List Int} {a : Int} {t : Tgx} (h : thingAt w a = some t) : t.1 = a ∧ shOk t.2.2.1 = true ∧ fitsB w a (shSz t.2.2.1) = true ∧ t.2.1 = w.getD a.toNat 0 ∧ t.2.2.2.1.length = t.2.2.1.1.toNat ∧ t.2.2.2.2.1.length = t.2.2.1.2.1.toNat ∧
  2 ≤ shSz t.2.2.1 ∧ shSz t.2.2.1 ≤ 10 := by
 unfold thingAt at h
 split at h
 ·split at h
  ·rename_i s hs
   split at h
   ·rename_i hf
    simp only [Option.some.injEq] at h
    subst h
    obtain ⟨h1, _⟩ := shOf_some hs
    have h2 := shOk_iff.1 h1
    have h3 : shSz s = 2 + s.1 + s.2.1 := by unfold shSz; rw [if_pos h1]
    obtain ⟨g1, g2, g3⟩ := fits_room hf
    obtain ⟨f1, f2, f3, f4, f5⟩ := fitsB_iff.1 hf
    refine ⟨rfl, h1, hf, rfl, ?_, ?_, by dsimp only; omega, by dsimp only; omega⟩
    ·simp only [List.length_take, List.length_drop]; omega
    ·simp only [List.length_take, List.length_drop]; omega
   ·cases h
  ·cases h
 ·cases h
theorem range_get {w : List Int} : ∀ (n p i : Nat), p + i + n ≤ w.length → (List.range' i n).map (fun j => w.getD (p + j) 0) = (w.drop (p + i)).take n
 | 0, _, _, _ => by simp
 | n + 1, p, i, h => by
  rw [List.range'_succ, List.map_cons, range_get n p (i + 1) (by omega), drop_at (by omega : p + i < w.length), List.take_succ_cons, getD_lt (by omega : p + i < w.length)]
  rfl
theorem thingsFrom_at {w : List Int} {top : Int} : ∀ (n : Nat) (a : Int) (l : List Tgx), thingsFrom w top n a = some l → l.Pairwise (fun x y => x.1 < y.1) ∧ ∀ t ∈ l, a ≤ t.1 ∧ t.1 < top ∧ thingAt w t.1 = some t
 | 0, _, _, h => by simp [thingsFrom] at h
 | n + 1, a, l, h => by
  unfold thingsFrom at h
  split at h
  ·rename_i hlt
   split at h
   ·cases h
   ·rename_i t ht
    split at h
    ·cases h
    ·simp only [Option.map_eq_some_iff] at h
     obtain ⟨l', h1, rfl⟩ := h
     obtain ⟨e1, _, _, _, _, _, e2, _⟩ := thingAt_some ht
     obtain ⟨p1, p2⟩ := thingsFrom_at n _ l' h1
     refine ⟨List.pairwise_cons.2 ⟨fun y hy => ?_, p1⟩, fun x hx => ?_⟩
     ·have := (p2 y hy).1; omega
     ·rcases List.mem_cons.1 hx with rfl | hx
      ·exact ⟨by omega, by omega, by rw [e1]; exact ht⟩
      ·have := p2 x hx; exact ⟨by omega, this.2⟩
  ·simp only [Option.some.injEq] at h
   subst h
   exact ⟨List.Pairwise.nil, by simp⟩
theorem thingsFrom_len {w : List Int} {top : Int} : ∀ (n : Nat) (a : Int) (l : List Tgx), thingsFrom w top n a = some l → l.length ≤ n
 | 0, _, _, h => by simp [thingsFrom] at h
 | n + 1, a, l, h => by
  unfold thingsFrom at h
  split at h
  ·split at h
   ·cases h
   ·split at h
    ·cases h
    ·simp only [Option.map_eq_some_iff] at h
     obtain ⟨l', h1, rfl⟩ := h
     have := thingsFrom_len n _ l' h1
     simp only [List.length_cons]; omega
  ·simp only [Option.some.injEq] at h
   subst h
   simp
theorem thingsIn_at {w : List Int} {r top : Int} {l : List Tgx} (h : thingsIn w r top = some l) : l.Pairwise (fun x y => x.1 < y.1) ∧ (∀ t ∈ l, 16 * r ≤ t.1 ∧ t.1 < 16 * r + 16 ∧ t.1 < top ∧ thingAt w t.1 = some t) ∧ l.length ≤ 17 ∧ 1 ≤ r ∧ r < 12 := by
 unfold thingsIn at h
 split at h
 ·rename_i hc
  have hw := wordsOk_iff.1 hc.1
  obtain ⟨h1, h2⟩ := thingsFrom_at _ _ _ h
  exact ⟨h1, fun t ht => by have := h2 t ht; exact ⟨this.1, by omega, this.2⟩, thingsFrom_len _ _ _ h, hc.2.1, by omega⟩
 ·cases h
theorem thingsGo_at {w : List Int} {tb : List Rgx} : ∀ (k i : Nat) (l : List Tgx), thingsGo w tb k i = some l → l.Pairwise (fun x y => x.1 < y.1) ∧ (∀ t ∈ l, 16 * (i : Int) ≤ t.1 ∧ thingAt w t.1 = some t ∧ t.1 < 16 * ((i : Int) + k)) ∧ l.length ≤ 17 * k
 | 0, _, _, h => by simp only [thingsGo, Option.some.injEq] at h; subst h; simp
 | k + 1, i, l, h => by
  unfold thingsGo at h
  split at h
  ·cases h
  ·rename_i l1 h1
   simp only [Option.map_eq_some_iff] at h
   obtain ⟨l2, h2, rfl⟩ := h
   obtain ⟨a1, a2, a3, _⟩ := thingsIn_at h1
   obtain ⟨b1, b2, b3⟩ := thingsGo_at k (i + 1) l2 h2
   refine ⟨List.pairwise_append.2 ⟨a1, b1, fun x hx y hy => ?_⟩, fun t ht => ?_, ?_⟩
   ·have c1 := a2 x hx
    have c2 := b2 y hy
    omega
   ·rcases List.mem_append.1 ht with ht | ht
    ·have c1 := a2 t ht; exact ⟨c1.1, c1.2.2.2, by omega⟩
    ·have c2 := b2 t ht; exact ⟨by omega, c2.2.1, by omega⟩
   ·simp only [List.length_append]; omega
theorem thingsAll_at {w : List Int} {tb : List Rgx} {l : List Tgx} (h : thingsAll w tb = some l) : l.Pairwise (fun x y => x.1 < y.1) ∧ (∀ t ∈ l, 16 ≤ t.1 ∧ thingAt w t.1 = some t ∧ t.1 < 16 * (1 + ((tb.length - 1 : Nat) : Int))) ∧ l.length ≤ 17 * (tb.length - 1) := by
 obtain ⟨h1, h2, h3⟩ := thingsGo_at _ _ _ h
 exact ⟨h1, fun t ht => by have := h2 t ht; exact ⟨by omega, this.2.1, by omega⟩, h3⟩
def tmap (l : List Tgx) : List (Int × Tgx) := l.map fun t => (t.1, t)
theorem mset_new {α : Type} {m : List (Int × α)} {a : Int} {x : α} (h : ∀ p ∈ m, p.1 ≠ a) : mset m a x = m ++ [(a, x)] := by
 induction m with
 | nil => rfl
 | cons p r ih =>
  obtain ⟨b, y⟩ := p
  have hb : ¬ a = b := fun e => h (b, y) (by simp) e.symm
  simp only [mset, hb, decide_false, cond_false, List.cons_append]
  rw [ih fun p hp => h p (by simp [hp])]
theorem tmap_get {l : List Tgx} {a : Int} : mget (tmap l) a = l.find? fun t => decide (t.1 = a) := by
 induction l with
 | nil => rfl
 | cons t l ih =>
  simp only [tmap, List.map_cons, mget, List.find?_cons] at ih ⊢
  by_cases h : a = t.1
  ·simp [h]
  ·have h' : ¬ t.1 = a := fun e => h e.symm
   simp only [h, h', decide_false, cond_false]
   exact ih
theorem tmap_push {l : List Tgx} {t : Tgx} (h : ∀ x ∈ l, x.1 < t.1) : mset (tmap l) t.1 t = tmap (l ++ [t]) := by
 rw [mset_new]
 ·simp [tmap]
 ·intro p hp
  simp only [tmap, List.mem_map] at hp
  obtain ⟨x, hx, rfl⟩ := hp
  have := h x hx
  dsimp only; omega
def rowOk (i : Nat) (x : Rgx) : Bool :=
 decide (1 ≤ x.1) && (decide (x.1 ≤ 4) && (decide (16 * (i : Int) ≤ x.2.2.1) && (decide (x.2.2.1 ≤ 16 * (i : Int) + 16) && (decide (16 * (i : Int) ≤ x.2.2.2.1) && (decide (x.2.2.2.1 ≤ x.2.2.1) && (decide (0 ≤ x.2.2.2.2.1) && (decide (x.2.2.2.2.1 ≤ x.2.2.1 - 16 * (i : Int)) &&
  ((!(decide (x.1 = 1)) || decide (x.2.2.1 = 16 * (i : Int))) && (if x.1 = 2 then decide (0 ≤ x.2.1) && decide (x.2.1 ≤ 3) else decide (x.2.1 = -1))))))))))
theorem rowOk_iff {i : Nat} {x : Rgx} : rowOk i x = true ↔ 1 ≤ x.1 ∧ x.1 ≤ 4 ∧ 16 * (i : Int) ≤ x.2.2.1 ∧ x.2.2.1 ≤ 16 * (i : Int) + 16 ∧ 16 * (i : Int) ≤ x.2.2.2.1 ∧ x.2.2.2.1 ≤ x.2.2.1 ∧ 0 ≤ x.2.2.2.2.1 ∧ x.2.2.2.2.1 ≤ x.2.2.1 - 16 * (i : Int) ∧
  (x.1 = 1 → x.2.2.1 = 16 * (i : Int)) ∧ ((x.1 = 2 ∧ 0 ≤ x.2.1 ∧ x.2.1 ≤ 3) ∨ (x.1 ≠ 2 ∧ x.2.1 = -1)) := by
 unfold rowOk
 simp only [Bool.and_eq_true, decide_eq_true_eq]
 refine and_congr_right fun _ => and_congr_right fun _ => and_congr_right fun _ => and_congr_right fun _ => and_congr_right fun _ => and_congr_right fun _ => and_congr_right fun _ => and_congr_right fun _ => ?_
 by_cases h2 : x.1 = 2
 ·simp [h2]
 ·by_cases h1 : x.1 = 1 <;> simp [h1, h2]
def hadO (t : List Rgx) (i : Nat) (o : Int) : Bool := ((t.take i).drop 1).any fun x => decide (x.2.1 = o)
def tblGo (t : List Rgx) : Nat → Nat → Bool
 | 0, _ => true
 | k + 1, i => rowOk i (t.getD i rg0) && (!(decide (0 ≤ (t.getD i rg0).2.1) && hadO t i (t.getD i rg0).2.1) && tblGo t k (i + 1))
def tableOk (t : List Rgx) : Bool := decide (2 ≤ t.length) && (decide (t.length ≤ 12) && (decide (t.getD 0 rg0 = edgeRow) && tblGo t (t.length - 1) 1))
theorem hadO_succ {t : List Rgx} {i : Nat} {o : Int} (h1 : 1 ≤ i) (h : i < t.length) : hadO t (i + 1) o = (hadO t i o || decide ((t.getD i rg0).2.1 = o)) := by
 unfold hadO
 rw [List.take_succ_eq_append_getElem h, List.drop_append_of_le_length (by simp; omega), List.any_append, getD_lt h]
 simp
theorem tblGo_row {t : List Rgx} : ∀ (k i : Nat), tblGo t k i = true → ∀ j, i ≤ j → j < i + k → rowOk j (t.getD j rg0) = true
 | 0, _, _, _, h1, h2 => by omega
 | k + 1, i, h, j, h1, h2 => by
  simp only [tblGo, Bool.and_eq_true] at h
  by_cases e : j = i
  ·subst e; exact h.1
  ·exact tblGo_row k (i + 1) h.2.2 j (by omega) (by omega)
theorem tableOk_iff {t : List Rgx} (h : tableOk t = true) : 2 ≤ t.length ∧ t.length ≤ 12 ∧ t.getD 0 rg0 = edgeRow ∧ ∀ j, 1 ≤ j → j < t.length → rowOk j (t.getD j rg0) = true := by
 simp only [tableOk, Bool.and_eq_true, decide_eq_true_eq] at h
 exact ⟨h.1, h.2.1, h.2.2.1, fun j h1 h2 => tblGo_row _ _ h.2.2.2 j h1 (by omega)⟩
def wholeB (w : List Int) (tb : List Rgx) (mk : List Bool) : Bool := wordsOk w && (tableOk tb && (decide (tb.length * 16 = w.length) && decide (mk.length = w.length)))
abbrev Stx := List Int × List Rgx × List Bool × Int × Bool × Bool × Bool × Int × List (List Int × Int × Bool × Int × Unit) × List Int × List Int × Int × Int × Unit
theorem wholeB_iff {w : List Int} {tb : List Rgx} {mk : List Bool} : wholeB w tb mk = true ↔ wordsOk w = true ∧ tableOk tb = true ∧ tb.length * 16 = w.length ∧ mk.length = w.length := by
 simp only [wholeB, Bool.and_eq_true, decide_eq_true_eq]
theorem ibeq {a b : Int} : (a == b) = decide (a = b) := by by_cases h : a = b <;> simp [h]
theorem all_erase {α : Type} {q : α → Bool} : ∀ {l : List α} {i : Nat} (h : i < l.length), l.all q = (q l[i] && (l.eraseIdx i).all q)
 | [], _, h => absurd h (Nat.not_lt_zero _)
 | x :: l, 0, _ => by simp
 | x :: l, i + 1, h => by
  have hi : i < l.length := by simpa using h
  have := all_erase (q := q) (l := l) (i := i) hi
  simp only [List.all_cons, List.getElem_cons_succ, List.eraseIdx_cons_succ, this]
  cases q x <;> cases q l[i] <;> rfl
theorem anyall_loop {α ρ : Type} {P : α → Prop} (q : α → Bool) {L : Nat → List α → Option ρ} {yes no : ρ} (h0 : ∀ n, L (n + 1) [] = some yes)
  (h1 : ∀ n rest, rest ≠ [] → (∀ x ∈ rest, P x) → ∃ f, L (n + 1) rest = anyOf rest.length f ∧ ∀ i (h : i < rest.length), (q rest[i] = true → f i = L n (rest.eraseIdx i)) ∧ (q rest[i] = false → f i = some no)) :
  ∀ (n : Nat) (rest : List α), rest.length < n → (∀ x ∈ rest, P x) → L n rest = some (if rest.all q = true then yes else no)
 | 0, _, h, _ => absurd h (Nat.not_lt_zero _)
 | n + 1, rest, h, hP => by
  by_cases he : rest = []
  ·subst he; rw [h0]; simp
  ·obtain ⟨f, e, hf⟩ := h1 n rest he hP
   rw [e]
   have hpos : 0 < rest.length := List.length_pos_iff.2 he
   refine anyOf_eq hpos fun i hi => ?_
   obtain ⟨f1, f2⟩ := hf i hi
   rw [all_erase hi]
   cases hq : q rest[i] with
   | false => rw [f2 hq]; simp
   | true =>
    rw [f1 hq, anyall_loop q h0 h1 n (rest.eraseIdx i) (by rw [List.length_eraseIdx_of_lt hi]; omega) (fun x hx => hP x (List.mem_of_mem_eraseIdx hx))]
    simp
theorem find_of_idx {α : Type} {p : α → Bool} : ∀ {l : List α}, l.find? p = (l.findIdx? p).bind fun i => l[i]?
 | [] => by simp
 | x :: l => by
  have ih := find_of_idx (p := p) (l := l)
  simp only [List.find?_cons, List.findIdx?_cons]
  cases hx : p x with
  | true => simp
  | false =>
   simp only [ih]
   cases l.findIdx? p <;> simp
def fromB (tb : List Rgx) (a : Int) : Bool := decide ((tb.getD (a / 16).toNat rg0).1 = 4)
def findT (l : List Tgx) (a : Int) : Option Tgx := l.find? fun t => decide (t.1 = a)
def movOk (l : List Tgx) (tb : List Rgx) (t : Tgx) : Bool :=
 if t.2.1 = t.1 then true else match findT l t.2.1 with
  | none => false
  | some k => decide (k.2.2.1 = t.2.2.1) && (decide (k.2.1 = k.1) && (!(fromB tb k.1) && fromB tb t.1))
theorem findT_mem {l : List Tgx} {a : Int} {t : Tgx} (h : findT l a = some t) : t ∈ l ∧ t.1 = a := by
 have h1 := List.mem_of_find?_eq_some h
 have h2 := List.find?_some h
 exact ⟨h1, by simpa using h2⟩
theorem findT_self {l : List Tgx} (hp : l.Pairwise (fun x y => x.1 < y.1)) {t : Tgx} (ht : t ∈ l) : findT l t.1 = some t := by
 unfold findT
 induction l with
 | nil => simp at ht
 | cons x l ih =>
  rw [List.pairwise_cons] at hp
  rw [List.find?_cons]
  rcases List.mem_cons.1 ht with rfl | h
  ·simp
  ·have := hp.1 t h
   have hn : ¬ x.1 = t.1 := by omega
   simp only [hn, decide_false]
   exact ih hp.2 h
theorem thing_rng {w : List Int} {tb : List Rgx} {mk : List Bool} {l : List Tgx} (hw : wholeB w tb mk = true) (hl : thingsAll w tb = some l) : ∀ t ∈ l, 16 ≤ t.1 ∧ t.1 < 192 ∧ (t.1 / 16).toNat < tb.length := by
 intro t ht
 obtain ⟨h1, h2, h3, h4⟩ := wholeB_iff.1 hw
 have ht2 := tableOk_iff h2
 obtain ⟨_, a2, _⟩ := thingsAll_at hl
 have := a2 t ht
 omega
theorem wf_i64 {n : Int} (h : (Lit.int .i64 n).wf = true) : -9223372036854775808 ≤ n ∧ n < 9223372036854775808 := by
 simp only [Lit.wf, IntKind.min, IntKind.max, IntKind.signed, IntKind.bits] at h
 simp at h
 omega
def lnT : (t : Ty) → t.den → Prop
 | .pair a b, x => lnT a x.1 ∧ lnT b x.2
 | .sl t, xs => xs.length ≤ 1048576 ∧ ∀ x ∈ xs, lnT t x
 | .fz t, x => lnT t x
 | _, _ => True
def mkS {α : Type} (f : Int → α → Int × α) : Int → List α → Int × List α
 | k, [] => (k, [])
 | k, x :: r => ((mkS f (f k x).1 r).1, (f k x).2 :: (mkS f (f k x).1 r).2)
def markE : (t : Ty) → Int → t.den → Int × t.den
 | .int _, k, _ => (k + 1, k)
 | .bool, k, _ => (k + 1, Int.tmod k 3 == 0)
 | .pair a b, k, x => ((markE b (markE a k x.1).1 x.2).1, ((markE a k x.1).2, (markE b (markE a k x.1).1 x.2).2))
 | .sl t, k, xs => mkS (markE t) k xs
 | .fz t, k, x => markE t k x
 | .str, k, x => (k, x)
 | .unit, k, x => (k, x)
 | .mp _, k, x => (k, x)
 | .hnd _, k, x => (k, x)
def bndT : Ty → Int
 | .int _ | .bool => 1
 | .pair a b => bndT a + bndT b
 | .sl t => 1048576 * bndT t
 | .fz t => bndT t
 | _ => 0
theorem bndT_nn : ∀ t : Ty, 0 ≤ bndT t
 | .int _ | .bool => by simp [bndT]
 | .pair a b => by have := bndT_nn a; have := bndT_nn b; simp only [bndT]; omega
 | .sl t => by have := bndT_nn t; simp only [bndT]; omega
 | .fz t => by have := bndT_nn t; simp only [bndT]; omega
 | .str | .unit | .mp _ | .hnd _ => by simp [bndT]
theorem mkS_rng {α : Type} {f : Int → α → Int × α} {P : α → Prop} {B : Int} (hB : ∀ k x, P x → k ≤ (f k x).1 ∧ (f k x).1 ≤ k + B) : ∀ {xs : List α} (k : Int), (∀ x ∈ xs, P x) → k ≤ (mkS f k xs).1 ∧ (mkS f k xs).1 ≤ k + B * xs.length
 | [], k, _ => by simp [mkS]
 | x :: r, k, h => by
  have h1 := hB k x (h x (by simp))
  have h2 := mkS_rng hB (xs := r) (f k x).1 fun y hy => h y (by simp [hy])
  simp only [mkS, List.length_cons, Int.natCast_add, Int.natCast_one, Int.mul_add, Int.mul_one]
  omega
theorem markE_rng : ∀ {t : Ty} {x : t.den} (k : Int), lnT t x → k ≤ (markE t k x).1 ∧ (markE t k x).1 ≤ k + bndT t
 | .int _, _, _, _ | .bool, _, _, _ => by simp only [markE, bndT]; omega
 | .pair a b, x, k, h => by
  have h1 := markE_rng (t := a) (x := x.1) k h.1
  have h2 := markE_rng (t := b) (x := x.2) (markE a k x.1).1 h.2
  simp only [markE, bndT]; omega
 | .sl t, xs, k, h => by
  have h1 := mkS_rng (f := markE t) (P := lnT t) (B := bndT t) (fun k x hx => markE_rng k hx) (xs := xs) k h.2
  have h2 : bndT t * (xs.length : Int) ≤ bndT t * 1048576 := Int.mul_le_mul_of_nonneg_left (by have := h.1; omega) (bndT_nn t)
  simp only [markE, bndT]; omega
 | .fz t, x, k, h => markE_rng (t := t) (x := x) k h
 | .str, _, _, _ | .unit, _, _, _ | .mp _, _, _, _ | .hnd _, _, _, _ => by simp only [markE, bndT]; omega
theorem mark_loop {α ρ : Type} {f : Int → α → Int × α} {P : α → Prop} {B : Int} {xs : List α} {L : Nat → Int → Nat → List α → Option ρ} {fin : Int → List α → ρ} (hl : xs.length ≤ lim) (hx : ∀ x ∈ xs, P x) (b0 : 0 ≤ B)
  (hB : ∀ k x, P x → k ≤ (f k x).1 ∧ (f k x).1 ≤ k + B)
  (h1 : ∀ n k i (s : List α) (h : i < s.length), P s[i] → 0 ≤ k → k + B ≤ 4611686018427387904 → w64 ((i : Int) + 1) = ((i + 1 : Nat) : Int) → L (n + 1) k i s = L n (f k s[i]).1 (i + 1) (s.set i (f k s[i]).2))
  (h3 : ∀ n k s, L (n + 1) k s.length s = some (fin k s)) {n : Nat} (hn : xs.length < n) {k : Int} (h0 : 0 ≤ k) (hk : k + B * xs.length ≤ 4611686018427387904) : L n k 0 xs = some (fin (mkS f k xs).1 (mkS f k xs).2) := by
 have key : ∀ (ys pre : List α) (n : Nat) (k : Int), (∀ x ∈ ys, P x) → pre.length + ys.length ≤ lim → ys.length < n → 0 ≤ k → k + B * ys.length ≤ 4611686018427387904 →
   L n k pre.length (pre ++ ys) = some (fin (mkS f k ys).1 (pre ++ (mkS f k ys).2)) := by
  intro ys
  induction ys with
  | nil =>
   intro pre n k _ _ hn _ _
   obtain ⟨n, rfl⟩ : ∃ n', n = n' + 1 := ⟨n - 1, by simp at hn; omega⟩
   have := h3 n k pre
   simpa [mkS] using this
  | cons y ys ih =>
   intro pre n k hy hl hn h0 hk
   obtain ⟨n, rfl⟩ : ∃ n', n = n' + 1 := ⟨n - 1, by simp at hn; omega⟩
   have hlim : lim = 2147483648 := rfl
   simp only [List.length_cons, Int.natCast_add, Int.natCast_one, Int.mul_add, Int.mul_one] at hl hn hk
   have b1 : 0 ≤ B * (ys.length : Int) := Int.mul_nonneg b0 (by omega)
   have hlt : pre.length < (pre ++ y :: ys).length := by simp
   have hg : (pre ++ y :: ys)[pre.length] = y := by simp
   have hPy := hy y (by simp)
   have h4 := hB k y hPy
   have := h1 n k pre.length (pre ++ y :: ys) hlt (by rw [hg]; exact hPy) h0 (by omega) (w64_succ (by omega))
   rw [this, hg]
   have e : (pre ++ y :: ys).set pre.length (f k y).2 = (pre ++ [(f k y).2]) ++ ys := by simp
   have := ih (pre ++ [(f k y).2]) n (f k y).1 (fun x hx => hy x (by simp [hx])) (by simp; omega) (by omega) (by omega) (by omega)
   simp only [List.length_append, List.length_singleton] at this
   rw [e, this]
   simp [mkS]
 have := key xs [] n k hx (by simpa using hl) hn h0 hk
 simpa using this
theorem held_loop {α ρ : Type} {f : Int → α → Int × α} {P : α → Prop} {B : Int} {xs : List α} {L : Nat → List α → Int → Nat → Option ρ} {fin : Int → ρ} (hl : xs.length ≤ lim) (hx : ∀ x ∈ xs, P x) (b0 : 0 ≤ B)
  (hB : ∀ k x, P x → k ≤ (f k x).1 ∧ (f k x).1 ≤ k + B)
  (h1 : ∀ n k i (s : List α) (h : i < s.length) x, s[i] = (f k x).2 → P x → 0 ≤ k → k + B ≤ 4611686018427387904 → w64 ((i : Int) + 1) = ((i + 1 : Nat) : Int) → L (n + 1) s k i = L n s (f k x).1 (i + 1))
  (h3 : ∀ n k s, L (n + 1) s k s.length = some (fin k)) {n : Nat} (hn : xs.length < n) {k : Int} (h0 : 0 ≤ k) (hk : k + B * xs.length ≤ 4611686018427387904) : L n (mkS f k xs).2 k 0 = some (fin (mkS f k xs).1) := by
 have key : ∀ (ys pre : List α) (n : Nat) (k : Int), (∀ x ∈ ys, P x) → pre.length + ys.length ≤ lim → ys.length < n → 0 ≤ k → k + B * ys.length ≤ 4611686018427387904 →
   L n (pre ++ (mkS f k ys).2) k pre.length = some (fin (mkS f k ys).1) := by
  intro ys
  induction ys with
  | nil =>
   intro pre n k _ _ hn _ _
   obtain ⟨n, rfl⟩ : ∃ n', n = n' + 1 := ⟨n - 1, by simp at hn; omega⟩
   have := h3 n k pre
   simpa [mkS] using this
  | cons y ys ih =>
   intro pre n k hy hl hn h0 hk
   obtain ⟨n, rfl⟩ : ∃ n', n = n' + 1 := ⟨n - 1, by simp at hn; omega⟩
   have hlim : lim = 2147483648 := rfl
   simp only [List.length_cons, Int.natCast_add, Int.natCast_one, Int.mul_add, Int.mul_one] at hl hn hk
   have b1 : 0 ≤ B * (ys.length : Int) := Int.mul_nonneg b0 (by omega)
   have hPy := hy y (by simp)
   have h4 := hB k y hPy
   simp only [mkS]
   generalize hq : (mkS f (f k y).1 ys).2 = q
   have hlt : pre.length < (pre ++ (f k y).2 :: q).length := by simp
   have hg : (pre ++ (f k y).2 :: q)[pre.length] = (f k y).2 := by simp
   rw [h1 n k pre.length _ hlt y hg hPy h0 (by omega) (w64_succ (by omega))]
   have := ih (pre ++ [(f k y).2]) n (f k y).1 (fun x hx => hy x (by simp [hx])) (by simp; omega) (by omega) (by omega) (by omega)
   rw [hq] at this
   simp only [List.length_append, List.length_singleton, List.append_assoc, List.cons_append, List.nil_append] at this
   exact this
 have := key xs [] n k hx (by simpa using hl) hn h0 hk
 simpa using this
theorem getD_set_i {α : Type} {l : List α} {i : Nat} {x d : α} (h : i < l.length) : (l.set i x).getD i d = x := by
 rw [getD_lt (by simpa using h)]; exact List.getElem_set_self _
theorem ne_step {α : Type} [DecidableEq α] {a b : α} {c : Bool} : (_root_.cond (a != b) (some (false, ())) (some (c, ())) : Option (Bool × Unit)) = some (decide (a = b) && c, ()) := by
 by_cases h : a = b <;> simp [h]
theorem not_step {d c : Bool} : (_root_.cond (!d) (some (false, ())) (some (c, ())) : Option (Bool × Unit)) = some (d && c, ()) := by
 cases d <;> rfl
theorem bool_beq {a b : Bool} : (a == b) = decide (a = b) := by cases a <;> cases b <;> rfl
theorem sz_loop {α : Type} {xs : List α} (P : α → Prop) {L : Nat → Nat → Int → Option ((Int × Unit) ⊕ (Int × Unit))} {N : Nat} (hN : lim < N) {left : Int} (hx : (xs.length : Int) ≤ 9223372036854775807) (h0 : 0 ≤ left) (h1' : left ≤ 1048576)
  (h1 : ∀ n i (h : i < xs.length) (left : Int), 0 ≤ left → left ≤ 1048576 → w64 ((i : Int) + 1) = ((i + 1 : Nat) : Int) →
   L (n + 1) i left = some (.inr (-1, ())) ∨ ∃ r, 0 ≤ r ∧ r ≤ left ∧ P xs[i] ∧ L (n + 1) i left = L n (i + 1) r)
  (h3 : ∀ n left, L (n + 1) xs.length left = some (.inl (left, ()))) :
  ∃ r : Int, (_root_.cond (decide (w64 (left - (xs.length : Int)) < 0)) (some ((-1 : Int), ())) ((L N 0 (w64 (left - (xs.length : Int)))).bind fun o => Sum.elim (fun o => some (o.1, ())) (fun o => some (o.1, ())) o) : Option (Int × Unit)) = some (r, ()) ∧
    (r < 0 ∨ (0 ≤ r ∧ r ≤ left ∧ xs.length ≤ 1048576 ∧ ∀ x ∈ xs, P x)) := by
 rw [w64_id (by omega) (by omega)]
 by_cases h : left - (xs.length : Int) < 0
 ·exact ⟨-1, by simp [h], by simp⟩
 ·simp only [h, decide_false, cond_false]
  have hlim : lim = 2147483648 := rfl
  rcases size_loop (xs := xs) (n := N) P (by omega) h1 h3 (by omega) (left := left - xs.length) (by omega) (by omega) with hL | ⟨r, h2, h3, h4, hL⟩
  ·exact ⟨-1, by rw [hL]; rfl, by simp⟩
  ·exact ⟨r, by rw [hL]; rfl, .inr ⟨h2, by omega, by omega, h4⟩⟩
abbrev tIntS : Ty := (.sl (.int .i64))
abbrev tBoolS : Ty := (.sl .bool)
abbrev tRegion : Ty := (.pair (.int .i64) (.pair (.int .i64) (.pair (.int .i64) (.pair (.int .i64) (.pair (.int .i64) .unit)))))
abbrev tRegionS : Ty := (.sl (.pair (.int .i64) (.pair (.int .i64) (.pair (.int .i64) (.pair (.int .i64) (.pair (.int .i64) .unit))))))
abbrev tThread : Ty := (.pair (.sl (.int .i64)) (.pair (.int .i64) (.pair .bool (.pair (.int .i64) .unit))))
abbrev tThreadS : Ty := (.sl (.pair (.sl (.int .i64)) (.pair (.int .i64) (.pair .bool (.pair (.int .i64) .unit)))))
abbrev tState : Ty := (.pair (.sl (.int .i64)) (.pair (.sl (.pair (.int .i64) (.pair (.int .i64) (.pair (.int .i64) (.pair (.int .i64) (.pair (.int .i64) .unit)))))) (.pair (.sl .bool) (.pair (.int .i64) (.pair .bool (.pair .bool (.pair .bool (.pair (.int .i64) (.pair (.sl (.pair (.sl (.int .i64)) (.pair (.int .i64) (.pair .bool (.pair (.int .i64) .unit))))) (.pair (.sl (.int .i64)) (.pair (.sl (.int .i64)) (.pair (.int .i64) (.pair (.int .i64) .unit)))))))))))))
instance decOp_6 : DecidableEq ((Int × Int × Unit) × Unit) := @instDecidableEqProd _ _ inferInstance inferInstance
instance decOp_5 : DecidableEq (Int × ((Int × Int × Unit) × Unit)) := @instDecidableEqProd _ _ inferInstance decOp_6
instance decOp_4 : DecidableEq (Int × (Int × (Int × Int × Unit) × Unit)) := @instDecidableEqProd _ _ inferInstance decOp_5
instance decOp_3 : DecidableEq (Int × (Int × Int × (Int × Int × Unit) × Unit)) := @instDecidableEqProd _ _ inferInstance decOp_4
instance decOp_2 : DecidableEq (Int × (Int × Int × Int × (Int × Int × Unit) × Unit)) := @instDecidableEqProd _ _ inferInstance decOp_3
instance decOp_1 : DecidableEq (Int × (Int × Int × Int × Int × (Int × Int × Unit) × Unit)) := @instDecidableEqProd _ _ inferInstance decOp_2
instance decOp_0 : DecidableEq (Int × (Int × Int × Int × Int × Int × (Int × Int × Unit) × Unit)) := @instDecidableEqProd _ _ inferInstance decOp_1
instance decRegion_4 : DecidableEq (Int × Unit) := @instDecidableEqProd _ _ inferInstance inferInstance
instance decRegion_3 : DecidableEq (Int × (Int × Unit)) := @instDecidableEqProd _ _ inferInstance decRegion_4
instance decRegion_2 : DecidableEq (Int × (Int × Int × Unit)) := @instDecidableEqProd _ _ inferInstance decRegion_3
instance decRegion_1 : DecidableEq (Int × (Int × Int × Int × Unit)) := @instDecidableEqProd _ _ inferInstance decRegion_2
instance decRegion_0 : DecidableEq (Int × (Int × Int × Int × Int × Unit)) := @instDecidableEqProd _ _ inferInstance decRegion_1
instance decState_12 : DecidableEq (Int × Unit) := @instDecidableEqProd _ _ inferInstance inferInstance
instance decState_11 : DecidableEq (Int × (Int × Unit)) := @instDecidableEqProd _ _ inferInstance decState_12
instance decState_10 : DecidableEq ((List Int) × (Int × Int × Unit)) := @instDecidableEqProd _ _ inferInstance decState_11
instance decState_9 : DecidableEq ((List Int) × ((List Int) × Int × Int × Unit)) := @instDecidableEqProd _ _ inferInstance decState_10
instance decState_8 : DecidableEq ((List ((List Int) × Int × Bool × Int × Unit)) × ((List Int) × (List Int) × Int × Int × Unit)) := @instDecidableEqProd _ _ inferInstance decState_9
instance decState_7 : DecidableEq (Int × ((List ((List Int) × Int × Bool × Int × Unit)) × (List Int) × (List Int) × Int × Int × Unit)) := @instDecidableEqProd _ _ inferInstance decState_8
instance decState_6 : DecidableEq (Bool × (Int × (List ((List Int) × Int × Bool × Int × Unit)) × (List Int) × (List Int) × Int × Int × Unit)) := @instDecidableEqProd _ _ inferInstance decState_7
instance decState_5 : DecidableEq (Bool × (Bool × Int × (List ((List Int) × Int × Bool × Int × Unit)) × (List Int) × (List Int) × Int × Int × Unit)) := @instDecidableEqProd _ _ inferInstance decState_6
instance decState_4 : DecidableEq (Bool × (Bool × Bool × Int × (List ((List Int) × Int × Bool × Int × Unit)) × (List Int) × (List Int) × Int × Int × Unit)) := @instDecidableEqProd _ _ inferInstance decState_5
instance decState_3 : DecidableEq (Int × (Bool × Bool × Bool × Int × (List ((List Int) × Int × Bool × Int × Unit)) × (List Int) × (List Int) × Int × Int × Unit)) := @instDecidableEqProd _ _ inferInstance decState_4
instance decState_2 : DecidableEq ((List Bool) × (Int × Bool × Bool × Bool × Int × (List ((List Int) × Int × Bool × Int × Unit)) × (List Int) × (List Int) × Int × Int × Unit)) := @instDecidableEqProd _ _ inferInstance decState_3
instance decState_1 : DecidableEq ((List (Int × Int × Int × Int × Int × Unit)) × ((List Bool) × Int × Bool × Bool × Bool × Int × (List ((List Int) × Int × Bool × Int × Unit)) × (List Int) × (List Int) × Int × Int × Unit)) := @instDecidableEqProd _ _ inferInstance decState_2
instance decState_0 : DecidableEq ((List Int) × ((List (Int × Int × Int × Int × Int × Unit)) × (List Bool) × Int × Bool × Bool × Bool × Int × (List ((List Int) × Int × Bool × Int × Unit)) × (List Int) × (List Int) × Int × Int × Unit)) := @instDecidableEqProd _ _ inferInstance decState_1
instance decCall_5 : DecidableEq (Int × Unit) := @instDecidableEqProd _ _ inferInstance inferInstance
instance decCall_4 : DecidableEq (Int × (Int × Unit)) := @instDecidableEqProd _ _ inferInstance decCall_5
instance decCall_3 : DecidableEq (Int × (Int × Int × Unit)) := @instDecidableEqProd _ _ inferInstance decCall_4
instance decCall_2 : DecidableEq (Int × (Int × Int × Int × Unit)) := @instDecidableEqProd _ _ inferInstance decCall_3
instance decCall_1 : DecidableEq (Int × (Int × Int × Int × Int × Unit)) := @instDecidableEqProd _ _ inferInstance decCall_2
instance decCall_0 : DecidableEq (Int × (Int × Int × Int × Int × Int × Unit)) := @instDecidableEqProd _ _ inferInstance decCall_1
theorem stWf {s : Stx} (h : Wf tState s) (l : lnT tState s) : s.1.length ≤ 1048576 ∧ s.2.1.length ≤ 1048576 ∧ s.2.2.1.length ≤ 1048576 ∧ (∀ x ∈ s.1, -9223372036854775808 ≤ x ∧ x < 9223372036854775808) ∧ (∀ x ∈ s.2.1, -9223372036854775808 ≤ x.2.1 ∧ x.2.1 < 9223372036854775808) :=
 ⟨l.1.1, l.2.1.1, l.2.2.1.1, fun x hx => wf_i64 (h.1.2 x hx), fun x hx => wf_i64 (h.2.1.2 x hx).2.1⟩
abbrev Thr := List Int × Int × Bool × Int × Unit
def meetA (l : List Tgx) : List Int → List Int → Option (List Int)
 | [], met => some met
 | a :: rs, met => if a = 0 then meetA l rs met else match findT l a with
  | none => none
  | some t => meetA l rs (if t.2.1 ∈ met then met else met ++ [t.2.1])
def refsT (l : List Tgx) (a : Int) : List Int := match findT l a with
 | some t => t.2.2.2.1
 | none => []
def reachA (l : List Tgx) : Nat → Nat → List Int → Option (List Int)
 | 0, _, met => some met
 | m + 1, k, met => if k < met.length then (match meetA l (refsT l (met.getD k 0)) met with
  | none => none
  | some met' => reachA l m (k + 1) met') else some met
def thrOk (t : Thr) : Bool := decide (t.1.length ≤ 8) && (decide (0 ≤ t.2.2.2.1) && decide (t.2.2.2.1 ≤ 2))
def pinOk (l : List Tgx) (tb : List Rgx) (a : Int) : Bool := match findT l a with
 | none => false
 | some t => decide (t.2.1 = a) && !(fromB tb a)
abbrev stPh (s : Stx) : Int := s.2.2.2.1
abbrev stThr (s : Stx) : List Thr := s.2.2.2.2.2.2.2.2.1
abbrev stPins (s : Stx) : List Int := s.2.2.2.2.2.2.2.2.2.2.1
def headOk (s : Stx) : Bool := decide (0 ≤ stPh s) && (decide (stPh s ≤ 3) && (decide (1 ≤ (stThr s).length) && (decide ((stThr s).length ≤ 3) && decide ((stPins s).length ≤ 8))))
def rootsL (ts : List Thr) : List Int := ts.flatMap fun t => t.1
def stThings (s : Stx) : Option (List Tgx) := if wholeB s.1 s.2.1 s.2.2.1 = true then thingsAll s.1 s.2.1 else none
def metOf (l : List Tgx) (s : Stx) : Option (List Int) :=
 if (l.all (movOk l s.2.1) && (headOk s && ((stThr s).all thrOk && (stPins s).all (pinOk l s.2.1)))) = true then
  (meetA l (rootsL (stThr s) ++ stPins s) []).bind (reachA l l.length 0)
 else none
def heapOf (s : Stx) : Option (List Tgx × List Int) := match stThings s with
 | none => none
 | some l => (metOf l s).map fun m => (l, m)
theorem meetA_append {l : List Tgx} : ∀ (rs bs met : List Int), meetA l (rs ++ bs) met = (meetA l rs met).bind (meetA l bs)
 | [], bs, met => rfl
 | a :: rs, bs, met => by
  simp only [List.cons_append, meetA]
  split
  ·exact meetA_append rs bs met
  ·cases findT l a with
   | none => rfl
   | some t => exact meetA_append rs bs _
structure MetOk (l : List Tgx) (met : List Int) : Prop where
 nd : met.Nodup
 self : ∀ n ∈ met, ∃ t, findT l n = some t ∧ t.2.1 = n
theorem MetOk.nil {l : List Tgx} : MetOk l [] := ⟨List.nodup_nil, by simp⟩
theorem movOk_self {l : List Tgx} {tb : List Rgx} (hp : l.Pairwise (fun x y => x.1 < y.1)) (hm : l.all (movOk l tb) = true) {t : Tgx} (ht : t ∈ l) : ∃ k, findT l t.2.1 = some k ∧ k.2.1 = t.2.1 ∧ k.2.2.1 = t.2.2.1 := by
 have h := List.all_eq_true.1 hm t ht
 unfold movOk at h
 split at h
 ·rename_i e
  exact ⟨t, by rw [e]; exact findT_self hp ht, rfl, rfl⟩
 ·cases hf : findT l t.2.1 with
  | none => rw [hf] at h; cases h
  | some k =>
   rw [hf] at h
   simp only [Bool.and_eq_true, decide_eq_true_eq] at h
   exact ⟨k, rfl, by rw [h.2.1, (findT_mem hf).2], h.1⟩
theorem MetOk.push {l : List Tgx} {tb : List Rgx} (hp : l.Pairwise (fun x y => x.1 < y.1)) (hm : l.all (movOk l tb) = true) {met : List Int} (h : MetOk l met) {t : Tgx} (ht : t ∈ l) (hn : t.2.1 ∉ met) : MetOk l (met ++ [t.2.1]) := by
 refine ⟨?_, ?_⟩
 ·rw [List.nodup_append]
  refine ⟨h.nd, by simp, ?_⟩
  intro a ha b hb e
  simp only [List.mem_singleton] at hb
  subst hb; subst e
  exact hn ha
 ·intro n hn
  rcases List.mem_append.1 hn with hn | hn
  ·exact h.self n hn
  ·simp only [List.mem_singleton] at hn
   subst hn
   obtain ⟨k, h1, h2, _⟩ := movOk_self hp hm ht
   exact ⟨k, h1, h2⟩
theorem MetOk.meet {l : List Tgx} {tb : List Rgx} (hp : l.Pairwise (fun x y => x.1 < y.1)) (hm : l.all (movOk l tb) = true) : ∀ {rs met met' : List Int}, MetOk l met → meetA l rs met = some met' → MetOk l met'
 | [], met, met', h, e => by simp only [meetA, Option.some.injEq] at e; subst e; exact h
 | a :: rs, met, met', h, e => by
  simp only [meetA] at e
  split at e
  ·exact MetOk.meet hp hm h e
  ·cases hf : findT l a with
   | none => rw [hf] at e; cases e
   | some t =>
    rw [hf] at e
    dsimp only at e
    by_cases hc : t.2.1 ∈ met
    ·rw [if_pos hc] at e; exact MetOk.meet hp hm h e
    ·rw [if_neg hc] at e; exact MetOk.meet hp hm (h.push hp hm (findT_mem hf).1 hc) e
theorem MetOk.reach {l : List Tgx} {tb : List Rgx} (hp : l.Pairwise (fun x y => x.1 < y.1)) (hm : l.all (movOk l tb) = true) : ∀ {m k : Nat} {met met' : List Int}, MetOk l met → reachA l m k met = some met' → MetOk l met'
 | 0, k, met, met', h, e => by simp only [reachA, Option.some.injEq] at e; subst e; exact h
 | m + 1, k, met, met', h, e => by
  simp only [reachA] at e
  split at e
  ·cases hq : meetA l (refsT l (met.getD k 0)) met with
   | none => rw [hq] at e; cases e
   | some met1 => rw [hq] at e; exact MetOk.reach hp hm (h.meet hp hm hq) e
  ·simp only [Option.some.injEq] at e; subst e; exact h
theorem MetOk.mem {l : List Tgx} {met : List Int} (h : MetOk l met) {n : Int} (hn : n ∈ met) : n ∈ l.map (·.1) := by
 obtain ⟨t, h1, _⟩ := h.self n hn
 have := findT_mem h1
 exact List.mem_map.2 ⟨t, this.1, this.2⟩
theorem nodup_sub_len : ∀ {a b : List Int}, a.Nodup → (∀ x ∈ a, x ∈ b) → a.length ≤ b.length
 | [], _, _, _ => Nat.zero_le _
 | x :: a, b, hn, h => by
  rw [List.nodup_cons] at hn
  have hx := h x (by simp)
  have := nodup_sub_len (a := a) (b := b.erase x) hn.2 (fun y hy => by
   have hne : y ≠ x := fun e => hn.1 (e ▸ hy)
   exact (List.mem_erase_of_ne hne).2 (h y (by simp [hy])))
  rw [List.length_erase_of_mem hx] at this
  have hp : 0 < b.length := List.length_pos_of_mem hx
  simp only [List.length_cons]; omega
theorem MetOk.len {l : List Tgx} {met : List Int} (h : MetOk l met) : met.length ≤ l.length := by
 have := nodup_sub_len h.nd (fun x hx => h.mem hx)
 simpa using this
theorem stThings_some {s : Stx} {l : List Tgx} (h : stThings s = some l) : wholeB s.1 s.2.1 s.2.2.1 = true ∧ thingsAll s.1 s.2.1 = some l := by
 unfold stThings at h
 split at h
 ·rename_i hw; exact ⟨hw, h⟩
 ·cases h
theorem stThings_rng {s : Stx} {l : List Tgx} (h : stThings s = some l) : l.Pairwise (fun x y => x.1 < y.1) ∧ (∀ t ∈ l, 16 ≤ t.1 ∧ t.1 < 192 ∧ (t.1 / 16).toNat < s.2.1.length ∧ thingAt s.1 t.1 = some t) ∧ l.length ≤ 187 := by
 obtain ⟨hw, ht⟩ := stThings_some h
 obtain ⟨a1, a2, a3⟩ := thingsAll_at ht
 have hr := thing_rng hw ht
 have := tableOk_iff (wholeB_iff.1 hw).2.1
 exact ⟨a1, fun t htm => ⟨(hr t htm).1, (hr t htm).2.1, (hr t htm).2.2, (a2 t htm).2.1⟩, by omega⟩
structure Hp (s : Stx) (l : List Tgx) : Prop where
 th : stThings s = some l
 mv : l.all (movOk l s.2.1) = true
theorem Hp.pw {s : Stx} {l : List Tgx} (C : Hp s l) : l.Pairwise (fun x y => x.1 < y.1) := (stThings_rng C.th).1
theorem Hp.rng {s : Stx} {l : List Tgx} (C : Hp s l) : ∀ t ∈ l, 16 ≤ t.1 ∧ t.1 < 192 ∧ (t.1 / 16).toNat < s.2.1.length ∧ thingAt s.1 t.1 = some t := (stThings_rng C.th).2.1
theorem Hp.len {s : Stx} {l : List Tgx} (C : Hp s l) : l.length ≤ 187 := (stThings_rng C.th).2.2
theorem Hp.self {s : Stx} {l : List Tgx} (C : Hp s l) {t : Tgx} (ht : t ∈ l) : ∃ k, findT l t.2.1 = some k ∧ k.2.1 = t.2.1 ∧ k.2.2.1 = t.2.2.1 := movOk_self C.pw C.mv ht
theorem Hp.now {s : Stx} {l : List Tgx} (C : Hp s l) {t : Tgx} (ht : t ∈ l) : 16 ≤ t.2.1 ∧ t.2.1 < 192 := by
 obtain ⟨k, h1, _⟩ := C.self ht
 obtain ⟨h2, h3⟩ := findT_mem h1
 have := C.rng k h2
 omega
theorem Hp.met {s : Stx} {l : List Tgx} (C : Hp s l) {met : List Int} (h : MetOk l met) : met.length ≤ 187 := by
 have := h.len; have := C.len; omega
theorem Hp.refs {s : Stx} {l : List Tgx} (C : Hp s l) {t : Tgx} (ht : t ∈ l) : t.2.2.2.1.length ≤ 4 := by
 obtain ⟨_, h1, _, _, h2, _⟩ := thingAt_some (C.rng t ht).2.2.2
 have := shOk_iff.1 h1
 omega
theorem Hp.push {s : Stx} {l : List Tgx} (C : Hp s l) {met : List Int} (h : MetOk l met) {t : Tgx} (ht : t ∈ l) : MetOk l (if t.2.1 ∈ met then met else met ++ [t.2.1]) := by
 split
 ·exact h
 ·rename_i hc; exact h.push C.pw C.mv ht hc
theorem meetA_len {l : List Tgx} : ∀ {rs met met' : List Int}, meetA l rs met = some met' → met.length ≤ met'.length
 | [], met, met', e => by simp only [meetA, Option.some.injEq] at e; subst e; exact Nat.le_refl _
 | a :: rs, met, met', e => by
  simp only [meetA] at e
  split at e
  ·exact meetA_len e
  ·cases hf : findT l a with
   | none => rw [hf] at e; cases e
   | some t =>
    rw [hf] at e
    dsimp only at e
    have := meetA_len e
    split at this
    ·exact this
    ·simp only [List.length_append, List.length_singleton] at this; omega
theorem meet_loop {s : Stx} {l : List Tgx} (C : Hp s l) {ρ : Type} {rs : List Int} (has : rs.length ≤ lim) {L : Nat → Nat → List Int → Option ρ} {yes : List Int → Option ρ} {no : Option ρ}
  (h0 : ∀ n i met (h : i < rs.length), MetOk l met → w64 ((i : Int) + 1) = ((i + 1 : Nat) : Int) → rs[i] = 0 → L (n + 1) i met = L n (i + 1) met)
  (h1 : ∀ n i met (h : i < rs.length), MetOk l met → rs[i] ≠ 0 → findT l rs[i] = none → L (n + 1) i met = no)
  (h2 : ∀ n i met (h : i < rs.length) t, MetOk l met → w64 ((i : Int) + 1) = ((i + 1 : Nat) : Int) → rs[i] ≠ 0 → findT l rs[i] = some t → t ∈ l → t.2.1 ≠ 0 → met.length + 1 ≤ lim → L (n + 1) i met = L n (i + 1) (if t.2.1 ∈ met then met else met ++ [t.2.1]))
  (h3 : ∀ n met, MetOk l met → L (n + 1) rs.length met = yes met) {n : Nat} (hn : rs.length < n) {met : List Int} (hM : MetOk l met) :
  L n 0 met = match meetA l rs met with | some m => yes m | none => no := by
 have key : ∀ n i met, i ≤ rs.length → rs.length - i < n → MetOk l met → L n i met = match meetA l (rs.drop i) met with | some m => yes m | none => no := by
  intro n
  induction n with
  | zero => intro i met _ h; exact absurd h (Nat.not_lt_zero _)
  | succ n ih =>
   intro i met hi hn hM
   by_cases h : i < rs.length
   ·have hw : w64 ((i : Int) + 1) = ((i + 1 : Nat) : Int) := w64_succ (by have : lim = 2147483648 := rfl; omega)
    rw [drop_at h]
    simp only [meetA]
    by_cases ha : rs[i] = 0
    ·rw [if_pos ha, h0 n i met h hM hw ha]
     exact ih (i + 1) met (by omega) (by omega) hM
    ·rw [if_neg ha]
     cases hf : findT l rs[i] with
     | none => exact h1 n i met h hM ha hf
     | some t =>
      have ht := (findT_mem hf).1
      have hl := C.met hM
      rw [h2 n i met h t hM hw ha hf ht (by have := C.now ht; omega) (by rw [lim_eq]; omega)]
      exact ih (i + 1) _ (by omega) (by omega) (C.push hM ht)
   ·have : i = rs.length := by omega
    subst this
    rw [h3 n met hM]
    simp [meetA]
 simpa using key n 0 met (by omega) (by omega) hM
theorem reach_loop {s : Stx} {l : List Tgx} (C : Hp s l) {ρ : Type} {L : Nat → Nat → List Int → Option ρ} {yes : List Int → Option ρ} {no : Option ρ}
  (h1 : ∀ (n k : Nat) (met : List Int) (h : k < met.length) (t : Tgx), MetOk l met → w64 ((k : Int) + 1) = ((k + 1 : Nat) : Int) → findT l met[k] = some t → t ∈ l → t.2.1 = met[k] → L (n + 1) k met = match meetA l t.2.2.2.1 met with | some m => L n (k + 1) m | none => no)
  (h3 : ∀ n met, MetOk l met → L (n + 1) met.length met = yes met) {n : Nat} (hn : l.length < n) {met : List Int} (hM : MetOk l met) :
  L n 0 met = match reachA l l.length 0 met with | some m => yes m | none => no := by
 have key : ∀ d n k met, l.length ≤ k + d → d < n → k ≤ met.length → MetOk l met → L n k met = match reachA l d k met with | some m => yes m | none => no := by
  intro d
  induction d with
  | zero =>
   intro n k met hd hn hk hM
   obtain ⟨n, rfl⟩ : ∃ m, n = m + 1 := ⟨n - 1, by omega⟩
   have := hM.len
   have : k = met.length := by omega
   subst this
   exact h3 n met hM
  | succ d ih =>
   intro n k met hd hn hk hM
   obtain ⟨n, rfl⟩ : ∃ m, n = m + 1 := ⟨n - 1, by omega⟩
   have hl := C.met hM
   simp only [reachA]
   by_cases h : k < met.length
   ·obtain ⟨t, hf, e⟩ := hM.self _ (List.getElem_mem h)
    rw [if_pos h, h1 n k met h t hM (w64_succ (by omega)) hf (findT_mem hf).1 e, getD_lt h]
    have er : refsT l met[k] = t.2.2.2.1 := by simp only [refsT, hf]
    rw [er]
    cases hq : meetA l t.2.2.2.1 met with
    | none => rfl
    | some m =>
     have := meetA_len hq
     exact ih n (k + 1) m (by omega) (by omega) (by omega) (hM.meet C.pw C.mv hq)
   ·have : k = met.length := by omega
    subst this
    rw [if_neg (Nat.lt_irrefl _)]
    exact h3 n met hM
 exact key l.length n 0 met (by omega) hn (by omega) hM
def putA (had : List Int) (a : Int) : List Int := if a = 0 ∨ a ∈ had then had else had ++ [a]
def meetT (l : List Tgx) : List Thr → List Int → Option (List Int)
 | [], met => some met
 | t :: ts, met => if thrOk t = true then (meetA l t.1 met).bind (meetT l ts) else none
def meetP (l : List Tgx) (tb : List Rgx) : List Int → List Int → Option (List Int)
 | [], met => some met
 | a :: rs, met => if pinOk l tb a = true then meetP l tb rs (putA met a) else none
theorem meetT_eq {l : List Tgx} : ∀ (ts : List Thr) (met : List Int), meetT l ts met = if ts.all thrOk = true then meetA l (rootsL ts) met else none
 | [], met => rfl
 | t :: ts, met => by
  simp only [meetT, List.all_cons, Bool.and_eq_true]
  by_cases h : thrOk t = true
  ·simp only [h, if_true, true_and]
   have : rootsL (t :: ts) = t.1 ++ rootsL ts := rfl
   rw [this, meetA_append]
   by_cases h2 : ts.all thrOk = true
   ·simp only [h2, if_true]
    congr 1
    funext m
    rw [meetT_eq ts m, if_pos h2]
   ·simp only [h2, if_false]
    cases meetA l t.1 met with
    | none => rfl
    | some m => simp only [Option.bind_some]; rw [meetT_eq ts m, if_neg h2]; rfl
  ·simp only [h, if_false, false_and]; rfl
theorem pinOk_some {l : List Tgx} {tb : List Rgx} {a : Int} (h : pinOk l tb a = true) : ∃ t, findT l a = some t ∧ t.2.1 = a ∧ fromB tb a = false := by
 unfold pinOk at h
 cases hf : findT l a with
 | none => rw [hf] at h; cases h
 | some t =>
  rw [hf] at h
  simp only [Bool.and_eq_true, decide_eq_true_eq, Bool.not_eq_true'] at h
  exact ⟨t, rfl, h.1, h.2⟩
theorem meetP_eq {s : Stx} {l : List Tgx} (C : Hp s l) : ∀ (rs met : List Int), meetP l s.2.1 rs met = if rs.all (pinOk l s.2.1) = true then meetA l rs met else none
 | [], met => rfl
 | a :: rs, met => by
  simp only [meetP, List.all_cons, Bool.and_eq_true]
  by_cases h : pinOk l s.2.1 a = true
  ·obtain ⟨t, h1, h2, _⟩ := pinOk_some h
   obtain ⟨h3, h4⟩ := findT_mem h1
   have := C.rng t h3
   have ha : ¬ a = 0 := by omega
   simp only [h, if_true, true_and, meetA, ha, if_false, h1, h2]
   rw [meetP_eq C rs]
   simp only [putA, ha, false_or]
  ·simp only [h, if_false, false_and]; rfl
theorem heapOf_eq {s : Stx} {l : List Tgx} (C : Hp s l) (hh : headOk s = true) : heapOf s = ((meetT l (stThr s) []).bind fun m => (meetP l s.2.1 (stPins s) m).bind fun m => (reachA l l.length 0 m).map fun m => (l, m)) := by
 simp only [heapOf, C.th, metOf, C.mv, hh, Bool.true_and, meetT_eq, meetP_eq C]
 by_cases h1 : (stThr s).all thrOk = true
 ·simp only [h1, Bool.true_and, if_true]
  by_cases h2 : (stPins s).all (pinOk l s.2.1) = true
  ·simp only [h2, if_true, meetA_append]
   cases meetA l (rootsL (stThr s)) [] with
   | none => rfl
   | some m =>
    simp only [Option.bind_some]
    cases meetA l (stPins s) m with
    | none => rfl
    | some m => rfl
  ·simp only [h2, if_false]
   cases meetA l (rootsL (stThr s)) [] <;> rfl
 ·simp only [h1, Bool.false_and, if_false]; rfl
theorem stWf2 {s : Stx} (l : lnT tState s) : (stThr s).length ≤ 1048576 ∧ (∀ t ∈ stThr s, t.1.length ≤ 1048576) ∧ (stPins s).length ≤ 1048576 := by
 have h := l.2.2.2.2.2.2.2.2.1
 exact ⟨h.1, fun t ht => (h.2 t ht).1.1, l.2.2.2.2.2.2.2.2.2.2.1.1⟩
section
variable {N : Nat} (hN : lim < N)
include hN
theorem sl6Find_ok {l : List Tgx} {a : Int} (hl : l.length ≤ 1048576) : Fsl6Find N (l, a, ()) = some (match l.findIdx? (fun t => decide (t.1 = a)) with | some i => (i : Int) | none => -1, ()) := by
 have hlim : lim = 2147483648 := rfl
 have hL := find_loop (xs := l) (n := N) (fun t => decide (t.1 = a)) (L := fun n i => lsl6Find_0 N n (l, a, (i : Int), ())) (yes := fun i => .inr ((i : Int), ())) (no := .inl ()) (by omega)
  (fun n i h hw hq => by
   have : ¬ l[i].1 = a := by simpa using hq
   simp [lsl6Find_0, h, hw, this])
  (fun n i h hq => by
   have : l[i].1 = a := by simpa using hq
   simp [lsl6Find_0, h, this])
  (fun n => by simp [lsl6Find_0]) (by omega)
 simp only [Int.natCast_zero] at hL
 simp only [Fsl6Find, hL, Option.bind_some]
 cases l.findIdx? (fun t => decide (t.1 = a)) <;> rfl
theorem sFind_none {l : List Tgx} {a : Int} (hl : l.length ≤ 1048576) (h : findT l a = none) : Fsl6Find N (l, a, ()) = some (-1, ()) := by
 unfold findT at h
 rw [find_of_idx] at h
 rw [sl6Find_ok hN hl]
 cases hf : l.findIdx? (fun t => decide (t.1 = a)) with
 | none => rfl
 | some k =>
  obtain ⟨hk, _, _⟩ := List.findIdx?_eq_some_iff_getElem.1 hf
  rw [hf] at h
  simp [hk] at h
theorem sFind_some {l : List Tgx} {a : Int} {t : Tgx} (hl : l.length ≤ 1048576) (h : findT l a = some t) : ∃ (k : Nat) (hk : k < l.length), l[k] = t ∧ Fsl6Find N (l, a, ()) = some ((k : Int), ()) := by
 unfold findT at h
 rw [find_of_idx] at h
 rw [sl6Find_ok hN hl]
 cases hf : l.findIdx? (fun t => decide (t.1 = a)) with
 | none => rw [hf] at h; cases h
 | some k =>
  obtain ⟨hk, _, _⟩ := List.findIdx?_eq_some_iff_getElem.1 hf
  rw [hf] at h
  simp only [Option.bind_some, List.getElem?_eq_getElem hk, Option.some.injEq] at h
  exact ⟨k, hk, h, rfl⟩
theorem sNow_zero {l : List Tgx} : Fsl6Now N (l, 0, ()) = some (0, ()) := by
 simp [Fsl6Now]
theorem sNow_some {l : List Tgx} {a : Int} {t : Tgx} (hl : l.length ≤ 1048576) (ha : a ≠ 0) (h : findT l a = some t) : Fsl6Now N (l, a, ()) = some (t.2.1, ()) := by
 obtain ⟨k, hk, h1, h2⟩ := sFind_some hN hl h
 simp only [Fsl6Now, bif_beq, ha, if_false, h2, Option.bind_some, Int.natCast_nonneg, Int.toNat_natCast, hk, decide_true, cond_true, getD_lt hk, h1]
theorem sPlace_ok {xs : List Int} {r : Int} (hl : xs.length ≤ 1048576) : Fsl5Place N (xs, r, ()) = some (match xs.findIdx? (fun x => decide (x = r)) with | some i => (i : Int) | none => -1, ()) := by
 have hlim : lim = 2147483648 := rfl
 have hL := find_loop (xs := xs) (n := N) (fun x => decide (x = r)) (L := fun n i => lsl5Place_0 N n (xs, r, (i : Int), ())) (yes := fun i => .inr ((i : Int), ())) (no := .inl ()) (by omega)
  (fun n i h hw hq => by
   simp at hq
   simp [lsl5Place_0, h, hw, hq])
  (fun n i h hq => by
   simp at hq
   simp [lsl5Place_0, h, hq])
  (fun n => by simp [lsl5Place_0]) (by omega)
 simp only [Int.natCast_zero] at hL
 simp only [Fsl5Place, hL, Option.bind_some]
 cases xs.findIdx? (fun x => decide (x = r)) <;> rfl
theorem sPlace_in {xs : List Int} {r : Int} (hl : xs.length ≤ 1048576) (h : r ∈ xs) : ∃ (k : Nat) (hk : k < xs.length), xs[k] = r ∧ Fsl5Place N (xs, r, ()) = some ((k : Int), ()) := by
 rw [sPlace_ok hN hl]
 cases hf : xs.findIdx? (fun x => decide (x = r)) with
 | none => rw [List.findIdx?_eq_none_iff] at hf; have := hf r h; simp at this
 | some k =>
  obtain ⟨hk, h1, _⟩ := List.findIdx?_eq_some_iff_getElem.1 hf
  exact ⟨k, hk, by simpa using h1, rfl⟩
theorem sPlace_not {xs : List Int} {r : Int} (hl : xs.length ≤ 1048576) (h : r ∉ xs) : Fsl5Place N (xs, r, ()) = some (-1, ()) := by
 rw [sPlace_ok hN hl]
 cases hf : xs.findIdx? (fun x => decide (x = r)) with
 | none => rfl
 | some k =>
  obtain ⟨hk, h1, _⟩ := List.findIdx?_eq_some_iff_getElem.1 hf
  have : xs[k] = r := by simpa using h1
  exact absurd (this ▸ List.getElem_mem hk) h
theorem sPut_ok {had : List Int} {a : Int} (hl : had.length ≤ 1048576) : Fsl6Put N (a, had, ()) = some (putA had a, ()) := by
 have hlim : lim = 2147483648 := rfl
 unfold Fsl6Put putA
 by_cases ha : a = 0
 ·simp [ha]
 ·by_cases hm : a ∈ had
  ·obtain ⟨k, hk, _, e⟩ := sPlace_in hN hl hm
   have : (k : Int) ≥ 0 := by omega
   simp only [bif_beq, ha, if_false, e, Option.bind_some, this, decide_true, cond_true, Sum.elim_inr, hm, or_true, if_true]
  ·have l1 : had.length + [a].length ≤ lim := by simp only [List.length_singleton]; omega
   simp only [bif_beq, ha, if_false, sPlace_not hN hl hm, Option.bind_some, show decide ((-1 : Int) ≥ 0) = false from rfl, cond_false, Sum.elim_inl, l1, decide_true, cond_true, hm, or_self]
end
section
variable {N : Nat}
theorem sWordsOk_ok {w : List Int} (hl : w.length ≤ 1048576) : FsWordsOk N (w, ()) = some (wordsOk w, ()) := by
 unfold FsWordsOk wordsOk
 dsimp only
 have e1 : w64 (Int.tdiv (w.length : Int) 16) = ((w.length / 16 : Nat) : Int) := by
  rw [Int.tdiv_eq_ediv_of_nonneg (by omega), w64_id (by omega) (by omega)]; omega
 have e2 : Int.tmod (w.length : Int) 16 = ((w.length % 16 : Nat) : Int) := by rw [Int.tmod_eq_emod_of_nonneg (by omega)]; omega
 simp only [e1, e2, show decide ((16 : Int) = 0) = false from rfl, cond_false, bif_beq]
 by_cases h : w.length % 16 = 0
 ·have h1 : ((w.length % 16 : Nat) : Int) = 0 := by omega
  have h2 : decide (((w.length / 16 : Nat) : Int) ≥ 2) = decide (32 ≤ w.length) := by by_cases h3 : 32 ≤ w.length <;> simp [h3] <;> omega
  have h4 : decide (((w.length / 16 : Nat) : Int) ≤ 12) = decide (w.length ≤ 192) := by by_cases h3 : w.length ≤ 192 <;> simp [h3] <;> omega
  rw [if_pos h1, h2, h4]
  cases decide (32 ≤ w.length) <;> simp [h]
 ·have h1 : ¬ ((w.length % 16 : Nat) : Int) = 0 := by omega
  rw [if_neg h1]
  simp [h]
theorem sRegionOf_ok {a : Int} (h : a < 9223372036854775808) : FsRegionOf N (a, ()) = some (regOf a, ()) := by
 unfold FsRegionOf regOf
 dsimp only
 by_cases h0 : a < 0
 ·simp [h0]
 ·have e1 : w64 (Int.tdiv a 16) = a / 16 := by
   rw [Int.tdiv_eq_ediv_of_nonneg (by omega), w64_id (by omega) (by omega)]
  simp only [h0, decide_false, cond_false, show decide ((16 : Int) = 0) = false from rfl, e1, if_false]
theorem sl3Fits_ok {w : List Int} {a n : Int} (hl : w.length ≤ 1048576) : Fsl3Fits N (w, a, n, ()) = some (fitsB w a n, ()) := by
 unfold Fsl3Fits fitsB
 simp only [sWordsOk_ok hl, Option.bind_some]
 cases hw : wordsOk w with
 | false => simp
 | true =>
  by_cases h1 : 1 ≤ n
  ·have h1' : n > 0 := by omega
   by_cases h2 : n ≤ 16
   ·by_cases h3 : 16 ≤ a
    ·by_cases h4 : a < (w.length : Int)
     ·have e1 := sRegionOf_ok (N := N) (a := a) (by omega)
      have e2 := sRegionOf_ok (N := N) (a := a + n - 1) (by omega)
      have e3 : w64 (a + n) = a + n := w64_id (by omega) (by omega)
      have e4 : w64 (a + n - 1) = a + n - 1 := w64_id (by omega) (by omega)
      simp only [h1, h1', h2, h3, h4, ge_iff_le, e1, e2, e3, e4, decide_true, cond_true, Option.bind_some, Bool.true_and]
      have h5 : (regOf a == regOf (a + n - 1)) = decide (a % 16 + n ≤ 16) := by
       have n1 : ¬ a < 0 := by omega
       have n2 : ¬ a + n - 1 < 0 := by omega
       simp only [regOf, n1, n2, if_false]
       by_cases h6 : a % 16 + n ≤ 16
       ·have : a / 16 = (a + n - 1) / 16 := by omega
        simp [h6, this]
       ·have : ¬ a / 16 = (a + n - 1) / 16 := by omega
        simp [h6, this]
      rw [h5]
     ·simp [h1, h1', h2, h3, h4]
    ·simp [h1, h1', h2, h3]
   ·have : ¬ a % 16 + n ≤ 16 := by omega
    simp [h1', h2, this]
  ·have h1' : ¬ n > 0 := by omega
   simp [h1, h1']
theorem sShapeOk_ok {s : Shx} : FsShapeOk N (s, ()) = some (shOk s, ()) := by
 unfold FsShapeOk shOk
 dsimp only
 by_cases h1 : 0 ≤ s.1 <;> by_cases h2 : s.1 ≤ 4 <;> by_cases h3 : 0 ≤ s.2.1 <;> simp [h1, h2, h3]
theorem sShapeSize_ok {s : Shx} : FsShapeSize N (s, ()) = some (shSz s, ()) := by
 unfold FsShapeSize shSz
 simp only [sShapeOk_ok, Option.bind_some]
 cases h : shOk s with
 | false => simp
 | true =>
  have := shOk_iff.1 h
  have e1 : w64 (2 + s.1) = 2 + s.1 := w64_id (by omega) (by omega)
  have e2 : w64 (2 + s.1 + s.2.1) = 2 + s.1 + s.2.1 := w64_id (by omega) (by omega)
  simp only [Bool.not_true, cond_false, e1, e2, if_true]
theorem sShapeWord_ok {s : Shx} : FsShapeWord N (s, ()) = some (shWd s, ()) := by
 unfold FsShapeWord shWd
 simp only [sShapeOk_ok, Option.bind_some]
 cases h : shOk s with
 | false => simp
 | true =>
  have := shOk_iff.1 h
  have e1 : w64 (16 * s.1) = 16 * s.1 := w64_id (by omega) (by omega)
  have e2 : w64 (16 * s.1 + s.2.1) = 16 * s.1 + s.2.1 := w64_id (by omega) (by omega)
  simp only [Bool.not_true, cond_false, e1, e2, if_true]
end
section
variable {N : Nat} (hN : lim < N)
theorem sRegionBase_ok {r : Int} : FsRegionBase N (r, ()) = some (regBase r, ()) := by
 unfold FsRegionBase regBase
 dsimp only
 by_cases h1 : r < 0
 ·simp [h1]
 ·by_cases h2 : r ≥ 12
  ·simp only [h1, h2, decide_true, decide_false, cond_true, cond_false, or_true, if_true]
  ·have e : w64 (r * 16) = 16 * r := by rw [w64_id (by omega) (by omega)]; omega
   simp only [h1, h2, decide_false, cond_false, or_self, if_false, e]
include hN
end
section
variable {N : Nat} (hN : lim < N)
include hN
theorem sShapeOf_ok {w : Int} (hw : w < 9223372036854775808) (hw' : -9223372036854775808 ≤ w) : FsShapeOf N (w, ()) = some (match shOf w with | some s => (s.1, s.2.1, true, ()) | none => (0, 0, false, ())) := by
 have hlim : lim = 2147483648 := rfl
 have wd : ∀ r m : Int, 0 ≤ r → r ≤ 4 → 0 ≤ m → m ≤ 4 → FsShapeWord N ((r, m, ()), ()) = some (16 * r + m, ()) := by
  intro r m h1 h2 h3 h4
  rw [sShapeWord_ok, shWd, if_pos (shOk_iff.2 ⟨h1, h2, h3, h4⟩)]
 have L2 : ∀ (n k : Nat) (r : Int), 0 ≤ r → r ≤ 4 → k ≤ 5 → 5 - k < n → lsShapeOf_2 N n (w, r, (k : Int), 0, 0, ()) = some (if 16 * r + k ≤ w ∧ w ≤ 16 * r + 4 then .inr (true, r, w - 16 * r, ()) else .inl (w, r, 0, 0, ())) := by
  intro n
  induction n with
  | zero => intro k r _ _ _ h; exact absurd h (Nat.not_lt_zero _)
  | succ n ih =>
   intro k r h0 h4 hk hn
   unfold lsShapeOf_2
   dsimp only
   by_cases h : (k : Int) ≤ 4
   ·have e := wd r k h0 h4 (by omega) h
    have e1 : w64 ((k : Int) + 1) = ((k + 1 : Nat) : Int) := w64_succ (by omega)
    simp only [h, decide_true, cond_true, e, Option.bind_some, bif_beq, e1]
    by_cases hq : 16 * r + (k : Int) = w
    ·rw [if_pos hq, if_pos (by omega)]
     have : w - 16 * r = (k : Int) := by omega
     rw [this]
    ·rw [if_neg hq, ih (k + 1) r h0 h4 (by omega) (by omega)]
     by_cases hc : 16 * r + (k : Int) ≤ w ∧ w ≤ 16 * r + 4
     ·rw [if_pos hc, if_pos (by omega)]
     ·rw [if_neg hc, if_neg (by omega)]
   ·have : k = 5 := by omega
    subst this
    rw [if_neg (by omega)]
    simp
 have L0 : ∀ (n k : Nat), k ≤ 5 → 5 - k < n → lsShapeOf_0 N n (w, (k : Int), 0, 0, ()) = some (match (if 16 * (k : Int) ≤ w then shOf w else none) with | some s => .inr (true, s.1, s.2.1, ()) | none => .inl (0, 0, ())) := by
  intro n
  induction n with
  | zero => intro k _ h; exact absurd h (Nat.not_lt_zero _)
  | succ n ih =>
   intro k hk hn
   unfold lsShapeOf_0
   dsimp only
   by_cases h : (k : Int) ≤ 4
   ·have e := L2 N 0 (k : Int) (by omega) h (by omega) (by omega)
    have e1 : w64 ((k : Int) + 1) = ((k + 1 : Nat) : Int) := w64_succ (by omega)
    simp only [Int.natCast_zero, Int.add_zero] at e
    simp only [h, decide_true, cond_true, e, Option.bind_some]
    by_cases hc : 16 * (k : Int) ≤ w ∧ w ≤ 16 * (k : Int) + 4
    ·have e2 : shOf w = some ((k : Int), w - 16 * (k : Int), ()) := by
      unfold shOf
      rw [if_pos (by omega)]
      have : w / 16 = (k : Int) := by omega
      have : w % 16 = w - 16 * (k : Int) := by omega
      simp [*]
     rw [if_pos hc, if_pos hc.1, e2]
     rfl
    ·rw [if_neg hc]
     simp only [Sum.elim_inl, e1]
     rw [ih (k + 1) (by omega) (by omega)]
     by_cases h2 : 16 * (k : Int) ≤ w
     ·rw [if_pos h2]
      by_cases h3 : 16 * ((k + 1 : Nat) : Int) ≤ w
      ·rw [if_pos h3]
      ·have : shOf w = none := by unfold shOf; rw [if_neg (by omega)]
       rw [if_neg h3, this]
     ·rw [if_neg h2, if_neg (by omega)]
   ·have : k = 5 := by omega
    subst this
    have : (if 16 * ((5 : Nat) : Int) ≤ w then shOf w else none) = none := by
     split
     ·unfold shOf; rw [if_neg (by omega)]
     ·rfl
    rw [this]
    simp
 have := L0 N 0 (by omega) (by omega)
 simp only [Int.natCast_zero, Int.mul_zero] at this
 have e : (if (0 : Int) ≤ w then shOf w else none) = shOf w := by
  split
  ·rfl
  ·unfold shOf; rw [if_neg (by omega)]
 rw [e] at this
 simp only [FsShapeOf, this, Option.bind_some]
 cases shOf w <;> rfl
theorem sThingAt_ok {w : List Int} {a : Int} (hl : w.length ≤ 1048576) (hw : ∀ x ∈ w, -9223372036854775808 ≤ x ∧ x < 9223372036854775808) :
  FsThingAt N (w, a, ()) = some (match thingAt w a with | some t => (t.1, t.2.1, t.2.2.1.1, t.2.2.1.2.1, true, t.2.2.2.1, t.2.2.2.2.1, ()) | none => (0, 0, 0, 0, false, [], [], ())) := by
 have hlim : lim = 2147483648 := rfl
 unfold FsThingAt thingAt
 simp only [sl3Fits_ok hl, Option.bind_some]
 cases hf : fitsB w a 2 with
 | false => simp
 | true =>
  obtain ⟨f1, f2, f3, f4, f5⟩ := fitsB_iff.1 hf
  obtain ⟨g1, g2, g3⟩ := fits_room hf
  have e1 : w64 (a + 1) = a + 1 := w64_id (by omega) (by omega)
  have p1 : (0 : Int) ≤ a + 1 := by omega
  have p2 : (a + 1).toNat < w.length := by omega
  have hx := hw _ (List.getElem_mem p2)
  rw [← getD_lt (d := 0) p2] at hx
  simp only [Bool.not_true, cond_false, e1, p1, p2, decide_true, cond_true, sShapeOf_ok hN hx.2 hx.1, Option.bind_some, if_true]
  cases hs : shOf (w.getD (a + 1).toNat 0) with
  | none => simp
  | some s =>
   obtain ⟨h1, _⟩ := shOf_some hs
   have h2 := shOk_iff.1 h1
   obtain ⟨sr, sm, ⟨⟩⟩ := s
   dsimp only at h2 ⊢
   simp only [Bool.not_true, cond_false, sShapeSize_ok, Option.bind_some]
   cases hf2 : fitsB w a (shSz (sr, sm, ())) with
   | false => simp
   | true =>
    obtain ⟨q1, q2, q3⟩ := fits_room hf2
    have h3 : shSz (sr, sm, ()) = 2 + sr + sm := by unfold shSz; rw [if_pos h1]
    obtain ⟨r, rfl⟩ := Int.eq_ofNat_of_zero_le h2.1
    obtain ⟨m, rfl⟩ := Int.eq_ofNat_of_zero_le h2.2.2.1
    obtain ⟨b, rfl⟩ := Int.eq_ofNat_of_zero_le (show 0 ≤ a by omega)
    have p3 : b < w.length := by omega
    have hL0 := push_loop (m := r) (fun i => w.getD (b + 2 + i) 0) (L := fun n i s => lsThingAt_0 N n (w, (b : Int), (i : Int), 0, 0, 0, 0, (r : Int), (m : Int), (b : Int), w.getD b 0, (r : Int), (m : Int), s, [], ()))
     (fin := fun s => (w, (b : Int), 0, 0, 0, 0, (r : Int), (m : Int), (b : Int), w.getD b 0, (r : Int), (m : Int), s, [], ())) (by omega)
     (fun n i s h hs hw => by
      have h' : (i : Int) < (r : Int) := by omega
      have e2 : w64 ((b : Int) + 2) = (b : Int) + 2 := w64_id (by omega) (by omega)
      have e3 : w64 ((b : Int) + 2 + (i : Int)) = ((b + 2 + i : Nat) : Int) := by rw [w64_id (by omega) (by omega)]; omega
      have p4 : b + 2 + i < w.length := by omega
      have l : s.length + [w.getD (b + 2 + i) 0].length ≤ lim := by simpa using hs
      simp only [lsThingAt_0, h', decide_true, cond_true, e2, e3, Int.natCast_nonneg, Int.toNat_natCast, p4, l, hw])
     (fun n s => by simp [lsThingAt_0]) N 0 [] (by omega) (by omega) (by simp; omega)
    have hL2 := fun S => push_loop (m := m) (fun i => w.getD (b + 2 + r + i) 0) (L := fun n i s => lsThingAt_2 N n (w, (b : Int), (i : Int), 0, 0, 0, 0, (r : Int), (m : Int), (b : Int), w.getD b 0, (r : Int), (m : Int), S, s, ()))
     (fin := fun s => (0, 0, 0, 0, (b : Int), w.getD b 0, (r : Int), (m : Int), S, s, ())) (by omega)
     (fun n i s h hs hw => by
      have h' : (i : Int) < (m : Int) := by omega
      have e2 : w64 ((b : Int) + 2) = (b : Int) + 2 := w64_id (by omega) (by omega)
      have e4 : w64 ((b : Int) + 2 + (r : Int)) = (b : Int) + 2 + (r : Int) := w64_id (by omega) (by omega)
      have e3 : w64 ((b : Int) + 2 + (r : Int) + (i : Int)) = ((b + 2 + r + i : Nat) : Int) := by rw [w64_id (by omega) (by omega)]; omega
      have p4 : b + 2 + r + i < w.length := by omega
      have l : s.length + [w.getD (b + 2 + r + i) 0].length ≤ lim := by simpa using hs
      simp only [lsThingAt_2, h', decide_true, cond_true, e2, e4, e3, Int.natCast_nonneg, Int.toNat_natCast, p4, l, hw])
     (fun n s => by simp [lsThingAt_2]) N 0 [] (by omega) (by omega) (by simp; omega)
    have er := range_get (w := w) r (b + 2) 0 (by omega)
    have em := range_get (w := w) m (b + 2 + r) 0 (by omega)
    simp only [Nat.add_zero] at er em
    simp only [Int.natCast_zero, Nat.sub_zero, List.nil_append, er, em] at hL0 hL2
    simp only [Bool.not_true, cond_false, Option.bind_some, Sum.elim_inl, Int.natCast_nonneg, Int.toNat_natCast, p3, decide_true, cond_true, hL0, hL2, if_true]
theorem sThings_loop {w : List Int} {top : Int} (hl : w.length ≤ 1048576) (hw : ∀ x ∈ w, -9223372036854775808 ≤ x ∧ x < 9223372036854775808) (ht : top ≤ 208) : ∀ (k n : Nat) (a : Int) (acc : List Tgx), 0 ≤ a → (top - a).toNat < 2 * k → k ≤ n → acc.length + k ≤ 1048576 →
  lsThingsIn_0 N n (w, top, a, acc, ()) = some (match thingsFrom w top k a with | some l => .inl (acc ++ l, ()) | none => .inr (false, [], ()))
 | 0, _, _, _, _, h, _, _ => absurd h (Nat.not_lt_zero _)
 | k + 1, 0, _, _, _, _, h, _ => absurd h (by omega)
 | k + 1, n + 1, a, acc, h0, hk, hn, hacc => by
  have hlim : lim = 2147483648 := rfl
  unfold lsThingsIn_0 thingsFrom
  dsimp only
  by_cases h : a < top
  ·simp only [h, decide_true, cond_true, sThingAt_ok hN hl hw, Option.bind_some, if_true]
   cases hta : thingAt w a with
   | none => simp
   | some t =>
    obtain ⟨e1, e2, e3, e4, e5, e6, e7, e8⟩ := thingAt_some hta
    obtain ⟨t1, t2, ⟨t3, t4, ⟨⟩⟩, t5, t6, ⟨⟩⟩ := t
    have e9 : 2 ≤ shSz (t3, t4, ()) ∧ shSz (t3, t4, ()) ≤ 10 := ⟨e7, e8⟩
    clear e3 e5 e6 e7 e8
    dsimp only at e1 e2 ⊢
    have w1 : w64 (a + shSz (t3, t4, ())) = a + shSz (t3, t4, ()) := w64_id (by omega) (by omega)
    simp only [Bool.not_true, cond_false, sShapeSize_ok, Option.bind_some, w1]
    by_cases hgt : a + shSz (t3, t4, ()) > top
    ·simp only [hgt, decide_true, cond_true, Option.bind_some, Sum.elim_inr, if_true]
    ·have l : acc.length + [((t1, t2, (t3, t4, ()), t5, t6, ()) : Tgx)].length ≤ lim := by simp only [List.length_cons, List.length_nil]; omega
     have ih := sThings_loop hl hw ht k n (a + shSz (t3, t4, ())) (acc ++ [(t1, t2, (t3, t4, ()), t5, t6, ())]) (by omega) (by omega) (by omega) (by simp only [List.length_append, List.length_cons, List.length_nil]; omega)
     simp only [hgt, decide_false, cond_false, Option.bind_some, Sum.elim_inl, l, decide_true, cond_true, w1, ih, if_false]
     cases thingsFrom w top k (a + shSz (t3, t4, ())) <;> simp
  ·simp only [h, decide_false, cond_false, if_false, List.append_nil]
theorem sThingsIn_ok {w : List Int} {r top : Int} (hl : w.length ≤ 1048576) (hw : ∀ x ∈ w, -9223372036854775808 ≤ x ∧ x < 9223372036854775808) :
  FsThingsIn N (w, r, top, ()) = some (match thingsIn w r top with | some l => (true, l, ()) | none => (false, [], ())) := by
 have hlim : lim = 2147483648 := rfl
 unfold FsThingsIn thingsIn
 simp only [sWordsOk_ok hl, Option.bind_some]
 cases hwo : wordsOk w with
 | false => simp
 | true =>
  have hwo' := wordsOk_iff.1 hwo
  have e1 : w64 (Int.tdiv (w.length : Int) 16) = ((w.length / 16 : Nat) : Int) := by
   rw [Int.tdiv_eq_ediv_of_nonneg (by omega), w64_id (by omega) (by omega)]; omega
  by_cases h1 : r < 1
  ·have : ¬ 1 ≤ r := by omega
   simp [h1, this]
  ·have h1' : 1 ≤ r := by omega
   by_cases h2 : r ≥ ((w.length / 16 : Nat) : Int)
   ·have : ¬ r < ((w.length / 16 : Nat) : Int) := by omega
    simp only [h1, h1', h2, this, e1, Bool.not_true, cond_false, decide_true, decide_false, cond_true, show decide ((16 : Int) = 0) = false from rfl, Option.bind_some, Sum.elim_inr, and_false, false_and, true_and, if_false]
   ·have h2' : r < ((w.length / 16 : Nat) : Int) := by omega
    have e2 : regBase r = 16 * r := by unfold regBase; rw [if_neg (by omega)]
    have e3 : w64 (16 * r + 16) = 16 * r + 16 := w64_id (by omega) (by omega)
    simp only [h1, h1', h2, h2', e1, e2, e3, Bool.not_true, cond_false, decide_true, decide_false, cond_true, show decide ((16 : Int) = 0) = false from rfl, sRegionBase_ok, Option.bind_some, true_and]
    by_cases h3 : top < 16 * r
    ·have : ¬ 16 * r ≤ top := by omega
     simp only [h3, this, decide_true, cond_true, Option.bind_some, Sum.elim_inr, false_and, if_false]
    ·have h3' : 16 * r ≤ top := by omega
     by_cases h4 : top > 16 * r + 16
     ·have : ¬ top ≤ 16 * r + 16 := by omega
      simp only [h3, h4, this, decide_true, decide_false, cond_true, cond_false, Option.bind_some, Sum.elim_inr, and_false, if_false]
     ·have h4' : top ≤ 16 * r + 16 := by omega
      have hL := sThings_loop hN (top := top) hl hw (by omega) 17 N (16 * r) [] (by omega) (by omega) (by omega) (by simp)
      simp only [h3, h3', h4, h4', decide_false, cond_false, Option.bind_some, Sum.elim_inl, e2, hL, and_self, if_true, List.nil_append]
      cases thingsFrom w top 17 (16 * r) <;> rfl
theorem sl6Things_ok {s : Stx} (hl : s.1.length ≤ 1048576) (hw : ∀ x ∈ s.1, -9223372036854775808 ≤ x ∧ x < 9223372036854775808) (ht : s.2.1.length ≤ 1048576) :
  Fsl6Things N (s, ()) = some (match thingsAll s.1 s.2.1 with | some l => (true, l, ()) | none => (false, [], ())) := by
 have hlim : lim = 2147483648 := rfl
 have key : ∀ (k n i : Nat) (acc : List Tgx), 1 ≤ i → s.2.1.length ≤ i + k → (i ≤ s.2.1.length ∨ k = 0) → (k = 0 ∨ i + k = s.2.1.length) → k < n → acc.length + 17 * k ≤ 100000000 →
   lsl6Things_0 N n (s, (i : Int), acc, ()) = some (match thingsGo s.1 s.2.1 k i with | some l => .inl (acc ++ l, ()) | none => .inr (false, [], ())) := by
  intro k
  induction k with
  | zero =>
   intro n i acc hi hlen _ _ hn _
   obtain ⟨n, rfl⟩ : ∃ n', n = n' + 1 := ⟨n - 1, by omega⟩
   have : ¬ (i : Int) < (s.2.1.length : Int) := by omega
   simp [lsl6Things_0, this, thingsGo]
  | succ k ih =>
   intro n i acc hi hlen h1 h2 hn hacc
   obtain ⟨n, rfl⟩ : ∃ n', n = n' + 1 := ⟨n - 1, by omega⟩
   have hlt : i < s.2.1.length := by omega
   have hlt' : (i : Int) < (s.2.1.length : Int) := by omega
   have e1 : w64 ((i : Int) + 1) = ((i + 1 : Nat) : Int) := w64_succ (by omega)
   unfold lsl6Things_0 thingsGo
   dsimp only
   simp only [hlt', hlt, decide_true, cond_true, Int.natCast_nonneg, Int.toNat_natCast, sThingsIn_ok hN hl hw, Option.bind_some]
   have eg : s.2.1.getD i (0, 0, 0, 0, 0, ()) = s.2.1.getD i rg0 := rfl
   rw [eg]
   cases hti : thingsIn s.1 (i : Int) (s.2.1.getD i rg0).2.2.1 with
   | none => simp
   | some l =>
    have hll := (thingsIn_at hti).2.2.1
    have l1 : acc.length + l.length ≤ lim := by omega
    have ih := ih n (i + 1) (acc ++ l) (by omega) (by omega) (by omega) (by omega) (by omega) (by simp only [List.length_append]; omega)
    simp only [Bool.not_true, cond_false, l1, decide_true, cond_true, e1, ih]
    cases thingsGo s.1 s.2.1 k (i + 1) <;> simp
 have := key (s.2.1.length - 1) N 1 [] (by omega) (by omega) (by omega) (by omega) (by omega) (by simp; omega)
 simp only [Int.natCast_one] at this
 unfold Fsl6Things thingsAll
 simp only [this, Option.bind_some, List.nil_append]
 cases thingsGo s.1 s.2.1 (s.2.1.length - 1) 1 <;> rfl
end
section
variable {N : Nat} (hN : lim < N)
include hN
theorem sOwners_loop {t : List Rgx} {k tp ta lv : Int} {i : Nat} {o : Int} (hi : i < t.length) (hl : t.length ≤ 12) : ∀ (n j : Nat), 1 ≤ j → j ≤ i → i - j < n →
  lsTableOk_2 N n (t, (i : Int), (j : Int), k, o, tp, ta, lv, ()) = some (if 0 ≤ o ∧ (((t.take i).drop j).any fun x => decide (x.2.1 = o)) = true then .inr (false, ()) else .inl (t, (i : Int), ()))
 | 0, _, _, _, h => absurd h (Nat.not_lt_zero _)
 | n + 1, j, h1, hj, hn => by
  unfold lsTableOk_2
  dsimp only
  by_cases h : j < i
  ·have h' : (j : Int) < (i : Int) := by omega
   have e1 : w64 ((j : Int) + 1) = ((j + 1 : Nat) : Int) := w64_succ (by omega)
   have ih := sOwners_loop (k := k) (tp := tp) (ta := ta) (lv := lv) (o := o) hi hl n (j + 1) (by omega) (by omega) (by omega)
   have hjt : j < t.length := by omega
   have ed : ((t.take i).drop j) = t[j] :: (t.take i).drop (j + 1) := by
    rw [drop_at (by simp; omega)]
    simp
   have eg : t.getD j (0, 0, 0, 0, 0, ()) = t[j] := getD_lt hjt
   rw [ed]
   simp only [h', decide_true, cond_true, Int.natCast_nonneg, Int.toNat_natCast, hjt, eg, e1, ih, List.any_cons, bif_beq]
   by_cases ho : o ≥ 0
   ·have ho' : 0 ≤ o := ho
    simp only [ho, ho', decide_true, cond_true, true_and]
    by_cases he : t[j].2.1 = o
    ·simp [he]
    ·simp only [he, if_false, decide_false, Bool.false_or]
   ·have ho' : ¬ 0 ≤ o := ho
    simp only [ho, ho', decide_false, cond_false, false_and, if_false]
  ·have : j = i := by omega
   subst this
   have : (t.take j).drop j = [] := List.drop_eq_nil_of_le (by simp; omega)
   simp [this]
theorem sTable_loop {t : List Rgx} (hl : t.length ≤ 12) (hx : ∀ x ∈ t, -9223372036854775808 ≤ x.2.1 ∧ x.2.1 < 9223372036854775808) : ∀ (k n i : Nat), 1 ≤ i → i + k = t.length → k < n → lsTableOk_0 N n (t, (i : Int), ()) = some (if tblGo t k i = true then .inl () else .inr (false, ()))
 | 0, n, i, _, he, hn => by
  obtain ⟨n, rfl⟩ : ∃ n', n = n' + 1 := ⟨n - 1, by omega⟩
  have : ¬ (i : Int) < (t.length : Int) := by omega
  simp [lsTableOk_0, this, tblGo]
 | c + 1, n, i, h1, he, hn => by
  obtain ⟨n, rfl⟩ : ∃ n', n = n' + 1 := ⟨n - 1, by omega⟩
  have hlim : lim = 2147483648 := rfl
  have hlt : i < t.length := by omega
  have hlt' : (i : Int) < (t.length : Int) := by omega
  have e1 : w64 ((i : Int) + 1) = ((i + 1 : Nat) : Int) := w64_succ (by omega)
  have eb : regBase (i : Int) = 16 * (i : Int) := by unfold regBase; rw [if_neg (by omega)]
  have eg : t.getD i (0, 0, 0, 0, 0, ()) = t.getD i rg0 := rfl
  have ih := sTable_loop hl hx c n (i + 1) (by omega) (by omega) (by omega)
  unfold lsTableOk_0 tblGo
  dsimp only
  simp only [hlt', hlt, decide_true, cond_true, Int.natCast_nonneg, Int.toNat_natCast, eg, sRegionBase_ok, eb, Option.bind_some]
  have hiff := rowOk_iff (i := i) (x := t.getD i rg0)
  have ow := fun k tp ta lv o => sOwners_loop hN (t := t) (k := k) (tp := tp) (ta := ta) (lv := lv) (i := i) (o := o) hlt hl N 1 (by omega) h1 (by omega)
  simp only [Int.natCast_one] at ow
  have hho : hadO t i (t.getD i rg0).2.1 = (((t.take i).drop 1).any fun x => decide (x.2.1 = (t.getD i rg0).2.1)) := rfl
  rw [hho]
  generalize t.getD i rg0 = x at hiff ⊢
  obtain ⟨k, o, tp, ta, lv, ⟨⟩⟩ := x
  dsimp only at hiff ⊢
  generalize rowOk i (k, o, tp, ta, lv, PUnit.unit) = rv at hiff ⊢
  have no : ¬ (rv = true) → rv = false := by simp
  have w1 : w64 (16 * (i : Int) + 16) = 16 * (i : Int) + 16 := w64_id (by omega) (by omega)
  simp only [w1]
  by_cases g1 : k < 1
  ·rw [no (by rw [hiff]; omega)]; simp [g1]
  by_cases g2 : k > 4
  ·rw [no (by rw [hiff]; omega)]; simp [g1, g2]
  by_cases g3 : tp < 16 * (i : Int)
  ·rw [no (by rw [hiff]; omega)]; simp [g1, g2, g3]
  by_cases g4 : tp > 16 * (i : Int) + 16
  ·rw [no (by rw [hiff]; omega)]; simp [g1, g2, g3, g4]
  by_cases g5 : ta < 16 * (i : Int)
  ·rw [no (by rw [hiff]; omega)]; simp [g1, g2, g3, g4, g5]
  by_cases g6 : ta > tp
  ·rw [no (by rw [hiff]; omega)]; simp [g1, g2, g3, g4, g5, g6]
  by_cases g7 : lv < 0
  ·rw [no (by rw [hiff]; omega)]; simp [g1, g2, g3, g4, g5, g6, g7]
  have w2 : w64 (tp - 16 * (i : Int)) = tp - 16 * (i : Int) := w64_id (by omega) (by omega)
  by_cases g8 : lv > tp - 16 * (i : Int)
  ·rw [no (by rw [hiff]; omega)]; simp [g1, g2, g3, g4, g5, g6, g7, w2, g8]
  simp only [g1, g2, g3, g4, g5, g6, g7, g8, w2, decide_false, cond_false, Option.bind_some, Sum.elim_inl, bif_beq, bif_bne]
  have first : ∀ {β : Type} {z : Option β} {K : _ → Option β}, (k = 1 → tp = 16 * (i : Int)) → K (.inl (t, (i : Int), k, o, tp, ta, lv, ())) = z →
    Option.bind (if k = 1 then (if tp = 16 * (i : Int) then some (.inl (t, (i : Int), k, o, tp, ta, lv, ())) else some (.inr (false, ()))) else some (.inl (t, (i : Int), k, o, tp, ta, lv, ())) : Option (_ ⊕ (Bool × Unit))) K = z := by
   intro β z K h hK
   by_cases c1 : k = 1
   ·simp only [c1, h c1, if_true]; rw [← c1, ← h c1]; exact hK
   ·simp only [c1, if_false]; exact hK
  by_cases g9 : k = 1 → tp = 16 * (i : Int)
  ·refine first g9 ?_
   clear first
   dsimp only [Sum.elim_inl]
   by_cases c2 : k = 2
   ·by_cases o1 : o ≥ 0
    ·have o2 : ¬ o < -1 := by omega
     by_cases o3 : o > 3
     ·rw [no (by rw [hiff]; omega)]
      simp [c2, o1, o2, o3]
     ·rw [hiff.2 (by omega)]
      have o4 : 0 ≤ o := o1
      have q1 : (k == 2) = true := by simp [c2]
      simp only [q1, o1, o2, o3, decide_true, decide_false, beq_self_eq_true, Bool.not_true, cond_false, Option.bind_some, Sum.elim_inl, ow, Bool.true_and]
      cases hb : ((t.take i).drop 1).any fun x => decide (x.2.1 = o) with
      | true => simp [o4]
      | false => simp only [o4, true_and, Bool.false_eq_true, if_false, Option.bind_some, Sum.elim_inl, e1, ih, Bool.and_false, Bool.not_false, Bool.true_and]
    ·rw [no (by rw [hiff]; omega)]
     simp [c2, o1]
   ·have q1 : (k == 2) = false := by simp [c2]
    by_cases o1 : o ≥ 0
    ·rw [no (by rw [hiff]; omega)]
     simp [q1, o1]
    ·by_cases o2 : o < -1
     ·rw [no (by rw [hiff]; omega)]
      simp [q1, o1, o2]
     ·rw [hiff.2 (by omega)]
      have o3 : ¬ o > 3 := by omega
      have o4 : ¬ 0 ≤ o := o1
      simp only [q1, o1, o2, o3, o4, decide_false, beq_self_eq_true, Bool.not_true, cond_false, Option.bind_some, Sum.elim_inl, ow, false_and, if_false, e1, ih, Bool.false_and, Bool.not_false, Bool.true_and]
  ·have c1 : k = 1 := by
    by_cases c1 : k = 1
    ·exact c1
    ·exact absurd (fun h => absurd h c1) g9
   have c2 : ¬ tp = 16 * (i : Int) := fun h => g9 fun _ => h
   rw [no (by rw [hiff]; omega)]
   simp [c1, c2]
theorem sTableOk_ok {t : List Rgx} (hl : t.length ≤ 1048576) (hx : ∀ x ∈ t, -9223372036854775808 ≤ x.2.1 ∧ x.2.1 < 9223372036854775808) : FsTableOk N (t, ()) = some (tableOk t, ()) := by
 have hlim : lim = 2147483648 := rfl
 unfold FsTableOk tableOk
 by_cases h1 : (t.length : Int) < 2
 ·have : ¬ 2 ≤ t.length := by omega
  simp [h1, this]
 by_cases h2 : (t.length : Int) > 12
 ·have : ¬ t.length ≤ 12 := by omega
  simp [h1, h2, this]
 have h3 : 2 ≤ t.length := by omega
 have h4 : t.length ≤ 12 := by omega
 have h5 : 0 < t.length := by omega
 simp only [h1, h2, h3, h4, h5, decide_true, decide_false, cond_true, cond_false, Bool.true_and, Option.bind_some, show (0 : Int).toNat = 0 from rfl, Int.le_refl]
 have eg : t.getD 0 (0, 0, 0, 0, 0, ()) = t.getD 0 rg0 := rfl
 rw [eg]
 have hedge : (((t.getD 0 rg0).1 == 0) && (((t.getD 0 rg0).2.1 == -1) && (((t.getD 0 rg0).2.2.1 == 0) && (((t.getD 0 rg0).2.2.2.1 == 0) && (((t.getD 0 rg0).2.2.2.2.1 == 0) && true))))) = decide (t.getD 0 rg0 = edgeRow) := by
  generalize t.getD 0 rg0 = x
  obtain ⟨a, b, c, d, e, ⟨⟩⟩ := x
  simp only [edgeRow, Prod.mk.injEq, and_true, Bool.and_true, Bool.decide_and, ibeq]
 rw [hedge]
 by_cases he : t.getD 0 rg0 = edgeRow
 ·have hL := sTable_loop hN h4 hx (t.length - 1) N 1 (by omega) (by omega) (by omega)
  simp only [Int.natCast_one] at hL
  simp only [he, decide_true, Bool.not_true, cond_false, Option.bind_some, Sum.elim_inl, hL, Bool.true_and]
  cases tblGo t (t.length - 1) 1 <;> rfl
 ·simp only [he, decide_false, Bool.not_false, cond_true, Option.bind_some, Sum.elim_inr, Bool.false_and]
end
section
variable {N : Nat} (hN : lim < N)
include hN
theorem sFind_self {l : List Tgx} (hl : l.length ≤ 1048576) (hp : l.Pairwise (fun x y => x.1 < y.1)) {i : Nat} (hi : i < l.length) : Fsl6Find N (l, l[i].1, ()) = some ((i : Int), ()) := by
 obtain ⟨k, hk, e, h⟩ := sFind_some hN hl (findT_self hp (List.getElem_mem hi))
 rw [h]
 have : k = i := by
  rcases Nat.lt_trichotomy k i with h1 | h1 | h1
  ·have := List.pairwise_iff_getElem.1 hp k i hk hi h1; rw [e] at this; omega
  ·exact h1
  ·have := List.pairwise_iff_getElem.1 hp i k hi hk h1; rw [e] at this; omega
 rw [this]
omit hN in
theorem shape_beq {a b : Shx} : ((a.1 == b.1) && ((a.2.1 == b.2.1) && true)) = decide (a = b) := by
 obtain ⟨a1, a2, ⟨⟩⟩ := a
 obtain ⟨b1, b2, ⟨⟩⟩ := b
 by_cases h1 : a1 = b1 <;> by_cases h2 : a2 = b2 <;> simp [h1, h2]
theorem sOk_0 {s : Stx} {l : List Tgx} (hta : stThings s = some l) : lsStateOk_0 N N (s, l, 0, ()) = some (bif l.all (movOk l s.2.1) then .inl (s, l, ()) else .inr (false, ())) := by
 have hlim : lim = 2147483648 := rfl
 obtain ⟨hp, hr, hll⟩ := stThings_rng hta
 have hll' : l.length ≤ 1048576 := by omega
 have hreg : ∀ t ∈ l, FsRegionOf N (t.1, ()) = some (t.1 / 16, ()) ∧ 0 ≤ t.1 / 16 := by
  intro t ht
  have := hr t ht
  refine ⟨?_, by omega⟩
  rw [sRegionOf_ok (by omega), regOf, if_neg (by omega)]
 have step : ∀ n i (h : i < l.length), w64 ((i : Int) + 1) = ((i + 1 : Nat) : Int) → lsStateOk_0 N (n + 1) (s, l, (i : Int), ()) = if movOk l s.2.1 l[i] = true then lsStateOk_0 N n (s, l, ((i + 1 : Nat) : Int), ()) else some (.inr (false, ())) := by
  intro n i h hw
  have hm := List.getElem_mem h
  have h' : (i : Int) < (l.length : Int) := by omega
  have eg : ∀ x : Nat, s.2.1.getD x (0, 0, 0, 0, 0, ()) = s.2.1.getD x rg0 := fun x => rfl
  have ege : ∀ x : Nat, l.getD x (0, 0, (0, 0, ()), [], [], ()) = l.getD x tg0 := fun x => rfl
  rw [lsStateOk_0]
  simp only [h', h, decide_true, cond_true, Int.natCast_nonneg, Int.toNat_natCast, ege, getD_lt h]
  unfold movOk
  by_cases e : l[i].2.1 = l[i].1
  ·rw [if_pos e]
   simp only [e, sFind_self hN hll' hp h, Option.bind_some, Int.natCast_nonneg, Int.toNat_natCast, h, decide_true, cond_true, getD_lt h, bif_bne, if_true, beq_self_eq_true, Bool.and_true, Bool.not_true, cond_false, Sum.elim_inl, hw]
   have : ¬ (i : Int) < 0 := by omega
   simp only [this, decide_false, cond_false, Option.bind_some, Sum.elim_inl, if_true, hw]
  ·rw [if_neg e]
   cases hf : findT l l[i].2.1 with
   | none => simp only [sFind_none hN hll' hf, Option.bind_some, show decide ((-1 : Int) < 0) = true from rfl, cond_true, Sum.elim_inr, Bool.false_eq_true, if_false]
   | some t =>
    obtain ⟨k, hk, ek, e2⟩ := sFind_some hN hll' hf
    obtain ⟨m1, m2⟩ := findT_mem hf
    have k0 : ¬ (k : Int) < 0 := by omega
    have ki : ¬ (k : Int) = (i : Int) := by
     intro h3
     have : k = i := by omega
     subst this
     rw [ek] at e
     exact e (by rw [ek] at m2; exact m2.symm)
    simp only [e2, Option.bind_some, k0, decide_false, cond_false, Int.natCast_nonneg, Int.toNat_natCast, hk, h, decide_true, cond_true, getD_lt hk, getD_lt h, ek, bif_bne, shape_beq, bif_beq]
    by_cases q2 : t.2.1 = t.1
    ·by_cases q1 : t.2.2.1 = l[i].2.2.1
     ·simp only [q2, q1, if_true, decide_true, Bool.not_true, cond_false, Option.bind_some, Sum.elim_inl, ki, if_false, Int.natCast_nonneg, Int.toNat_natCast, hk, h, cond_true, getD_lt hk, getD_lt h, ek, (hreg _ hm).1, (hreg _ hm).2, (hr _ hm).2.2.1, (hreg _ m1).1, (hreg _ m1).2, (hr _ m1).2.2.1, eg, fromB, Bool.true_and, hw, bif_bne, bif_beq]
      by_cases q4 : (s.2.1.getD (l[i].1 / 16).toNat rg0).1 = 4
      ·by_cases q3 : (s.2.1.getD (t.1 / 16).toNat rg0).1 = 4 <;> simp [q3, q4, -List.getD_eq_getElem?_getD]
      ·simp [q4, -List.getD_eq_getElem?_getD]
     ·simp only [q2, q1, if_true, decide_false, Bool.not_false, cond_true, Option.bind_some, Sum.elim_inr, Bool.false_and, Bool.false_eq_true, if_false]
    ·simp only [q2, if_false, Option.bind_some, Sum.elim_inr, decide_false, Bool.false_and, Bool.and_false, Bool.false_eq_true]
 have hL := all_loop (xs := l) (n := N) (movOk l s.2.1) (L := fun n i => lsStateOk_0 N n (s, l, (i : Int), ())) (yes := .inl (s, l, ())) (no := .inr (false, ())) (by omega)
  (fun n i h hw hq => by rw [step n i h hw, if_pos hq])
  (fun n i h hq => by rw [step n i h (w64_succ (by omega)), if_neg (by rw [hq]; decide)])
  (fun n => by simp [lsStateOk_0]) (by omega)
 simpa using hL
theorem sOk_4 {s : Stx} {l : List Tgx} (C : Hp s l) {i : Int} {t : Thr} (ht : t.1.length ≤ 1048576) {met : List Int} (hM : MetOk l met) :
  lsStateOk_4 N N (s, l, i, 0, met, t.1, t.2.1, t.2.2.1, t.2.2.2.1, ()) = some (match meetA l t.1 met with | some m => .inl (s, l, i, m, ()) | none => .inr (false, ())) := by
 have hlim : lim = 2147483648 := rfl
 have hll : l.length ≤ 1048576 := by have := C.len; omega
 have h := meet_loop C (rs := t.1) (by omega) (L := fun n j met => lsStateOk_4 N n (s, l, i, (j : Int), met, t.1, t.2.1, t.2.2.1, t.2.2.2.1, ())) (yes := fun m => some (.inl (s, l, i, m, ()))) (no := some (.inr (false, ())))
  (fun n j met hj hm hw h0 => by
   have hml : met.length ≤ 1048576 := by have := C.met hm; omega
   have hj' : (j : Int) < (t.1.length : Int) := by omega
   simp only [lsStateOk_4, hj', hj, decide_true, cond_true, Int.natCast_nonneg, Int.toNat_natCast, getD_lt hj, h0, bif_bne, if_true, Option.bind_some, Sum.elim_inl, sNow_zero hN, sPut_ok hN hml, putA, true_or, hw])
  (fun n j met hj hm h0 hf => by
   have hj' : (j : Int) < (t.1.length : Int) := by omega
   simp only [lsStateOk_4, hj', hj, decide_true, cond_true, Int.natCast_nonneg, Int.toNat_natCast, getD_lt hj, h0, bif_bne, if_false, sFind_none hN hll hf, Option.bind_some, show decide ((-1 : Int) < 0) = true from rfl, Sum.elim_inr])
  (fun n j met hj u hm hw h0 hf hu hu0 _ => by
   have hml : met.length ≤ 1048576 := by have := C.met hm; omega
   have hj' : (j : Int) < (t.1.length : Int) := by omega
   obtain ⟨k, hk, ek, e2⟩ := sFind_some hN hll hf
   have k0 : ¬ (k : Int) < 0 := by omega
   simp only [lsStateOk_4, hj', hj, decide_true, cond_true, Int.natCast_nonneg, Int.toNat_natCast, getD_lt hj, h0, bif_bne, if_false, e2, Option.bind_some, k0, decide_false, cond_false, Sum.elim_inl, sNow_some hN hll h0 hf, sPut_ok hN hml, putA, hu0, false_or, hw])
  (fun n met hm => by simp [lsStateOk_4]) (n := N) (by omega) hM
 simp only [Int.natCast_zero] at h
 rw [h]
 cases meetA l t.1 met <;> rfl
theorem sOk_2 {s : Stx} {l : List Tgx} (C : Hp s l) (hT : (stThr s).length ≤ 1048576) (hR : ∀ t ∈ stThr s, t.1.length ≤ 1048576) :
  lsStateOk_2 N N (s, l, 0, [], ()) = some (match meetT l (stThr s) [] with | some m => .inl (s, l, m, ()) | none => .inr (false, ())) := by
 have hlim : lim = 2147483648 := rfl
 have key : ∀ n i met, i ≤ (stThr s).length → (stThr s).length - i < n → MetOk l met → lsStateOk_2 N n (s, l, (i : Int), met, ()) = some (match meetT l ((stThr s).drop i) met with | some m => .inl (s, l, m, ()) | none => .inr (false, ())) := by
  intro n
  induction n with
  | zero => intro i met _ h; exact absurd h (Nat.not_lt_zero _)
  | succ n ih =>
   intro i met hi hn hM
   by_cases h : i < (stThr s).length
   ·have h' : (i : Int) < ((stThr s).length : Int) := by omega
    have hw : w64 ((i : Int) + 1) = ((i + 1 : Nat) : Int) := w64_succ (by omega)
    have hm := List.getElem_mem h
    have e4 := sOk_4 hN C (i := (i : Int)) (hR _ hm) hM
    rw [drop_at h]
    have eg : (stThr s).getD i ([], 0, false, 0, ()) = (stThr s)[i] := getD_lt h
    have hu : i < s.2.2.2.2.2.2.2.2.1.length := h
    have hu' : (i : Int) < (s.2.2.2.2.2.2.2.2.1.length : Int) := h'
    simp only [stThr] at eg
    simp only [lsStateOk_2, hu', hu, decide_true, cond_true, Int.natCast_nonneg, Int.toNat_natCast, eg, meetT]
    by_cases c1 : (stThr s)[i].1.length ≤ 8
    ·by_cases c2 : 0 ≤ (stThr s)[i].2.2.2.1
     ·by_cases c3 : (stThr s)[i].2.2.2.1 ≤ 2
      ·have ho : thrOk (stThr s)[i] = true := by simp [thrOk, c1, c2, c3]
       have n1 : ¬ ((stThr s)[i].1.length : Int) > 8 := by omega
       have n2 : ¬ (stThr s)[i].2.2.2.1 < 0 := by omega
       have n3 : ¬ (stThr s)[i].2.2.2.1 > 2 := by omega
       simp only [n1, n2, n3, decide_false, cond_false, Option.bind_some, Sum.elim_inl, e4, ho, if_true]
       cases hq : meetA l (stThr s)[i].1 met with
       | none => rfl
       | some m =>
        simp only [Sum.elim_inl, hw, Option.bind_some]
        exact ih (i + 1) m (by omega) (by omega) (hM.meet C.pw C.mv hq)
      ·have ho : thrOk (stThr s)[i] = false := by simp [thrOk, c3]
       have n1 : ¬ ((stThr s)[i].1.length : Int) > 8 := by omega
       have n2 : ¬ (stThr s)[i].2.2.2.1 < 0 := by omega
       have n3 : (stThr s)[i].2.2.2.1 > 2 := by omega
       simp only [n1, n2, n3, decide_false, decide_true, cond_true, cond_false, Option.bind_some, Sum.elim_inr, ho, Bool.false_eq_true, if_false]
     ·have ho : thrOk (stThr s)[i] = false := by simp [thrOk, c2]
      have n1 : ¬ ((stThr s)[i].1.length : Int) > 8 := by omega
      have n2 : (stThr s)[i].2.2.2.1 < 0 := by omega
      simp only [n1, n2, decide_false, decide_true, cond_true, cond_false, Option.bind_some, Sum.elim_inr, ho, Bool.false_eq_true, if_false]
    ·have ho : thrOk (stThr s)[i] = false := by simp [thrOk, c1]
     have n1 : ((stThr s)[i].1.length : Int) > 8 := by omega
     simp only [n1, decide_true, cond_true, Option.bind_some, Sum.elim_inr, ho, Bool.false_eq_true, if_false]
   ·have : i = (stThr s).length := by omega
    subst this
    simp [lsStateOk_2, meetT, stThr]
 simpa using key N 0 [] (by omega) (by omega) MetOk.nil
omit hN in
theorem putA_ok {s : Stx} {l : List Tgx} (C : Hp s l) {met : List Int} (hM : MetOk l met) {a : Int} (h : pinOk l s.2.1 a = true) : MetOk l (putA met a) := by
 obtain ⟨t, h1, h2, _⟩ := pinOk_some h
 have := C.push hM (findT_mem h1).1
 have hp := C.now (findT_mem h1).1
 rw [h2] at this hp
 simp only [putA, show ¬ a = 0 by omega, false_or]
 exact this
theorem sOk_6 {s : Stx} {l : List Tgx} (C : Hp s l) (hP : (stPins s).length ≤ 1048576) {met : List Int} (hM : MetOk l met) :
  lsStateOk_6 N N (s, l, 0, met, ()) = some (match meetP l s.2.1 (stPins s) met with | some m => .inl (l, m, ()) | none => .inr (false, ())) := by
 have hlim : lim = 2147483648 := rfl
 have hll : l.length ≤ 1048576 := by have := C.len; omega
 have hreg : ∀ t ∈ l, FsRegionOf N (t.1, ()) = some (t.1 / 16, ()) ∧ 0 ≤ t.1 / 16 := by
  intro t ht
  have := C.rng t ht
  refine ⟨?_, by omega⟩
  rw [sRegionOf_ok (by omega), regOf, if_neg (by omega)]
 have key : ∀ n i met, i ≤ (stPins s).length → (stPins s).length - i < n → MetOk l met → lsStateOk_6 N n (s, l, (i : Int), met, ()) = some (match meetP l s.2.1 ((stPins s).drop i) met with | some m => .inl (l, m, ()) | none => .inr (false, ())) := by
  intro n
  induction n with
  | zero => intro i met _ h; exact absurd h (Nat.not_lt_zero _)
  | succ n ih =>
   intro i met hi hn hM
   by_cases h : i < (stPins s).length
   ·have h' : (i : Int) < ((stPins s).length : Int) := by omega
    have hw : w64 ((i : Int) + 1) = ((i + 1 : Nat) : Int) := w64_succ (by omega)
    have hml : met.length ≤ 1048576 := by have := C.met hM; omega
    rw [drop_at h]
    have hih := fun m => ih (i + 1) m (by omega) (by omega)
    obtain ⟨a, ha⟩ : ∃ a, a = (stPins s)[i] := ⟨_, rfl⟩
    rw [← ha]
    have eg : s.2.2.2.2.2.2.2.2.2.2.1.getD i 0 = a := by rw [ha]; exact getD_lt h
    have ege : ∀ x : Nat, l.getD x (0, 0, (0, 0, ()), [], [], ()) = l.getD x tg0 := fun x => rfl
    have egr : ∀ x : Nat, s.2.1.getD x (0, 0, 0, 0, 0, ()) = s.2.1.getD x rg0 := fun x => rfl
    have hu : i < s.2.2.2.2.2.2.2.2.2.2.1.length := h
    have hu' : (i : Int) < (s.2.2.2.2.2.2.2.2.2.2.1.length : Int) := h'
    simp only [lsStateOk_6, hu', hu, decide_true, cond_true, Int.natCast_nonneg, Int.toNat_natCast, eg, meetP]
    cases hf : findT l a with
    | none =>
     have ho : pinOk l s.2.1 a = false := by simp [pinOk, hf]
     simp only [sFind_none hN hll hf, Option.bind_some, show decide ((-1 : Int) < 0) = true from rfl, cond_true, Sum.elim_inr, ho, Bool.false_eq_true, if_false]
    | some t =>
     obtain ⟨k, hk, ek, e2⟩ := sFind_some hN hll hf
     obtain ⟨m1, m2⟩ := findT_mem hf
     have k0 : ¬ (k : Int) < 0 := by omega
     have hpo : pinOk l s.2.1 a = (decide (t.2.1 = a) && !(fromB s.2.1 a)) := by simp [pinOk, hf]
     have hput := putA_ok C hM (a := a)
     rw [hpo] at hput ⊢
     clear hpo ha
     subst m2
     simp only [e2, Option.bind_some, k0, decide_false, cond_false, Int.natCast_nonneg, Int.toNat_natCast, hk, hu, decide_true, cond_true, ege, egr, getD_lt hk, eg, ek, bif_bne, bif_beq, (hreg _ m1).1, (hreg _ m1).2, (C.rng _ m1).2.2.1, fromB]
     by_cases q2 : t.2.1 = t.1
     ·by_cases q3 : (s.2.1.getD (t.1 / 16).toNat rg0).1 = 4
      ·simp only [q2, q3, if_true, Option.bind_some, Sum.elim_inr, decide_true, Bool.not_true, Bool.and_false, Bool.false_eq_true, if_false]
      ·simp only [q2, q3, if_true, if_false, Option.bind_some, Sum.elim_inl, decide_true, decide_false, Bool.not_false, Bool.and_true, cond_true, Int.natCast_nonneg, Int.toNat_natCast, hu, eg, sPut_ok hN hml, hw]
       exact hih _ (hput (by simp [q2, fromB, q3, -List.getD_eq_getElem?_getD]))
     ·simp only [q2, if_false, Option.bind_some, Sum.elim_inr, decide_false, Bool.false_and, Bool.false_eq_true]
   ·have : i = (stPins s).length := by omega
    subst this
    simp [lsStateOk_6, meetP, stPins]
 simpa using key N 0 met (by omega) (by omega) hM
theorem sOk_10 {s : Stx} {l : List Tgx} (C : Hp s l) {i : Int} {rs : List Int} {t : Tgx} (ht : t ∈ l) {met : List Int} (hM : MetOk l met) :
  lsStateOk_10 N N (l, i, 0, met, t.1, t.2.1, t.2.2.1.1, t.2.2.1.2.1, t.2.2.2.1, t.2.2.2.2.1, ()) = some (match meetA l t.2.2.2.1 met with | some m => .inl (l, i, m, ()) | none => .inr (false, ())) := by
 have hlim : lim = 2147483648 := rfl
 have hll : l.length ≤ 1048576 := by have := C.len; omega
 have hrl := C.refs ht
 have h := meet_loop C (rs := t.2.2.2.1) (by omega) (L := fun n j met => lsStateOk_10 N n (l, i, (j : Int), met, t.1, t.2.1, t.2.2.1.1, t.2.2.1.2.1, t.2.2.2.1, t.2.2.2.2.1, ())) (yes := fun m => some (.inl (l, i, m, ()))) (no := some (.inr (false, ())))
  (fun n j met hj hm hw h0 => by
   have hml : met.length ≤ 1048576 := by have := C.met hm; omega
   have hj' : (j : Int) < (t.2.2.2.1.length : Int) := by omega
   simp only [lsStateOk_10, hj', hj, decide_true, cond_true, Int.natCast_nonneg, Int.toNat_natCast, getD_lt hj, h0, bif_bne, if_true, Option.bind_some, Sum.elim_inl, sNow_zero hN, sPut_ok hN hml, putA, true_or, hw])
  (fun n j met hj hm h0 hf => by
   have hj' : (j : Int) < (t.2.2.2.1.length : Int) := by omega
   simp only [lsStateOk_10, hj', hj, decide_true, cond_true, Int.natCast_nonneg, Int.toNat_natCast, getD_lt hj, h0, bif_bne, if_false, sFind_none hN hll hf, Option.bind_some, show decide ((-1 : Int) < 0) = true from rfl, Sum.elim_inr])
  (fun n j met hj u hm hw h0 hf hu hu0 _ => by
   have hml : met.length ≤ 1048576 := by have := C.met hm; omega
   have hj' : (j : Int) < (t.2.2.2.1.length : Int) := by omega
   obtain ⟨k, hk, ek, e2⟩ := sFind_some hN hll hf
   have k0 : ¬ (k : Int) < 0 := by omega
   simp only [lsStateOk_10, hj', hj, decide_true, cond_true, Int.natCast_nonneg, Int.toNat_natCast, getD_lt hj, h0, bif_bne, if_false, e2, Option.bind_some, k0, decide_false, cond_false, Sum.elim_inl, sNow_some hN hll h0 hf, sPut_ok hN hml, putA, hu0, false_or, hw])
  (fun n met hm => by simp [lsStateOk_10]) (n := N) (by omega) hM
 simp only [Int.natCast_zero] at h
 rw [h]
 cases meetA l t.2.2.2.1 met <;> rfl
theorem sOk_8 {s : Stx} {l : List Tgx} (C : Hp s l) {met : List Int} (hM : MetOk l met) :
  lsStateOk_8 N N (l, 0, met, ()) = some (match reachA l l.length 0 met with | some _ => .inl () | none => .inr (false, ())) := by
 have hlim : lim = 2147483648 := rfl
 have hll : l.length ≤ 1048576 := by have := C.len; omega
 have h := reach_loop C (L := fun n k met => lsStateOk_8 N n (l, (k : Int), met, ())) (yes := fun _ => some (.inl ())) (no := some (.inr (false, ())))
  (fun n k met hk t hm hw hf ht e => by
   have hk' : (k : Int) < (met.length : Int) := by omega
   obtain ⟨q, hq, eq, e2⟩ := sFind_some hN hll hf
   simp only [lsStateOk_8, hk', hk, decide_true, cond_true, Int.natCast_nonneg, Int.toNat_natCast, getD_lt hk, e2, Option.bind_some, hq, getD_lt hq, eq, sOk_10 hN C (i := (k : Int)) (rs := []) ht hm]
   cases meetA l t.2.2.2.1 met with
   | none => rfl
   | some m => simp only [Sum.elim_inl, hw])
  (fun n met hm => by simp [lsStateOk_8]) (n := N) (by omega) hM
 simp only [Int.natCast_zero] at h
 rw [h]
 cases reachA l l.length 0 met <;> rfl
theorem sStateOk_ok {s : Stx} (b1 : s.1.length ≤ 1048576) (b2 : s.2.1.length ≤ 1048576) (b3 : s.2.2.1.length ≤ 1048576) (b4 : ∀ x ∈ s.1, -9223372036854775808 ≤ x ∧ x < 9223372036854775808) (b5 : ∀ x ∈ s.2.1, -9223372036854775808 ≤ x.2.1 ∧ x.2.1 < 9223372036854775808)
  (hT : (stThr s).length ≤ 1048576) (hR : ∀ t ∈ stThr s, t.1.length ≤ 1048576) (hP : (stPins s).length ≤ 1048576) :
  FsStateOk N (s, ()) = some ((heapOf s).isSome, ()) := by
 have hlim : lim = 2147483648 := rfl
 unfold FsStateOk
 simp only [sWordsOk_ok b1, sTableOk_ok hN b2 b5, Option.bind_some, bif_bne]
 have hw16 : w64 ((s.2.1.length : Int) * 16) = (s.2.1.length : Int) * 16 := w64_id (by omega) (by omega)
 have hlen : ((s.2.1.length : Int) * 16 = (s.1.length : Int)) ↔ s.2.1.length * 16 = s.1.length := by omega
 have hlen2 : ((s.2.2.1.length : Int) = (s.1.length : Int)) ↔ s.2.2.1.length = s.1.length := by omega
 simp only [hw16, hlen, hlen2]
 have hno : stThings s = none → heapOf s = none := fun h => by simp only [heapOf, h]
 by_cases hw : wholeB s.1 s.2.1 s.2.2.1 = true
 ·obtain ⟨w1, w2, w3, w4⟩ := wholeB_iff.1 hw
  have hst : stThings s = thingsAll s.1 s.2.1 := by simp only [stThings, hw, if_true]
  simp only [w1, w2, w3, w4, Bool.not_true, cond_false, if_true, Option.bind_some, Sum.elim_inl]
  by_cases hh : headOk s = true
  ·have hh' := hh
   simp only [headOk, Bool.and_eq_true, decide_eq_true_eq] at hh'
   obtain ⟨q1, q2, q3, q4, q5⟩ := hh'
   simp only [stPh, stThr, stPins] at q1 q2 q3 q4 q5
   have n1 : ¬ s.2.2.2.1 < 0 := by omega
   have n2 : ¬ s.2.2.2.1 > 3 := by omega
   have n3 : ¬ (s.2.2.2.2.2.2.2.2.1.length : Int) < 1 := by omega
   have n4 : ¬ (s.2.2.2.2.2.2.2.2.1.length : Int) > 3 := by omega
   have n5 : ¬ (s.2.2.2.2.2.2.2.2.2.2.1.length : Int) > 8 := by omega
   simp only [n1, n2, n3, n4, decide_false, cond_false, Option.bind_some, Sum.elim_inl, sl6Things_ok hN b1 b4 b2]
   cases hta : thingsAll s.1 s.2.1 with
   | none => simp [hno (hst.trans hta)]
   | some l =>
    have hta' : stThings s = some l := hst.trans hta
    simp only [Bool.not_true, cond_false, sOk_0 hN hta', Option.bind_some]
    by_cases hm : l.all (movOk l s.2.1) = true
    ·have C : Hp s l := ⟨hta', hm⟩
     simp only [hm, cond_true, Sum.elim_inl, sOk_2 hN C hT hR, Option.bind_some, heapOf_eq C hh]
     cases h2 : meetT l (stThr s) [] with
     | none => rfl
     | some m =>
      have hM : MetOk l m := by
       rw [meetT_eq] at h2
       split at h2
       ·exact MetOk.nil.meet C.pw C.mv h2
       ·cases h2
      simp only [Sum.elim_inl, n5, decide_false, cond_false, sOk_6 hN C hP hM, Option.bind_some]
      cases h3 : meetP l s.2.1 (stPins s) m with
      | none => rfl
      | some m2 =>
       have hM2 : MetOk l m2 := by
        rw [meetP_eq C] at h3
        split at h3
        ·exact hM.meet C.pw C.mv h3
        ·cases h3
       simp only [Sum.elim_inl, sOk_8 hN C hM2, Option.bind_some]
       cases reachA l l.length 0 m2 <;> rfl
    ·have hm' : l.all (movOk l s.2.1) = false := by simpa using hm
     simp only [hm', cond_false, Sum.elim_inr, heapOf, hta', metOf, Bool.false_and, Bool.false_eq_true, if_false, Option.map_none, Option.isSome_none]
  ·have hno2 : heapOf s = none := by
    simp only [heapOf]
    cases stThings s with
    | none => rfl
    | some l => simp only [metOf, hh, Bool.false_and, Bool.and_false, Bool.false_eq_true, if_false, Option.map_none]
   simp only [hno2, Option.isSome_none]
   have hf : ∀ {α β : Type} (x : Option α), (x.bind fun _ => (none : Option β)) = none := by intro α β x; cases x <;> rfl
   by_cases n1 : s.2.2.2.1 < 0
   ·simp only [n1, decide_true, cond_true, Option.bind_some, Sum.elim_inr]
   ·by_cases n2 : s.2.2.2.1 > 3
    ·simp only [n1, n2, decide_true, decide_false, cond_false, cond_true, Option.bind_some, Sum.elim_inr]
    ·by_cases n3 : (s.2.2.2.2.2.2.2.2.1.length : Int) < 1
     ·simp only [n1, n2, n3, decide_true, decide_false, cond_false, cond_true, Option.bind_some, Sum.elim_inr]
     ·by_cases n4 : (s.2.2.2.2.2.2.2.2.1.length : Int) > 3
      ·simp only [n1, n2, n3, n4, decide_true, decide_false, cond_false, cond_true, Option.bind_some, Sum.elim_inr]
      ·have n5 : (s.2.2.2.2.2.2.2.2.2.2.1.length : Int) > 8 := by
        have : ¬ (stPins s).length ≤ 8 := by
         intro h5
         apply hh
         simp only [headOk, stPh, stThr, Bool.and_eq_true, decide_eq_true_eq]
         exact ⟨by omega, by omega, by omega, by omega, h5⟩
        simp only [stPins] at this
        omega
       simp only [n1, n2, n3, n4, decide_false, cond_false, Option.bind_some, Sum.elim_inl, sl6Things_ok hN b1 b4 b2]
       cases hta : thingsAll s.1 s.2.1 with
       | none => rfl
       | some l =>
        have hta' : stThings s = some l := hst.trans hta
        simp only [Bool.not_true, cond_false, sOk_0 hN hta', Option.bind_some]
        by_cases hm : l.all (movOk l s.2.1) = true
        ·have C : Hp s l := ⟨hta', hm⟩
         simp only [hm, cond_true, Sum.elim_inl, sOk_2 hN C hT hR, Option.bind_some]
         cases h2 : meetT l (stThr s) [] with
         | none => rfl
         | some m => simp only [Sum.elim_inl, n5, decide_true, cond_true]
        ·have hm' : l.all (movOk l s.2.1) = false := by simpa using hm
         simp only [hm', cond_false, Sum.elim_inr]
 ·have hw' : wholeB s.1 s.2.1 s.2.2.1 = false := by simpa using hw
  have hno2 : heapOf s = none := hno (by simp [stThings, hw'])
  simp only [hno2, Option.isSome_none]
  simp only [wholeB_iff, not_and] at hw
  cases h1 : wordsOk s.1 with
  | false => rfl
  | true =>
   cases h2 : tableOk s.2.1 with
   | false => rfl
   | true =>
    by_cases h3 : s.2.1.length * 16 = s.1.length
    ·have h4 : ¬ s.2.2.1.length = s.1.length := hw h1 h2 h3
     simp only [Bool.not_true, cond_false, h3, h4, if_true, if_false, Option.bind_some, Sum.elim_inr]
    ·simp only [Bool.not_true, cond_false, h3, if_false, Option.bind_some, Sum.elim_inr]
end
end Go.Fl
set_option linter.all false
set_option maxRecDepth 10000
namespace Go.Fl
open Go
def bub : List Int → Int → List Int → List Int
 | [], x, B => x :: B
 | y :: A, x, B => if y > x then bub A x (y :: B) else (y :: A).reverse ++ x :: B
theorem bub_perm : ∀ (A : List Int) (x : Int) (B : List Int), (bub A x B).Perm (x :: (A ++ B))
 | [], x, B => List.Perm.refl _
 | y :: A, x, B => by
  unfold bub
  split
  ·exact (bub_perm A x (y :: B)).trans (List.Perm.cons x List.perm_middle)
  ·exact List.perm_middle.trans (List.Perm.cons x ((List.reverse_perm _).append_right B))
theorem bub_sorted : ∀ (A : List Int) (x : Int) (B : List Int), (A.reverse ++ B).Pairwise (· ≤ ·) → (∀ b ∈ B, x ≤ b) → (bub A x B).Pairwise (· ≤ ·)
 | [], x, B, h, hb => by
  simp only [List.reverse_nil, List.nil_append] at h
  exact List.pairwise_cons.2 ⟨hb, h⟩
 | y :: A, x, B, h, hb => by
  have e : (y :: A).reverse ++ B = A.reverse ++ y :: B := by simp
  unfold bub
  split
  ·rename_i hy
   refine bub_sorted A x (y :: B) (by rw [← e]; exact h) ?_
   intro b hm
   rcases List.mem_cons.1 hm with rfl | hm
   ·omega
   ·exact hb b hm
  ·rename_i hy
   rw [List.pairwise_append] at h ⊢
   refine ⟨h.1, List.pairwise_cons.2 ⟨hb, h.2.1⟩, ?_⟩
   intro a ha b hm
   have hay : a ≤ y := by
    rw [List.reverse_cons] at ha
    have hr := h.1
    rw [List.reverse_cons, List.pairwise_append] at hr
    rcases List.mem_append.1 ha with ha | ha
    ·exact hr.2.2 a ha y (by simp)
    ·simp only [List.mem_singleton] at ha; omega
   rcases List.mem_cons.1 hm with rfl | hm
   ·omega
   ·exact h.2.2 a ha b hm
theorem isort_perm : ∀ (xs out : List Int), (xs.foldl (fun out x => bub out.reverse x []) out).Perm (out ++ xs)
 | [], out => by simp
 | x :: xs, out => by
  rw [List.foldl_cons]
  refine (isort_perm xs _).trans ?_
  refine ((bub_perm out.reverse x []).append_right xs).trans ?_
  rw [List.append_nil]
  exact (((List.reverse_perm out).cons x).append_right xs).trans (List.perm_middle (l₁ := out) (l₂ := xs) (a := x)).symm
theorem isort_sorted : ∀ (xs out : List Int), out.Pairwise (· ≤ ·) → (xs.foldl (fun out x => bub out.reverse x []) out).Pairwise (· ≤ ·)
 | [], out, h => h
 | x :: xs, out, h => by
  rw [List.foldl_cons]
  exact isort_sorted xs _ (bub_sorted _ _ _ (by simpa using h) (by simp))
def sortI (xs : List Int) : List Int := xs.mergeSort (fun x y => decide (x ≤ y))
theorem sortI_perm {xs : List Int} : (sortI xs).Perm xs := List.mergeSort_perm _ _
theorem sortI_len {xs : List Int} : (sortI xs).length = xs.length := sortI_perm.length_eq
theorem sortI_sorted {xs : List Int} : (sortI xs).Pairwise (· ≤ ·) := by
 have := List.pairwise_mergeSort (le := fun (x y : Int) => decide (x ≤ y)) (by intro a b c; simp only [decide_eq_true_eq]; omega) (by intro a b; simp only [Bool.or_eq_true, decide_eq_true_eq]; omega) xs
 exact this.imp (by intro a b; simp)
theorem sortI_uniq {xs ys : List Int} (h : ys.Perm xs) (hs : ys.Pairwise (· ≤ ·)) : ys = sortI xs :=
 List.Perm.eq_of_pairwise (le := fun (x y : Int) => x ≤ y) (fun a b _ _ h1 h2 => by omega) hs sortI_sorted (h.trans sortI_perm.symm)
section
variable {N : Nat} (hN : lim < N)
include hN
omit hN in
theorem sSort_in {xs : List Int} {i : Int} : ∀ (n : Nat) (A : List Int) (x : Int) (B : List Int), A.length < n → A.length ≤ 1048576 → lsl7Sorted_2 N n (xs, i, (A.length : Int), A.reverse ++ x :: B, ()) = some (xs, i, bub A x B, ())
 | 0, _, _, _, h, _ => absurd h (Nat.not_lt_zero _)
 | n + 1, [], x, B, _, _ => by
  simp [lsl7Sorted_2, bub]
 | n + 1, y :: A, x, B, hn, hl => by
  simp only [List.length_cons] at hn hl
  have e1 : w64 (((y :: A).length : Int) - 1) = (A.length : Int) := by simp only [List.length_cons]; rw [w64_id (by omega) (by omega)]; omega
  have p0 : ((y :: A).length : Int) > 0 := by simp only [List.length_cons]; omega
  have el : (y :: A).reverse ++ x :: B = A.reverse ++ y :: x :: B := by simp
  have len : (A.reverse ++ y :: x :: B).length = A.length + B.length + 2 := by simp; omega
  have g1 : (A.reverse ++ y :: x :: B).getD A.length 0 = y := by
   rw [getD_lt (by omega), List.getElem_append_right (by simp)]; simp
  have g2 : (A.reverse ++ y :: x :: B).getD (y :: A).length 0 = x := by
   rw [getD_lt (by simp only [List.length_cons]; omega), List.getElem_append_right (by simp)]; simp
  have p1 : A.length < (A.reverse ++ y :: x :: B).length := by omega
  have p2 : (y :: A).length < (A.reverse ++ y :: x :: B).length := by simp only [List.length_cons]; omega
  have s1 : (A.reverse ++ y :: x :: B).set A.length x = A.reverse ++ x :: x :: B := by
   rw [List.set_append_right _ _ (by simp)]
   simp
  have p3 : (y :: A).length < (A.reverse ++ x :: x :: B).length := by simp
  have s2 : (A.reverse ++ x :: x :: B).set (y :: A).length y = A.reverse ++ x :: y :: B := by
   rw [List.set_append_right _ _ (by simp)]
   have : (y :: A).length - A.reverse.length = 1 := by simp
   rw [this]; rfl
  rw [el]
  simp only [lsl7Sorted_2, p0, decide_true, cond_true, e1, Int.natCast_nonneg, Int.toNat_natCast, p1, p2, g1, g2]
  unfold bub
  by_cases hy : y > x
  ·simp only [hy, decide_true, cond_true, Option.bind_some, Sum.elim_inr, e1, Int.natCast_nonneg, Int.toNat_natCast, p1, p2, g1, g2, s1, p3, s2, if_true]
   exact sSort_in n A x (y :: B) (by omega) (by omega)
  ·simp only [hy, decide_false, cond_false, Option.bind_some, Sum.elim_inl, if_false, el]
theorem sSorted_ok {xs : List Int} (hl : xs.length ≤ 1000) : Fsl7Sorted N (xs, ()) = some (sortI xs, ()) := by
 have hlim : lim = 2147483648 := rfl
 have e := (fold_loop (xs := xs) (n := N) (fun (out : List Int) x => bub out.reverse x []) (fun i out => out.length = i) (L := fun n i out => lsl7Sorted_0 N n (xs, (i : Int), out, ())) (fin := fun out => (out, ())) (by omega)
  (fun n i out hi hw hI => by
   have hi' : (i : Int) < (xs.length : Int) := by omega
   have l1 : out.length + [xs[i]].length ≤ lim := by simp only [List.length_singleton]; omega
   have e2 := sSort_in (N := N) (xs := xs) (i := (i : Int)) N out.reverse xs[i] [] (by simp; omega) (by simp; omega)
   simp only [List.reverse_reverse, List.length_reverse] at e2
   refine ⟨?_, by have := (bub_perm out.reverse xs[i] []).length_eq; simp at this; simp only [this]; omega⟩
   simp only [lsl7Sorted_0, hi', hi, decide_true, cond_true, Int.natCast_nonneg, Int.toNat_natCast, getD_lt hi, l1, e2, Option.bind_some, hw])
  (fun n out _ => by simp [lsl7Sorted_0]) (by omega) (s := []) (by simp)).1
 simp only [Int.natCast_zero] at e
 have hp := isort_perm xs []
 have hs := isort_sorted xs [] List.Pairwise.nil
 rw [sortI_uniq (by simpa using hp) hs] at e
 simp only [Fsl7Sorted, e, Option.bind_some]
theorem sR_2 {s : Stx} {l : List Tgx} (C : Hp s l) {i : Nat} (hi : i < (stThr s).length) (hr : (stThr s)[i].1.length ≤ 1048576) {met : List Int} (hM : MetOk l met) :
  lsl7Reached_2 N N (l, s, (i : Int), 0, met, ()) = (meetA l (stThr s)[i].1 met).bind fun m => some (l, s, (i : Int), m, ()) := by
 have hlim : lim = 2147483648 := rfl
 have hll : l.length ≤ 1048576 := by have := C.len; omega
 have hi1 : i < s.2.2.2.2.2.2.2.2.1.length := hi
 have eg : s.2.2.2.2.2.2.2.2.1.getD i ([], 0, false, 0, ()) = (stThr s)[i] := getD_lt hi
 have h := meet_loop C (rs := (stThr s)[i].1) (by omega) (L := fun n j met => lsl7Reached_2 N n (l, s, (i : Int), (j : Int), met, ())) (yes := fun m => some (l, s, (i : Int), m, ())) (no := none)
  (fun n j met hj hm hw h0 => by
   have hj' : (j : Int) < ((stThr s)[i].1.length : Int) := by omega
   simp only [lsl7Reached_2, hi1, eg, hj', hj, decide_true, cond_true, Int.natCast_nonneg, Int.toNat_natCast, getD_lt hj, h0, sNow_zero hN, Option.bind_some, bif_bne, if_true, hw])
  (fun n j met hj hm h0 hf => by
   have hj' : (j : Int) < ((stThr s)[i].1.length : Int) := by omega
   simp only [lsl7Reached_2, hi1, eg, hj', hj, decide_true, cond_true, Int.natCast_nonneg, Int.toNat_natCast, getD_lt hj, Fsl6Now, bif_beq, h0, if_false, sFind_none hN hll hf, Option.bind_some, show decide ((0 : Int) ≤ -1) = false from rfl, cond_false, Option.bind_none])
  (fun n j met hj u hm hw h0 hf hu hu0 hml => by
   have hml2 : met.length ≤ 1048576 := by have := C.met hm; omega
   have hj' : (j : Int) < ((stThr s)[i].1.length : Int) := by omega
   have l1 : met.length + [u.2.1].length ≤ lim := by simpa using hml
   simp only [lsl7Reached_2, hi1, eg, hj', hj, decide_true, cond_true, Int.natCast_nonneg, Int.toNat_natCast, getD_lt hj, sNow_some hN hll h0 hf, Option.bind_some, bif_bne, hu0, if_false]
   by_cases hc : u.2.1 ∈ met
   ·obtain ⟨k, hk, _, e2⟩ := sPlace_in hN hml2 hc
    have : ¬ (k : Int) < 0 := by omega
    simp only [e2, Option.bind_some, this, decide_false, cond_false, hc, if_true, hw]
   ·simp only [sPlace_not hN hml2 hc, Option.bind_some, show decide ((-1 : Int) < 0) = true from rfl, cond_true, l1, decide_true, hc, if_false, hw])
  (fun n met hm => by simp [lsl7Reached_2, hi1, eg, -List.getD_eq_getElem?_getD]) (n := N) (by omega) hM
 simp only [Int.natCast_zero] at h
 rw [h]
 cases meetA l (stThr s)[i].1 met <;> rfl
theorem sR_0 {s : Stx} {l : List Tgx} (C : Hp s l) (hT : (stThr s).length ≤ 1048576) (hR : ∀ t ∈ stThr s, t.1.length ≤ 1048576) :
  ∀ (n i : Nat) (met : List Int), i ≤ (stThr s).length → (stThr s).length - i < n → MetOk l met → lsl7Reached_0 N n (l, s, (i : Int), met, ()) = (meetA l (rootsL ((stThr s).drop i)) met).bind fun m => some (l, s, m, ())
 | 0, _, _, _, h, _ => absurd h (Nat.not_lt_zero _)
 | n + 1, i, met, hi, hn, hM => by
  by_cases h : i < (stThr s).length
  ·have h' : (i : Int) < (s.2.2.2.2.2.2.2.2.1.length : Int) := by simp only [stThr] at h; omega
   have hw : w64 ((i : Int) + 1) = ((i + 1 : Nat) : Int) := w64_succ (by omega)
   have e2 := sR_2 hN C h (hR _ (List.getElem_mem h)) hM
   have er : rootsL ((stThr s).drop i) = (stThr s)[i].1 ++ rootsL ((stThr s).drop (i + 1)) := by rw [drop_at h]; rfl
   rw [er, meetA_append]
   simp only [lsl7Reached_0, h', decide_true, cond_true, e2]
   cases hq : meetA l (stThr s)[i].1 met with
   | none => rfl
   | some m =>
    simp only [Option.bind_some, hw]
    exact sR_0 C hT hR n (i + 1) m (by omega) (by omega) (hM.meet C.pw C.mv hq)
  ·have : i = (stThr s).length := by omega
   subst this
   simp [lsl7Reached_0, stThr, rootsL, meetA]
theorem sR_4 {s : Stx} {l : List Tgx} (C : Hp s l) (hP : (stPins s).length ≤ 1048576) (hp : (stPins s).all (pinOk l s.2.1) = true) :
  ∀ (n i : Nat) (met : List Int), i ≤ (stPins s).length → (stPins s).length - i < n → MetOk l met → lsl7Reached_4 N n (l, s, (i : Int), met, ()) = (meetA l ((stPins s).drop i) met).bind fun m => some (l, m, ())
 | 0, _, _, _, h, _ => absurd h (Nat.not_lt_zero _)
 | n + 1, i, met, hi, hn, hM => by
  by_cases h : i < (stPins s).length
  ·have h' : (i : Int) < (s.2.2.2.2.2.2.2.2.2.2.1.length : Int) := by simp only [stPins] at h; omega
   have hu : i < s.2.2.2.2.2.2.2.2.2.2.1.length := h
   have hw : w64 ((i : Int) + 1) = ((i + 1 : Nat) : Int) := w64_succ (by omega)
   have eg : s.2.2.2.2.2.2.2.2.2.2.1.getD i 0 = (stPins s)[i] := getD_lt h
   have hpi := List.all_eq_true.1 hp _ (List.getElem_mem h)
   have hml : met.length ≤ 1048576 := by have := C.met hM; omega
   have ih := sR_4 C hP hp n (i + 1) (putA met (stPins s)[i]) (by omega) (by omega) (putA_ok C hM hpi)
   obtain ⟨t, h1, h2, _⟩ := pinOk_some hpi
   have hpos := C.now (findT_mem h1).1
   have h0 : ¬ (stPins s)[i] = 0 := by omega
   rw [drop_at h]
   simp only [lsl7Reached_4, h', hu, decide_true, cond_true, Int.natCast_nonneg, Int.toNat_natCast, eg, sPut_ok hN hml, Option.bind_some, hw, ih, meetA, h0, if_false, h1, h2]
   simp only [putA, h0, false_or]
  ·have : i = (stPins s).length := by omega
   subst this
   simp [lsl7Reached_4, stPins, meetA]
theorem sR_8 {s : Stx} {l : List Tgx} (C : Hp s l) {i : Int} {t : Tgx} (ht : t ∈ l) {met : List Int} (hM : MetOk l met) :
  lsl7Reached_8 N N (l, i, 0, met, t.1, t.2.1, t.2.2.1.1, t.2.2.1.2.1, t.2.2.2.1, t.2.2.2.2.1, ()) = (meetA l t.2.2.2.1 met).bind fun m => some (l, i, m, ()) := by
 have hlim : lim = 2147483648 := rfl
 have hll : l.length ≤ 1048576 := by have := C.len; omega
 have hrl := C.refs ht
 have h := meet_loop C (rs := t.2.2.2.1) (by omega) (L := fun n j met => lsl7Reached_8 N n (l, i, (j : Int), met, t.1, t.2.1, t.2.2.1.1, t.2.2.1.2.1, t.2.2.2.1, t.2.2.2.2.1, ())) (yes := fun m => some (l, i, m, ())) (no := none)
  (fun n j met hj hm hw h0 => by
   have hj' : (j : Int) < (t.2.2.2.1.length : Int) := by omega
   simp only [lsl7Reached_8, hj', hj, decide_true, cond_true, Int.natCast_nonneg, Int.toNat_natCast, getD_lt hj, h0, sNow_zero hN, Option.bind_some, bif_bne, if_true, hw])
  (fun n j met hj hm h0 hf => by
   have hj' : (j : Int) < (t.2.2.2.1.length : Int) := by omega
   simp only [lsl7Reached_8, hj', hj, decide_true, cond_true, Int.natCast_nonneg, Int.toNat_natCast, getD_lt hj, Fsl6Now, bif_beq, h0, if_false, sFind_none hN hll hf, Option.bind_some, show decide ((0 : Int) ≤ -1) = false from rfl, cond_false, Option.bind_none])
  (fun n j met hj u hm hw h0 hf hu hu0 hml => by
   have hml2 : met.length ≤ 1048576 := by have := C.met hm; omega
   have hj' : (j : Int) < (t.2.2.2.1.length : Int) := by omega
   have l1 : met.length + [u.2.1].length ≤ lim := by simpa using hml
   simp only [lsl7Reached_8, hj', hj, decide_true, cond_true, Int.natCast_nonneg, Int.toNat_natCast, getD_lt hj, sNow_some hN hll h0 hf, Option.bind_some, bif_bne, hu0, if_false]
   by_cases hc : u.2.1 ∈ met
   ·obtain ⟨k, hk, _, e2⟩ := sPlace_in hN hml2 hc
    have : ¬ (k : Int) < 0 := by omega
    simp only [e2, Option.bind_some, this, decide_false, cond_false, hc, if_true, hw]
   ·simp only [sPlace_not hN hml2 hc, Option.bind_some, show decide ((-1 : Int) < 0) = true from rfl, cond_true, l1, decide_true, hc, if_false, hw])
  (fun n met hm => by simp [lsl7Reached_8]) (n := N) (by omega) hM
 simp only [Int.natCast_zero] at h
 rw [h]
 cases meetA l t.2.2.2.1 met <;> rfl
theorem sR_6 {s : Stx} {l : List Tgx} (C : Hp s l) {met : List Int} (hM : MetOk l met) :
  lsl7Reached_6 N N (l, 0, met, ()) = (reachA l l.length 0 met).bind fun m => some (m, ()) := by
 have hlim : lim = 2147483648 := rfl
 have hll : l.length ≤ 1048576 := by have := C.len; omega
 have h := reach_loop C (L := fun n k met => lsl7Reached_6 N n (l, (k : Int), met, ())) (yes := fun m => some (m, ())) (no := none)
  (fun n k met hk t hm hw hf ht e => by
   have hk' : (k : Int) < (met.length : Int) := by omega
   obtain ⟨q, hq, eq, e2⟩ := sFind_some hN hll hf
   simp only [lsl7Reached_6, hk', hk, decide_true, cond_true, Int.natCast_nonneg, Int.toNat_natCast, getD_lt hk, e2, Option.bind_some, hq, getD_lt hq, eq, sR_8 hN C (i := (k : Int)) ht hm]
   cases meetA l t.2.2.2.1 met with
   | none => rfl
   | some m => simp only [Option.bind_some, hw])
  (fun n met hm => by simp [lsl7Reached_6]) (n := N) (by omega) hM
 simp only [Int.natCast_zero] at h
 rw [h]
 cases reachA l l.length 0 met <;> rfl
theorem heapOf_some {s : Stx} {l : List Tgx} {met : List Int} (h : heapOf s = some (l, met)) : Hp s l ∧ headOk s = true ∧ (stThr s).all thrOk = true ∧ (stPins s).all (pinOk l s.2.1) = true ∧ (meetA l (rootsL (stThr s) ++ stPins s) []).bind (reachA l l.length 0) = some met ∧ MetOk l met := by
 unfold heapOf at h
 cases hst : stThings s with
 | none => rw [hst] at h; cases h
 | some l' =>
  rw [hst] at h
  simp only [Option.map_eq_some_iff, Prod.mk.injEq] at h
  obtain ⟨m, h1, rfl, rfl⟩ := h
  unfold metOf at h1
  split at h1
  ·rename_i hc
   simp only [Bool.and_eq_true] at hc
   have C : Hp s l' := ⟨hst, hc.1⟩
   refine ⟨C, hc.2.1, hc.2.2.1, hc.2.2.2, h1, ?_⟩
   cases hq : meetA l' (rootsL (stThr s) ++ stPins s) [] with
   | none => rw [hq] at h1; cases h1
   | some m0 =>
    rw [hq] at h1
    exact (MetOk.nil.meet C.pw C.mv hq).reach C.pw C.mv h1
  ·cases h1
theorem sReached_ok {s : Stx} {l : List Tgx} {met : List Int} (hT : (stThr s).length ≤ 1048576) (hR : ∀ t ∈ stThr s, t.1.length ≤ 1048576) (hP : (stPins s).length ≤ 1048576) (h : heapOf s = some (l, met)) :
  Fsl7Reached N (s, l, ()) = some (met, ()) := by
 have hlim : lim = 2147483648 := rfl
 obtain ⟨C, _, _, hp, h1, _⟩ := heapOf_some hN h
 have e0 := sR_0 hN C hT hR N 0 [] (by omega) (by omega) MetOk.nil
 simp only [List.drop_zero, Int.natCast_zero] at e0
 rw [meetA_append] at h1
 cases hq : meetA l (rootsL (stThr s)) [] with
 | none => rw [hq] at h1; cases h1
 | some m1 =>
  rw [hq] at h1 e0
  have hM1 : MetOk l m1 := MetOk.nil.meet C.pw C.mv hq
  have e4 := sR_4 hN C hP hp N 0 m1 (by omega) (by omega) hM1
  simp only [List.drop_zero, Int.natCast_zero] at e4
  simp only [Option.bind_some] at h1 e0
  cases hq2 : meetA l (stPins s) m1 with
  | none => rw [hq2] at h1; cases h1
  | some m2 =>
   rw [hq2] at h1 e4
   have hM2 : MetOk l m2 := hM1.meet C.pw C.mv hq2
   have e6 := sR_6 hN C hM2
   simp only [Option.bind_some] at h1 e4
   rw [h1] at e6
   simp only [Fsl7Reached, e0, e4, e6, Option.bind_some]
theorem sFullLive_ok {s : Stx} (b1 : s.1.length ≤ 1048576) (b2 : s.2.1.length ≤ 1048576) (b3 : s.2.2.1.length ≤ 1048576) (b4 : ∀ x ∈ s.1, -9223372036854775808 ≤ x ∧ x < 9223372036854775808) (b5 : ∀ x ∈ s.2.1, -9223372036854775808 ≤ x.2.1 ∧ x.2.1 < 9223372036854775808)
  (hT : (stThr s).length ≤ 1048576) (hR : ∀ t ∈ stThr s, t.1.length ≤ 1048576) (hP : (stPins s).length ≤ 1048576) :
  FsFullLive N (s, ()) = some (match heapOf s with | some p => (true, sortI p.2, ()) | none => (false, [], ())) := by
 simp only [FsFullLive, sStateOk_ok hN b1 b2 b3 b4 b5 hT hR hP, Option.bind_some]
 cases hh : heapOf s with
 | none => rfl
 | some p =>
  obtain ⟨l, met⟩ := p
  obtain ⟨C, _, _, _, _, hM⟩ := heapOf_some hN hh
  have hml := C.met hM
  have hta := (stThings_some C.th).2
  simp only [Option.isSome_some, Bool.not_true, cond_false, sl6Things_ok hN b1 b4 b2, hta, Option.bind_some, sReached_ok hN hT hR hP hh, sSorted_ok hN (show met.length ≤ 1000 by omega)]
end
section
variable {N : Nat}
theorem iWordsOk_ok {w : List Int} (hl : w.length ≤ 1048576) : FiWordsOk N (w, ()) = some (wordsOk w, ()) := by
 unfold FiWordsOk wordsOk
 dsimp only
 have e2 : Int.tmod (w.length : Int) 16 = ((w.length % 16 : Nat) : Int) := by rw [Int.tmod_eq_emod_of_nonneg (by omega)]; omega
 simp only [e2, show decide ((16 : Int) = 0) = false from rfl, cond_false, bif_beq]
 by_cases h : w.length % 16 = 0
 ·have h1 : ((w.length % 16 : Nat) : Int) = 0 := by omega
  have h2 : decide ((w.length : Int) ≥ 32) = decide (32 ≤ w.length) := by by_cases h3 : 32 ≤ w.length <;> simp [h3] <;> omega
  have h4 : decide ((w.length : Int) ≤ 192) = decide (w.length ≤ 192) := by by_cases h3 : w.length ≤ 192 <;> simp [h3] <;> omega
  rw [if_pos h1, h2, h4]
  cases decide (32 ≤ w.length) <;> simp [h]
 ·have h1 : ¬ ((w.length % 16 : Nat) : Int) = 0 := by omega
  rw [if_neg h1]
  simp [h]
theorem ifits_ok {w : List Int} {a n : Int} (hl : w.length ≤ 1048576) (h1 : 1 ≤ n) (h2 : n ≤ 1048576) : Fifits N (w, a, n, ()) = some (fitsB w a n, ()) := by
 unfold Fifits fitsB
 simp only [iWordsOk_ok hl, Option.bind_some]
 cases hw : wordsOk w with
 | false => simp
 | true =>
  by_cases h3 : 16 ≤ a
  ·by_cases h4 : a < (w.length : Int)
   ·have e2 : Int.tmod a 16 = a % 16 := Int.tmod_eq_emod_of_nonneg (by omega)
    have e3 : w64 (a % 16 + n) = a % 16 + n := w64_id (by omega) (by omega)
    simp [h1, h3, h4, e2, e3]
   ·simp [h3, h4]
  ·simp [h3]
theorem iShapeOk_ok {s : Shx} : FiShapeOk N (s, ()) = some (shOk s, ()) := by
 unfold FiShapeOk shOk
 dsimp only
 by_cases h1 : 0 ≤ s.1 <;> by_cases h2 : s.1 ≤ 4 <;> by_cases h3 : 0 ≤ s.2.1 <;> simp [h1, h2, h3]
theorem iShapeSize_ok {s : Shx} : FiShapeSize N (s, ()) = some (shSz s, ()) := by
 unfold FiShapeSize shSz
 simp only [iShapeOk_ok, Option.bind_some]
 cases h : shOk s with
 | false => simp
 | true =>
  have := shOk_iff.1 h
  have e1 : w64 (2 + s.1) = 2 + s.1 := w64_id (by omega) (by omega)
  have e2 : w64 (2 + s.1 + s.2.1) = 2 + s.1 + s.2.1 := w64_id (by omega) (by omega)
  simp only [Bool.not_true, cond_false, e1, e2, if_true]
end
section
variable {N : Nat} (hN : lim < N)
theorem iRegionBase_ok {r : Int} : FiRegionBase N (r, ()) = some (regBase r, ()) := by
 unfold FiRegionBase regBase
 dsimp only
 by_cases h1 : r < 0
 ·simp [h1]
 ·by_cases h2 : r ≥ 12
  ·simp only [h1, h2, decide_true, decide_false, cond_true, cond_false, or_true, if_true]
  ·have e : w64 (r * 16) = 16 * r := by rw [w64_id (by omega) (by omega)]; omega
   simp only [h1, h2, decide_false, cond_false, or_self, if_false, e]
include hN
end
section
variable {N : Nat} (hN : lim < N)
include hN
theorem kClone_ok {xs : List Int} (hl : xs.length ≤ lim) : FkClone_Sint_int N (xs, ()) = some (xs, ()) := by
 cases xs with
 | nil =>
  simp only [FkClone_Sint_int, List.isEmpty_nil, cond_true]
  refine anyOf_eq (by omega) fun i _ => ?_
  cases hi : (i == 0) <;> simp
 | cons x xs =>
  have hl' : xs.length + 1 ≤ lim := by simpa using hl
  simp [FkClone_Sint_int, hl']
end
section
variable {N : Nat} (hN : lim < N)
include hN
theorem iRegion_ok_ok {x : Rgx} {i : Nat} (hi : i < 12) : FiRegion_ok N (x, (i : Int), ()) = some (rowOk i x, ()) := by
 have eb : regBase (i : Int) = 16 * (i : Int) := by unfold regBase; rw [if_neg (by omega)]
 obtain ⟨k, o, tp, ta, lv, ⟨⟩⟩ := x
 have w1 : w64 (16 * (i : Int) + 16) = 16 * (i : Int) + 16 := w64_id (by omega) (by omega)
 have hiff := rowOk_iff (i := i) (x := (k, o, tp, ta, lv, ()))
 dsimp only at hiff
 unfold FiRegion_ok
 simp only [iRegionBase_ok, eb, Option.bind_some, w1]
 generalize rowOk i (k, o, tp, ta, lv, ()) = rv at hiff ⊢
 have no : ¬ (rv = true) → rv = false := by simp
 by_cases h1 : k < 1
 ·rw [no (by rw [hiff]; omega)]; simp [h1]
 by_cases h2 : k > 4
 ·rw [no (by rw [hiff]; omega)]; simp [h1, h2]
 by_cases h3 : tp < 16 * (i : Int)
 ·rw [no (by rw [hiff]; omega)]; simp [h1, h2, h3]
 by_cases h4 : tp > 16 * (i : Int) + 16
 ·rw [no (by rw [hiff]; omega)]; simp [h1, h2, h3, h4]
 by_cases h5 : ta < 16 * (i : Int)
 ·rw [no (by rw [hiff]; omega)]; simp [h1, h2, h3, h4, h5]
 by_cases h6 : ta > tp
 ·rw [no (by rw [hiff]; omega)]; simp [h1, h2, h3, h4, h5, h6]
 by_cases h7 : lv < 0
 ·rw [no (by rw [hiff]; omega)]; simp [h1, h2, h3, h4, h5, h6, h7]
 have w2 : w64 (tp - 16 * (i : Int)) = tp - 16 * (i : Int) := w64_id (by omega) (by omega)
 by_cases h8 : lv > tp - 16 * (i : Int)
 ·rw [no (by rw [hiff]; omega)]; simp [h1, h2, h3, h4, h5, h6, h7, w2, h8]
 simp only [h1, h2, h3, h4, h5, h6, h7, h8, w2, decide_false, cond_false, Option.bind_some, Sum.elim_inl, bif_beq, bif_bne]
 by_cases k1 : k = 1
 ·have k2 : ¬ k = 2 := by omega
  by_cases h9 : tp = 16 * (i : Int)
  ·simp only [k1, h9, if_true, Option.bind_some, Sum.elim_inl, show ¬ (1 : Int) = 2 by omega, if_false]
   by_cases h10 : o = -1
   ·rw [(hiff.2 (by omega))]; simp [h10]
   ·rw [no (by rw [hiff]; omega)]; simp [h10]
  ·simp only [k1, h9, if_true, if_false, Option.bind_some, Sum.elim_inr]
   rw [no (by rw [hiff]; omega)]
 ·simp only [k1, if_false, Option.bind_some, Sum.elim_inl]
  by_cases k2 : k = 2
  ·simp only [k2, if_true]
   by_cases h10 : o ≥ 0
   ·by_cases h11 : o ≤ 3
    ·rw [hiff.2 (by omega)]; simp [h10, h11]
    ·rw [no (by rw [hiff]; omega)]; simp [h10, h11]
   ·rw [no (by rw [hiff]; omega)]; simp [h10]
  ·simp only [k2, if_false]
   by_cases h10 : o = -1
   ·rw [hiff.2 (by omega)]; simp [h10]
   ·rw [no (by rw [hiff]; omega)]; simp [h10]
theorem iTable_loop {t : List Rgx} (hl : t.length ≤ 12) : ∀ (k n i : Nat) (m : List (Int × Bool)), 1 ≤ i → i + k = t.length → k < n → (∀ o, 0 ≤ o → (mget m o).getD false = hadO t i o) →
  liTableOk_0 N n (t, (t.length : Int), (i : Int), m, ()) = some (if tblGo t k i = true then .inl () else .inr (false, ()))
 | 0, n, i, m, _, he, hn, _ => by
  obtain ⟨n, rfl⟩ : ∃ n', n = n' + 1 := ⟨n - 1, by omega⟩
  have : ¬ (i : Int) < (t.length : Int) := by omega
  simp [liTableOk_0, this, tblGo]
 | k + 1, n, i, m, h1, he, hn, hm => by
  obtain ⟨n, rfl⟩ : ∃ n', n = n' + 1 := ⟨n - 1, by omega⟩
  have hlt : i < t.length := by omega
  have hlt' : (i : Int) < (t.length : Int) := by omega
  have i0 : ¬ (i : Int) = 0 := by omega
  have e1 : w64 ((i : Int) + 1) = ((i + 1 : Nat) : Int) := w64_succ (by omega)
  have eg : t.getD i (0, 0, 0, 0, 0, ()) = t.getD i rg0 := rfl
  unfold liTableOk_0 tblGo
  dsimp only
  have eta : ∀ x : Rgx, (x.1, x.2.1, x.2.2.1, x.2.2.2.1, x.2.2.2.2.1, ()) = x := fun x => rfl
  simp only [hlt', hlt, decide_true, cond_true, Int.natCast_nonneg, Int.toNat_natCast, eg, bif_beq, i0, if_false, eta, iRegion_ok_ok hN (show i < 12 by omega), Option.bind_some]
  cases hr : rowOk i (t.getD i rg0) with
  | false => simp
  | true =>
   have hm' : ∀ o, 0 ≤ o → (mget (mset m (t.getD i rg0).2.1 true) o).getD false = hadO t (i + 1) o := by
    intro o ho
    rw [mget_mset, hadO_succ h1 hlt, ← hm o ho]
    by_cases e : o = (t.getD i rg0).2.1
    ·rw [if_pos e]; simp [e]
    ·have : ¬ (t.getD i rg0).2.1 = o := fun h => e h.symm
     rw [if_neg e]; simp [-List.getD_eq_getElem?_getD, this]
   have ih := iTable_loop hl k n (i + 1) _ (by omega) (by omega) (by omega) hm'
   simp only [Bool.not_true, cond_false, e1, Bool.true_and]
   generalize t.getD i rg0 = x at *
   by_cases ho : x.2.1 ≥ 0
   ·rw [hm _ ho]
    cases hh : hadO t i x.2.1 with
    | true =>
     have : decide (0 ≤ x.2.1) = true := by simpa using ho
     simp [ho, this]
    | false =>
     simp only [ho, decide_true, cond_true, cond_false, ih, Bool.and_false, Bool.not_false, Bool.true_and]
   ·have : decide (0 ≤ x.2.1) = false := by simp; omega
    simp only [ho, decide_false, cond_false, ih, this, Bool.false_and, Bool.not_false, Bool.true_and]
theorem iTableOk_ok {t : List Rgx} (hl : t.length ≤ 1048576) : FiTableOk N (t, ()) = some (tableOk t, ()) := by
 have hlim : lim = 2147483648 := rfl
 unfold FiTableOk tableOk
 by_cases h1 : (t.length : Int) < 2
 ·have : ¬ 2 ≤ t.length := by omega
  simp [h1, this]
 by_cases h2 : (t.length : Int) > 12
 ·have : ¬ t.length ≤ 12 := by omega
  simp [h1, h2, this]
 have h3 : 2 ≤ t.length := by omega
 have h4 : t.length ≤ 12 := by omega
 have h5 : 0 < t.length := by omega
 have hL := iTable_loop hN h4 (t.length - 1) (N - 1) 1 (mset [] (t.getD 0 rg0).2.1 true)
 simp only [h1, h2, h3, h4, h5, decide_true, decide_false, cond_true, cond_false, Bool.true_and, Fiedge, Option.bind_some, show (0 : Int).toNat = 0 from rfl, Int.le_refl]
 have eg : t.getD 0 (0, 0, 0, 0, 0, ()) = t.getD 0 rg0 := rfl
 rw [eg]
 have hedge : (((t.getD 0 rg0).1 == 0) && (((t.getD 0 rg0).2.1 == -1) && (((t.getD 0 rg0).2.2.1 == 0) && (((t.getD 0 rg0).2.2.2.1 == 0) && (((t.getD 0 rg0).2.2.2.2.1 == 0) && true))))) = decide (t.getD 0 rg0 = edgeRow) := by
  generalize t.getD 0 rg0 = x
  obtain ⟨a, b, c, d, e, ⟨⟩⟩ := x
  simp only [edgeRow, Prod.mk.injEq, and_true, Bool.and_true, Bool.decide_and, ibeq]
 rw [hedge]
 by_cases he : t.getD 0 rg0 = edgeRow
 ·have hN1 : N = (N - 1) + 1 := by omega
  have hL0 : liTableOk_0 N N (t, (t.length : Int), 0, [], ()) = some (if tblGo t (t.length - 1) 1 = true then .inl () else .inr (false, ())) := by
   have key : ∀ n, liTableOk_0 N (n + 1) (t, (t.length : Int), 0, [], ()) = liTableOk_0 N n (t, (t.length : Int), 1, [], ()) := by
    intro n
    have h6 : (0 : Int) < (t.length : Int) := by omega
    simp [liTableOk_0, h6, h5, w64_id]
   rw [show liTableOk_0 N N = liTableOk_0 N ((N - 1) + 1) by rw [← hN1], key]
   have := iTable_loop hN h4 (t.length - 1) (N - 1) 1 [] (by omega) (by omega) (by omega) (fun o _ => by simp [mget, hadO])
   simpa using this
  simp only [he, decide_true, Bool.not_true, cond_false, Option.bind_some, Sum.elim_inl, hL0, Bool.true_and]
  cases tblGo t (t.length - 1) 1 <;> rfl
 ·simp only [he, decide_false, Bool.not_false, cond_true, Option.bind_some, Sum.elim_inr, Bool.false_and]
theorem iState_whole_ok {s : Stx} (hl : s.1.length ≤ 1048576) (ht : s.2.1.length ≤ 1048576) (hm : s.2.2.1.length ≤ 1048576) : FiState_whole N (s, ()) = some (wholeB s.1 s.2.1 s.2.2.1, ()) := by
 unfold FiState_whole wholeB
 simp only [iWordsOk_ok hl, Option.bind_some]
 cases hw : wordsOk s.1 with
 | false => simp
 | true =>
  simp only [cond_true, iTableOk_ok hN ht, Option.bind_some, Bool.true_and]
  cases ht2 : tableOk s.2.1 with
  | false => simp
  | true =>
   have hwo := wordsOk_iff.1 hw
   have e1 : w64 (Int.tdiv (s.1.length : Int) 16) = ((s.1.length / 16 : Nat) : Int) := by
    rw [Int.tdiv_eq_ediv_of_nonneg (by omega), w64_id (by omega) (by omega)]; omega
   simp only [cond_true, show decide ((16 : Int) = 0) = false from rfl, cond_false, e1, bif_beq, Bool.true_and]
   by_cases h1 : s.2.1.length * 16 = s.1.length
   ·have h2 : (s.2.1.length : Int) = ((s.1.length / 16 : Nat) : Int) := by omega
    have h3 : ((s.2.2.1.length : Int) == (s.1.length : Int)) = decide (s.2.2.1.length = s.1.length) := by
     by_cases h4 : s.2.2.1.length = s.1.length
     ·simp [h4]
     ·have : ¬ (s.2.2.1.length : Int) = (s.1.length : Int) := by omega
      simp [h4, this]
    rw [if_pos h2, h3]
    simp [h1]
   ·have h2 : ¬ (s.2.1.length : Int) = ((s.1.length / 16 : Nat) : Int) := by omega
    rw [if_neg h2]
    simp [h1]
end
section
variable {N : Nat} (hN : lim < N)
theorem iShapeOf_ok {w : Int} (hw : w < 9223372036854775808) (hw' : -9223372036854775808 ≤ w) : FiShapeOf N (w, ()) = some (match shOf w with | some s => (s.1, s.2.1, true, ()) | none => (0, 0, false, ())) := by
 unfold FiShapeOf shOf
 dsimp only
 by_cases h0 : w < 0
 ·have : ¬ 0 ≤ w := by omega
  simp [h0, this]
 ·have h0' : 0 ≤ w := by omega
  have e1 : w64 (Int.tdiv w 16) = w / 16 := by
   rw [Int.tdiv_eq_ediv_of_nonneg h0', w64_id (by omega) (by omega)]
  have e2 : Int.tmod w 16 = w % 16 := Int.tmod_eq_emod_of_nonneg h0'
  simp only [h0, h0', decide_false, cond_false, show decide ((16 : Int) = 0) = false from rfl, e1, e2, iShapeOk_ok, Option.bind_some, true_and]
  by_cases h1 : w / 16 ≤ 4 ∧ w % 16 ≤ 4
  ·have : shOk ((w / 16, w % 16, ()) : Shx) = true := shOk_iff.2 (by dsimp only; omega)
   rw [this, if_pos h1]
   rfl
  ·have : shOk ((w / 16, w % 16, ()) : Shx) = false := by
    cases h : shOk ((w / 16, w % 16, ()) : Shx) with
    | false => rfl
    | true => have := shOk_iff.1 h; dsimp only at this; omega
   rw [this, if_neg h1]
   rfl
theorem iThing_size_ok {t : Tgx} : FiThing_size N (t, ()) = some (shSz t.2.2.1, ()) := by
 simp only [FiThing_size, iShapeSize_ok, Option.bind_some]
include hN
theorem iThingAt_ok {w : List Int} {a : Int} (hl : w.length ≤ 1048576) (hw : ∀ x ∈ w, -9223372036854775808 ≤ x ∧ x < 9223372036854775808) :
  FiThingAt_r_ N (w, a, ()) = some (match thingAt w a with | some t => (t.1, t.2.1, t.2.2.1.1, t.2.2.1.2.1, t.2.2.2.1, t.2.2.2.2.1, true, ()) | none => (0, 0, 0, 0, [], [], false, ())) := by
 have hlim : lim = 2147483648 := rfl
 unfold FiThingAt_r_ thingAt
 simp only [ifits_ok hl (show (1 : Int) ≤ 2 by omega) (show (2 : Int) ≤ 1048576 by omega), Option.bind_some]
 cases hf : fitsB w a 2 with
 | false => simp
 | true =>
  obtain ⟨f1, f2, f3, f4, f5⟩ := fitsB_iff.1 hf
  obtain ⟨g1, g2, g3⟩ := fits_room hf
  have e1 : w64 (a + 1) = a + 1 := w64_id (by omega) (by omega)
  have p1 : (0 : Int) ≤ a + 1 := by omega
  have p2 : (a + 1).toNat < w.length := by omega
  have hx := hw _ (List.getElem_mem p2)
  rw [← getD_lt (d := 0) p2] at hx
  simp only [Bool.not_true, cond_false, e1, p1, p2, decide_true, cond_true, iShapeOf_ok hx.2 hx.1, Option.bind_some, if_true]
  cases hs : shOf (w.getD (a + 1).toNat 0) with
  | none => simp
  | some s =>
   obtain ⟨h1, _⟩ := shOf_some hs
   have h2 := shOk_iff.1 h1
   obtain ⟨sr, sm, ⟨⟩⟩ := s
   have h3 : shSz (sr, sm, ()) = 2 + sr + sm := by unfold shSz; rw [if_pos h1]
   dsimp only at h2 ⊢
   simp only [Bool.not_true, cond_false, iShapeSize_ok, Option.bind_some, ifits_ok hl (show 1 ≤ shSz (sr, sm, ()) by omega) (show shSz (sr, sm, ()) ≤ 1048576 by omega)]
   cases hf2 : fitsB w a (shSz (sr, sm, ())) with
   | false => simp
   | true =>
    obtain ⟨q1, q2, q3⟩ := fits_room hf2
    obtain ⟨r, rfl⟩ := Int.eq_ofNat_of_zero_le h2.1
    obtain ⟨m, rfl⟩ := Int.eq_ofNat_of_zero_le h2.2.2.1
    obtain ⟨b, rfl⟩ := Int.eq_ofNat_of_zero_le (show 0 ≤ a by omega)
    have p3 : b < w.length := by omega
    have c1 : w64 ((b : Int) + 2) = ((b + 2 : Nat) : Int) := by rw [w64_id (by omega) (by omega)]; omega
    have c2 : w64 (((b + 2 : Nat) : Int) + (r : Int)) = ((b + 2 + r : Nat) : Int) := by rw [w64_id (by omega) (by omega)]; omega
    have c3 : w64 (((b + 2 + r : Nat) : Int) + (m : Int)) = ((b + 2 + r + m : Nat) : Int) := by rw [w64_id (by omega) (by omega)]; omega
    have d1 : ((b + 2 + r : Nat) : Int) ≤ (w.length : Int) := by omega
    have d2 : ((b + 2 + r + m : Nat) : Int) ≤ (w.length : Int) := by omega
    have d3 : ((b + 2 : Nat) : Int) ≤ ((b + 2 + r : Nat) : Int) := by omega
    have d4 : ((b + 2 + r : Nat) : Int) ≤ ((b + 2 + r + m : Nat) : Int) := by omega
    have d5 : b + 2 + r - (b + 2) = r := by omega
    have d6 : b + 2 + r + m - (b + 2 + r) = m := by omega
    have k1 := kClone_ok hN (xs := (w.drop (b + 2)).take r) (by simp only [List.length_take, List.length_drop]; omega)
    have k2 := kClone_ok hN (xs := (w.drop (b + 2 + r)).take m) (by simp only [List.length_take, List.length_drop]; omega)
    simp only [Bool.not_true, cond_false, Option.bind_some, Sum.elim_inl, c1, c2, c3, Int.natCast_nonneg, Int.toNat_natCast, p3, decide_true, cond_true, d1, d2, d3, d4, d5, d6, k1, k2, if_true]
theorem iThings_loop {w : List Int} {top : Int} (hl : w.length ≤ 1048576) (hw : ∀ x ∈ w, -9223372036854775808 ≤ x ∧ x < 9223372036854775808) (ht : top ≤ 208) : ∀ (k n : Nat) (a : Int) (acc : List Tgx), 0 ≤ a → (top - a).toNat < 2 * k → k ≤ n → acc.length + k ≤ 1048576 →
  liThingsIn_0 N n (w, top, a, acc, ()) = some (match thingsFrom w top k a with | some l => .inl (acc ++ l, ()) | none => .inr (false, [], ()))
 | 0, _, _, _, _, h, _, _ => absurd h (Nat.not_lt_zero _)
 | k + 1, 0, _, _, _, _, h, _ => absurd h (by omega)
 | k + 1, n + 1, a, acc, h0, hk, hn, hacc => by
  have hlim : lim = 2147483648 := rfl
  unfold liThingsIn_0 thingsFrom
  dsimp only
  by_cases h : a < top
  ·simp only [h, decide_true, cond_true, iThingAt_ok hN hl hw, Option.bind_some, if_true]
   cases hta : thingAt w a with
   | none => simp
   | some t =>
    obtain ⟨e1, e2, e3, e4, e5, e6, e7, e8⟩ := thingAt_some hta
    obtain ⟨t1, t2, ⟨t3, t4, ⟨⟩⟩, t5, t6, ⟨⟩⟩ := t
    have e9 : 2 ≤ shSz (t3, t4, ()) ∧ shSz (t3, t4, ()) ≤ 10 := ⟨e7, e8⟩
    clear e3 e5 e6 e7 e8
    dsimp only at e1 e2 ⊢
    have w1 : w64 (a + shSz (t3, t4, ())) = a + shSz (t3, t4, ()) := w64_id (by omega) (by omega)
    simp only [Bool.not_true, cond_false, iThing_size_ok, Option.bind_some, w1]
    by_cases hgt : a + shSz (t3, t4, ()) > top
    ·simp only [hgt, decide_true, cond_true, Option.bind_some, Sum.elim_inr, if_true]
    ·have l : acc.length + [((t1, t2, (t3, t4, ()), t5, t6, ()) : Tgx)].length ≤ lim := by simp only [List.length_cons, List.length_nil]; omega
     have ih := iThings_loop hl hw ht k n (a + shSz (t3, t4, ())) (acc ++ [(t1, t2, (t3, t4, ()), t5, t6, ())]) (by omega) (by omega) (by omega) (by simp only [List.length_append, List.length_cons, List.length_nil]; omega)
     simp only [hgt, decide_false, cond_false, Option.bind_some, Sum.elim_inl, l, decide_true, cond_true, w1, ih, if_false]
     cases thingsFrom w top k (a + shSz (t3, t4, ())) <;> simp
  ·simp only [h, decide_false, cond_false, if_false, List.append_nil]
theorem iThingsIn_ok {w : List Int} {r top : Int} (hl : w.length ≤ 1048576) (hw : ∀ x ∈ w, -9223372036854775808 ≤ x ∧ x < 9223372036854775808) :
  FiThingsIn N (w, r, top, ()) = some (match thingsIn w r top with | some l => (true, l, ()) | none => (false, [], ())) := by
 have hlim : lim = 2147483648 := rfl
 unfold FiThingsIn thingsIn
 simp only [iWordsOk_ok hl, Option.bind_some]
 cases hwo : wordsOk w with
 | false => simp
 | true =>
  have hwo' := wordsOk_iff.1 hwo
  have e1 : w64 (Int.tdiv (w.length : Int) 16) = ((w.length / 16 : Nat) : Int) := by
   rw [Int.tdiv_eq_ediv_of_nonneg (by omega), w64_id (by omega) (by omega)]; omega
  by_cases h1 : r < 1
  ·have : ¬ 1 ≤ r := by omega
   simp [h1, this]
  ·have h1' : 1 ≤ r := by omega
   by_cases h2 : r ≥ ((w.length / 16 : Nat) : Int)
   ·have : ¬ r < ((w.length / 16 : Nat) : Int) := by omega
    simp only [h1, h1', h2, this, e1, Bool.not_true, cond_false, decide_true, decide_false, cond_true, show decide ((16 : Int) = 0) = false from rfl, Option.bind_some, Sum.elim_inr, and_false, false_and, true_and, if_false]
   ·have h2' : r < ((w.length / 16 : Nat) : Int) := by omega
    have e2 : regBase r = 16 * r := by unfold regBase; rw [if_neg (by omega)]
    have e3 : w64 (16 * r + 16) = 16 * r + 16 := w64_id (by omega) (by omega)
    simp only [h1, h1', h2, h2', e1, e2, e3, Bool.not_true, cond_false, decide_true, decide_false, cond_true, show decide ((16 : Int) = 0) = false from rfl, iRegionBase_ok, Option.bind_some, true_and]
    by_cases h3 : top < 16 * r
    ·have : ¬ 16 * r ≤ top := by omega
     simp only [h3, this, decide_true, cond_true, Option.bind_some, Sum.elim_inr, false_and, if_false]
    ·have h3' : 16 * r ≤ top := by omega
     by_cases h4 : top > 16 * r + 16
     ·have : ¬ top ≤ 16 * r + 16 := by omega
      simp only [h3, h4, this, decide_true, decide_false, cond_true, cond_false, Option.bind_some, Sum.elim_inr, and_false, if_false]
     ·have h4' : top ≤ 16 * r + 16 := by omega
      have hL := iThings_loop hN (top := top) hl hw (by omega) 17 N (16 * r) [] (by omega) (by omega) (by omega) (by simp)
      simp only [h3, h3', h4, h4', decide_false, cond_false, Option.bind_some, Sum.elim_inl, e2, hL, and_self, if_true, List.nil_append]
      cases thingsFrom w top 17 (16 * r) <;> rfl
theorem iThings_put {s : Stx} {i : Int} {l : List Tgx} (hl : l.length ≤ 1048576) (hp : l.Pairwise (fun x y => x.1 < y.1)) {pre : List Tgx} (hpre : ∀ x ∈ pre, ∀ y ∈ l, x.1 < y.1) :
  liState_things_2 N N (s, i, (l.length : Int), 0, tmap pre, l, ()) = some (s, i, tmap (pre ++ l), ()) := by
 have hlim : lim = 2147483648 := rfl
 have key : ∀ (n j : Nat), j ≤ l.length → l.length - j < n → liState_things_2 N n (s, i, (l.length : Int), (j : Int), tmap (pre ++ l.take j), l, ()) = some (s, i, tmap (pre ++ l), ()) := by
  intro n
  induction n with
  | zero => intro j _ h; exact absurd h (Nat.not_lt_zero _)
  | succ n ih =>
   intro j hj hn
   unfold liState_things_2
   dsimp only
   by_cases h : j < l.length
   ·have h' : (j : Int) < (l.length : Int) := by omega
    have e1 : w64 ((j : Int) + 1) = ((j + 1 : Nat) : Int) := w64_succ (by omega)
    have e2 : mset (tmap (pre ++ l.take j)) l[j].1 l[j] = tmap (pre ++ l.take (j + 1)) := by
     rw [tmap_push, List.append_assoc, ← List.take_succ_eq_append_getElem h]
     intro x hx
     rcases List.mem_append.1 hx with hx | hx
     ·exact hpre x hx _ (List.getElem_mem h)
     ·obtain ⟨q, hq, rfl⟩ := List.getElem_of_mem hx
      simp only [List.length_take] at hq
      rw [List.getElem_take]
      exact List.pairwise_iff_getElem.1 hp q j (by omega) h (by omega)
    have eta : ∀ t : Tgx, (t.1, t.2.1, (t.2.2.1.1, t.2.2.1.2.1, ()), t.2.2.2.1, t.2.2.2.2.1, ()) = t := fun t => rfl
    simp only [h', h, decide_true, cond_true, Int.natCast_nonneg, Int.toNat_natCast, getD_lt h, e1, eta, e2]
    exact ih (j + 1) (by omega) (by omega)
   ·have : j = l.length := by omega
    subst this
    simp
 have := key N 0 (by omega) (by omega)
 simpa using this
theorem iState_things_ok {s : Stx} (hl : s.1.length ≤ 1048576) (hw : ∀ x ∈ s.1, -9223372036854775808 ≤ x ∧ x < 9223372036854775808) (ht : s.2.1.length ≤ 1048576) (hm : s.2.2.1.length ≤ 1048576) :
  FiState_things N (s, ()) = some (match (if wholeB s.1 s.2.1 s.2.2.1 = true then thingsAll s.1 s.2.1 else none) with | some l => (tmap l, true, ()) | none => ([], false, ())) := by
 have hlim : lim = 2147483648 := rfl
 unfold FiState_things
 simp only [iState_whole_ok hN hl ht hm, Option.bind_some]
 cases hwh : wholeB s.1 s.2.1 s.2.2.1 with
 | false => simp
 | true =>
  have key : ∀ (k n i : Nat) (acc : List Tgx), 1 ≤ i → s.2.1.length ≤ i + k → (i ≤ s.2.1.length ∨ k = 0) → (k = 0 ∨ i + k = s.2.1.length) → k < n → (∀ x ∈ acc, x.1 < 16 * (i : Int)) →
    liState_things_0 N n (s, (i : Int), tmap acc, ()) = some (match thingsGo s.1 s.2.1 k i with | some l => .inl (tmap (acc ++ l), ()) | none => .inr (false, ())) := by
   intro k
   induction k with
   | zero =>
    intro n i acc hi hlen _ _ hn _
    obtain ⟨n, rfl⟩ : ∃ n', n = n' + 1 := ⟨n - 1, by omega⟩
    have : ¬ (i : Int) < (s.2.1.length : Int) := by omega
    simp [liState_things_0, this, thingsGo]
   | succ k ih =>
    intro n i acc hi hlen h1 h2 hn hacc
    obtain ⟨n, rfl⟩ : ∃ n', n = n' + 1 := ⟨n - 1, by omega⟩
    have hlt : i < s.2.1.length := by omega
    have hlt' : (i : Int) < (s.2.1.length : Int) := by omega
    have e1 : w64 ((i : Int) + 1) = ((i + 1 : Nat) : Int) := w64_succ (by omega)
    unfold liState_things_0 thingsGo
    dsimp only
    simp only [hlt', hlt, decide_true, cond_true, Int.natCast_nonneg, Int.toNat_natCast, iThingsIn_ok hN hl hw, Option.bind_some]
    have eg : s.2.1.getD i (0, 0, 0, 0, 0, ()) = s.2.1.getD i rg0 := rfl
    rw [eg]
    cases hti : thingsIn s.1 (i : Int) (s.2.1.getD i rg0).2.2.1 with
    | none => simp
    | some l =>
     obtain ⟨c1, c2, c3, _⟩ := thingsIn_at hti
     have e2 := iThings_put hN (s := s) (i := (i : Int)) (l := l) (by omega) c1 (pre := acc) (fun x hx y hy => by have := hacc x hx; have := (c2 y hy).1; omega)
     have ih := ih n (i + 1) (acc ++ l) (by omega) (by omega) (by omega) (by omega) (by omega) (fun x hx => by
      rcases List.mem_append.1 hx with hx | hx
      ·have := hacc x hx; omega
      ·have := c2 x hx; omega)
     simp only [Bool.not_true, cond_false, e2, Option.bind_some, e1, ih]
     cases thingsGo s.1 s.2.1 k (i + 1) <;> simp
  have := key (s.2.1.length - 1) N 1 [] (by omega) (by omega) (by have := tableOk_iff (wholeB_iff.1 hwh).2.1; omega) (by have := tableOk_iff (wholeB_iff.1 hwh).2.1; omega) (by omega) (by simp)
  have e0 : tmap [] = [] := rfl
  simp only [Int.natCast_one, e0, List.nil_append] at this
  unfold thingsAll
  simp only [Bool.not_true, cond_false, this, Option.bind_some, if_true]
  cases thingsGo s.1 s.2.1 (s.2.1.length - 1) 1 <;> rfl
end
section
variable {N : Nat} (hN : lim < N)
theorem iRegionOf_ok {a : Int} (h : a < 9223372036854775808) : FiRegionOf N (a, ()) = some (regOf a, ()) := by
 unfold FiRegionOf regOf
 dsimp only
 by_cases h0 : a < 0
 ·simp [h0]
 ·have e1 : w64 (Int.tdiv a 16) = a / 16 := by
   rw [Int.tdiv_eq_ediv_of_nonneg (by omega), w64_id (by omega) (by omega)]
  simp only [h0, decide_false, cond_false, show decide ((16 : Int) = 0) = false from rfl, e1, if_false]
theorem iState_from_ok {s : Stx} {a : Int} (h0 : 0 ≤ a) (h1 : a < 192) (h2 : (a / 16).toNat < s.2.1.length) : FiState_from N (s, a, ()) = some (fromB s.2.1 a, ()) := by
 have e : regOf a = a / 16 := by unfold regOf; rw [if_neg (by omega)]
 have h3 : a / 16 ≥ 0 := by omega
 have h4 : a / 16 < (s.2.1.length : Int) := by omega
 have eg : s.2.1.getD (a / 16).toNat (0, 0, 0, 0, 0, ()) = s.2.1.getD (a / 16).toNat rg0 := rfl
 simp only [FiState_from, iRegionOf_ok (show a < 9223372036854775808 by omega), e, Option.bind_some, h3, h4, h2, decide_true, cond_true, eg, fromB, ibeq]
include hN
theorem iState_settled_ok {s : Stx} {l : List Tgx} (hw : wholeB s.1 s.2.1 s.2.2.1 = true) (hta : thingsAll s.1 s.2.1 = some l) : FiState_settled N (s, tmap l, ()) = some (l.all (movOk l s.2.1), ()) := by
 have hlim : lim = 2147483648 := rfl
 have ht2 := tableOk_iff (wholeB_iff.1 hw).2.1
 obtain ⟨a1, a2, a3⟩ := thingsAll_at hta
 have hr := thing_rng hw hta
 have hL := anyall_loop (P := fun p : Int × Tgx => p.2 ∈ l) (fun p => movOk l s.2.1 p.2) (L := fun n rest => liState_settled_0 N n (tmap l, s, rest, ())) (yes := .inl ()) (no := .inr (false, ()))
  (fun n => by simp [liState_settled_0])
  (fun n rest hne hP => by
   have he : rest.isEmpty = false := by cases rest with | nil => exact absurd rfl hne | cons => rfl
   rw [liState_settled_0]
   simp only [he, cond_false]
   refine ⟨_, rfl, fun i h => ?_⟩
   have hm : rest[i].2 ∈ l := hP _ (List.getElem_mem h)
   have hg : mget (tmap l) rest[i].2.2.1 = findT l rest[i].2.2.1 := tmap_get
   have r1 := hr _ hm
   have f1 := iState_from_ok (N := N) (s := s) (a := rest[i].2.1) (by omega) r1.2.1 r1.2.2
   simp only [getD_lt h, bif_beq, bif_bne, hg]
   unfold movOk
   by_cases e : rest[i].2.2.1 = rest[i].2.1
   ·simp only [if_pos e]
    exact ⟨fun _ => trivial, fun h => (by cases h)⟩
   ·simp only [if_neg e]
    cases hf : findT l rest[i].2.2.1 with
    | none => simp
    | some k =>
     obtain ⟨hk, _⟩ := findT_mem hf
     have r2 := hr _ hk
     have f2 := iState_from_ok (N := N) (s := s) (a := k.1) (by omega) r2.2.1 r2.2.2
     simp only [Option.isSome_some, Option.getD_some, Bool.not_true, cond_false, f1, f2, Option.bind_some]
     by_cases q1 : k.2.2.1 = rest[i].2.2.2.1
     ·have s1 : k.2.2.1.1 = rest[i].2.2.2.1.1 := by rw [q1]
      have s2 : k.2.2.1.2.1 = rest[i].2.2.2.1.2.1 := by rw [q1]
      simp only [q1, s1, s2, beq_self_eq_true, Bool.and_true, Bool.not_true, cond_false, decide_true, Bool.true_and]
      by_cases q2 : k.2.1 = k.1
      ·simp only [q2, if_true, decide_true, Bool.true_and]
       cases fromB s.2.1 k.1 <;> cases fromB s.2.1 rest[i].2.1 <;> simp
      ·simp only [q2, if_false, decide_false, Bool.false_and]
       exact ⟨fun h => (by cases h), fun _ => trivial⟩
     ·have : ((k.2.2.1.1 == rest[i].2.2.2.1.1) && ((k.2.2.1.2.1 == rest[i].2.2.2.1.2.1) && true)) = false := by
       cases hb : ((k.2.2.1.1 == rest[i].2.2.2.1.1) && ((k.2.2.1.2.1 == rest[i].2.2.2.1.2.1) && true)) with
       | false => rfl
       | true =>
        simp only [Bool.and_true, Bool.and_eq_true, beq_iff_eq] at hb
        exact absurd (Prod.ext hb.1 (Prod.ext hb.2 rfl)) q1
      simp only [this, Bool.not_false, cond_true, q1, decide_false, Bool.false_and]
      exact ⟨fun h => (by cases h), fun _ => trivial⟩)
  N (tmap l) (by simp [tmap]; omega) (fun p hp => by
    simp only [tmap, List.mem_map] at hp
    obtain ⟨t, ht, rfl⟩ := hp
    exact ht)
 have e : (tmap l).all (fun p => movOk l s.2.1 p.2) = l.all (movOk l s.2.1) := by
  simp only [tmap, List.all_map]
  rfl
 rw [e] at hL
 simp only [FiState_settled, hL, Option.bind_some]
 cases l.all (movOk l s.2.1) <;> rfl
end
theorem meet_loopQ {s : Stx} {l : List Tgx} (C : Hp s l) {ρ : Type} {rs : List Int} (has : rs.length ≤ lim) {L : Nat → Nat → List Int → Option ρ} {Q : Option ρ → Option (List Int) → Prop}
  (h0 : ∀ n i met (h : i < rs.length), MetOk l met → w64 ((i : Int) + 1) = ((i + 1 : Nat) : Int) → rs[i] = 0 → L (n + 1) i met = L n (i + 1) met)
  (h1 : ∀ n i met (h : i < rs.length), MetOk l met → rs[i] ≠ 0 → findT l rs[i] = none → Q (L (n + 1) i met) none)
  (h2 : ∀ n i met (h : i < rs.length) t, MetOk l met → w64 ((i : Int) + 1) = ((i + 1 : Nat) : Int) → rs[i] ≠ 0 → findT l rs[i] = some t → t ∈ l → t.2.1 ≠ 0 → met.length + 1 ≤ lim → L (n + 1) i met = L n (i + 1) (if t.2.1 ∈ met then met else met ++ [t.2.1]))
  (h3 : ∀ n met, MetOk l met → Q (L (n + 1) rs.length met) (some met)) {n : Nat} (hn : rs.length < n) {met : List Int} (hM : MetOk l met) :
  Q (L n 0 met) (meetA l rs met) := by
 have key : ∀ n i met, i ≤ rs.length → rs.length - i < n → MetOk l met → Q (L n i met) (meetA l (rs.drop i) met) := by
  intro n
  induction n with
  | zero => intro i met _ h; exact absurd h (Nat.not_lt_zero _)
  | succ n ih =>
   intro i met hi hn hM
   by_cases h : i < rs.length
   ·have hw : w64 ((i : Int) + 1) = ((i + 1 : Nat) : Int) := w64_succ (by have : lim = 2147483648 := rfl; omega)
    rw [drop_at h]
    simp only [meetA]
    by_cases ha : rs[i] = 0
    ·rw [if_pos ha, h0 n i met h hM hw ha]
     exact ih (i + 1) met (by omega) (by omega) hM
    ·rw [if_neg ha]
     cases hf : findT l rs[i] with
     | none => exact h1 n i met h hM ha hf
     | some t =>
      have ht := (findT_mem hf).1
      have hl := C.met hM
      rw [h2 n i met h t hM hw ha hf ht (by have := C.now ht; omega) (by rw [lim_eq]; omega)]
      exact ih (i + 1) _ (by omega) (by omega) (C.push hM ht)
   ·have : i = rs.length := by omega
    subst this
    have := h3 n met hM
    simpa [meetA] using this
 simpa using key n 0 met (by omega) (by omega) hM
theorem reach_loopQ {s : Stx} {l : List Tgx} (C : Hp s l) {ρ : Type} {L : Nat → Nat → List Int → Option ρ} {Q : Option ρ → Option (List Int) → Prop}
  (h1 : ∀ (n k : Nat) (met : List Int) (h : k < met.length) (t : Tgx), MetOk l met → w64 ((k : Int) + 1) = ((k + 1 : Nat) : Int) → findT l met[k] = some t → t ∈ l → t.2.1 = met[k] →
   (∀ m, meetA l t.2.2.2.1 met = some m → L (n + 1) k met = L n (k + 1) m) ∧ (meetA l t.2.2.2.1 met = none → Q (L (n + 1) k met) none))
  (h3 : ∀ n met, MetOk l met → Q (L (n + 1) met.length met) (some met)) {n : Nat} (hn : l.length < n) {met : List Int} (hM : MetOk l met) :
  Q (L n 0 met) (reachA l l.length 0 met) := by
 have key : ∀ d n k met, l.length ≤ k + d → d < n → k ≤ met.length → MetOk l met → Q (L n k met) (reachA l d k met) := by
  intro d
  induction d with
  | zero =>
   intro n k met hd hn hk hM
   obtain ⟨n, rfl⟩ : ∃ m, n = m + 1 := ⟨n - 1, by omega⟩
   have := hM.len
   have : k = met.length := by omega
   subst this
   exact h3 n met hM
  | succ d ih =>
   intro n k met hd hn hk hM
   obtain ⟨n, rfl⟩ : ∃ m, n = m + 1 := ⟨n - 1, by omega⟩
   have hl := C.met hM
   simp only [reachA]
   by_cases h : k < met.length
   ·obtain ⟨t, hf, e⟩ := hM.self _ (List.getElem_mem h)
    obtain ⟨g1, g2⟩ := h1 n k met h t hM (w64_succ (by omega)) hf (findT_mem hf).1 e
    rw [if_pos h, getD_lt h]
    have er : refsT l met[k] = t.2.2.2.1 := by simp only [refsT, hf]
    rw [er]
    cases hq : meetA l t.2.2.2.1 met with
    | none => exact g2 hq
    | some m =>
     have := meetA_len hq
     rw [g1 m hq]
     exact ih n (k + 1) m (by omega) (by omega) (by omega) (hM.meet C.pw C.mv hq)
   ·have : k = met.length := by omega
    subst this
    rw [if_neg (Nat.lt_irrefl _)]
    exact h3 n met hM
 exact key l.length n 0 met (by omega) hn (by omega) hM
def snM (met : List Int) : List (Int × Bool) := met.map fun n => (n, true)
theorem snM_get : ∀ {met : List Int} {n : Int}, (mget (snM met) n).getD false = decide (n ∈ met)
 | [], n => by simp [snM, mget]
 | x :: met, n => by
  have ih := snM_get (met := met) (n := n)
  simp only [snM, List.map_cons, mget] at ih ⊢
  by_cases h : n = x
  ·simp [h]
  ·simp only [h, decide_false, cond_false, ih, List.mem_cons, false_or]
theorem snM_set : ∀ {met : List Int} {n : Int}, n ∉ met → mset (snM met) n true = snM (met ++ [n])
 | [], n, _ => rfl
 | x :: met, n, h => by
  have h1 : ¬ n = x := fun e => h (by simp [e])
  have ih := snM_set (met := met) (n := n) (fun e => h (by simp [e]))
  simp only [snM, List.map_cons, List.map_append, List.map_nil, List.cons_append, mset] at ih ⊢
  simp only [h1, decide_false, cond_false, ih]
section
variable {N : Nat} (hN : lim < N)
include hN
theorem iMeet {s : Stx} {l : List Tgx} (C : Hp s l) {rs : List Int} (hr : rs.length ≤ 1048576) {met : List Int} (hM : MetOk l met) (c1 : List Int) (c2 : List Rgx) (c3 : List Bool) (c4 : Int) (c5 c6 c7 : Bool) (c8 : Int) (c9 : List Thr) (c10 c11 : List Int) (c12 c13 : Int) :
  (∀ m, meetA l rs met = some m → Fiheap_reach_1 N (rs, c1, c2, c3, c4, c5, c6, c7, c8, c9, c10, c11, c12, c13, tmap l, met, snM met, ()) = some (true, c1, c2, c3, c4, c5, c6, c7, c8, c9, c10, c11, c12, c13, tmap l, m, snM m, ())) ∧
  (meetA l rs met = none → ∃ r, Fiheap_reach_1 N (rs, c1, c2, c3, c4, c5, c6, c7, c8, c9, c10, c11, c12, c13, tmap l, met, snM met, ()) = some r ∧ r.1 = false) := by
 have hlim : lim = 2147483648 := rfl
 have h := meet_loopQ C (rs := rs) (by omega) (L := fun n i met => liheap_reach_1_0 N n (rs, (rs.length : Int), (i : Int), c1, c2, c3, c4, c5, c6, c7, c8, c9, c10, c11, c12, c13, tmap l, met, snM met, ()))
  (Q := fun o r => match r with
   | some m => o = some (.inl (c1, c2, c3, c4, c5, c6, c7, c8, c9, c10, c11, c12, c13, tmap l, m, snM m, ()))
   | none => ∃ q, o = some (.inr q) ∧ q.1 = false)
  (fun n i met h hm hw h0 => by
   have h' : (i : Int) < (rs.length : Int) := by omega
   simp only [liheap_reach_1_0, h', h, decide_true, cond_true, Int.natCast_nonneg, Int.toNat_natCast, getD_lt h, h0, bif_beq, if_true, hw])
  (fun n i met h hm h0 hf => by
   have h' : (i : Int) < (rs.length : Int) := by omega
   have hg : mget (tmap l) rs[i] = none := by rw [tmap_get]; exact hf
   refine ⟨(false, c1, c2, c3, c4, c5, c6, c7, c8, c9, c10, c11, c12, c13, tmap l, met, snM met, ()), ?_, rfl⟩
   simp only [liheap_reach_1_0, h', h, decide_true, cond_true, Int.natCast_nonneg, Int.toNat_natCast, getD_lt h, h0, bif_beq, if_false, hg, Option.isSome_none, Bool.not_false])
  (fun n i met h t hm hw h0 hf ht ht0 hml => by
   have h' : (i : Int) < (rs.length : Int) := by omega
   have hg : mget (tmap l) rs[i] = some t := by rw [tmap_get]; exact hf
   have l1 : met.length + [t.2.1].length ≤ lim := by simpa using hml
   simp only [liheap_reach_1_0, h', h, decide_true, cond_true, Int.natCast_nonneg, Int.toNat_natCast, getD_lt h, h0, bif_beq, if_false, hg, Option.isSome_some, Bool.not_true, cond_false, Fiheap_now, Option.bind_some, Option.getD_some, snM_get]
   by_cases hc : t.2.1 ∈ met
   ·simp only [hc, decide_true, Bool.not_true, cond_false, if_true, hw]
   ·simp only [hc, decide_false, Bool.not_false, cond_true, l1, decide_true, snM_set hc, hw, if_false])
  (fun n met hm => by simp [liheap_reach_1_0]) (n := N) (by omega) hM
 simp only [Int.natCast_zero] at h
 constructor
 ·intro m hm
  rw [hm] at h
  simp only [Fiheap_reach_1, h, Option.bind_some, Sum.elim_inl]
 ·intro hm
  rw [hm] at h
  obtain ⟨q, e1, e2⟩ := h
  refine ⟨q, ?_, e2⟩
  simp only [Fiheap_reach_1, e1, Option.bind_some, Sum.elim_inr]
theorem iRoots {s : Stx} (hT : (stThr s).length ≤ 1048576) (hk : (stThr s).all thrOk = true) (h3 : (stThr s).length ≤ 3) (hp : (stPins s).length ≤ 8) : FiState_roots N (s, ()) = some (rootsL (stThr s) ++ stPins s, ()) := by
 have hlim : lim = 2147483648 := rfl
 have hf : ∀ (ts : List Thr) (acc : List Int), ts.foldl (fun a t => a ++ t.1) acc = acc ++ rootsL ts := by
  intro ts
  induction ts with
  | nil => intro acc; simp [rootsL]
  | cons t ts ih => intro acc; rw [List.foldl_cons, ih]; simp [rootsL]
 have e := fold_loop (xs := stThr s) (n := N) (fun (a : List Int) t => a ++ t.1) (fun i a => a.length ≤ 8 * i) (L := fun n i a => liState_roots_0 N n (s, stThr s, ((stThr s).length : Int), (i : Int), a, ())) (fin := fun a => (s, a, ())) (by omega)
  (fun n i a hi hw hI => by
   have := List.all_eq_true.1 hk _ (List.getElem_mem hi)
   simp only [thrOk, Bool.and_eq_true, decide_eq_true_eq] at this
   have l1 : a.length + (stThr s)[i].1.length ≤ lim := by omega
   have hi' : (i : Int) < ((stThr s).length : Int) := by omega
   refine ⟨?_, by simp only [List.length_append]; omega⟩
   simp only [liState_roots_0, hi', hi, decide_true, cond_true, Int.natCast_nonneg, Int.toNat_natCast, getD_lt hi, l1, hw])
  (fun n a _ => by simp [liState_roots_0]) (by omega) (s := []) (by simp)
 obtain ⟨e, hI⟩ := e
 rw [hf, List.nil_append] at e hI
 simp only [Int.natCast_zero, stThr] at e
 simp only [stThr] at hI
 have l1 : (rootsL (stThr s)).length + (stPins s).length ≤ lim := by simp only [stThr] at h3 ⊢; omega
 simp only [stPins, stThr] at l1
 simp only [FiState_roots, e, Option.bind_some, l1, decide_true, cond_true]
theorem iReach {s : Stx} {l : List Tgx} (C : Hp s l) (hT : (stThr s).length ≤ 1048576) (hk : (stThr s).all thrOk = true) (h3 : (stThr s).length ≤ 3) (hp : (stPins s).length ≤ 8) :
  (∀ m, (meetA l (rootsL (stThr s) ++ stPins s) []).bind (reachA l l.length 0) = some m →
   Fiheap_reach N (s.1, s.2.1, s.2.2.1, s.2.2.2.1, s.2.2.2.2.1, s.2.2.2.2.2.1, s.2.2.2.2.2.2.1, s.2.2.2.2.2.2.2.1, s.2.2.2.2.2.2.2.2.1, s.2.2.2.2.2.2.2.2.2.1, s.2.2.2.2.2.2.2.2.2.2.1, s.2.2.2.2.2.2.2.2.2.2.2.1, s.2.2.2.2.2.2.2.2.2.2.2.2.1, tmap l, [], ()) =
    some (true, s.1, s.2.1, s.2.2.1, s.2.2.2.1, s.2.2.2.2.1, s.2.2.2.2.2.1, s.2.2.2.2.2.2.1, s.2.2.2.2.2.2.2.1, s.2.2.2.2.2.2.2.2.1, s.2.2.2.2.2.2.2.2.2.1, s.2.2.2.2.2.2.2.2.2.2.1, s.2.2.2.2.2.2.2.2.2.2.2.1, s.2.2.2.2.2.2.2.2.2.2.2.2.1, tmap l, m, ())) ∧
  ((meetA l (rootsL (stThr s) ++ stPins s) []).bind (reachA l l.length 0) = none →
    ∃ r, Fiheap_reach N (s.1, s.2.1, s.2.2.1, s.2.2.2.1, s.2.2.2.2.1, s.2.2.2.2.2.1, s.2.2.2.2.2.2.1, s.2.2.2.2.2.2.2.1, s.2.2.2.2.2.2.2.2.1, s.2.2.2.2.2.2.2.2.2.1, s.2.2.2.2.2.2.2.2.2.2.1, s.2.2.2.2.2.2.2.2.2.2.2.1, s.2.2.2.2.2.2.2.2.2.2.2.2.1, tmap l, [], ()) = some r ∧ r.1 = false) := by
 have hlim : lim = 2147483648 := rfl
 have er := iRoots hN hT hk h3 hp
 have hrl : (rootsL (stThr s) ++ stPins s).length ≤ 1048576 := by
  have : ∀ (ts : List Thr), ts.all thrOk = true → (rootsL ts).length ≤ 8 * ts.length := by
   intro ts
   induction ts with
   | nil => intro _; simp [rootsL]
   | cons t ts ih =>
    intro h
    simp only [List.all_cons, Bool.and_eq_true] at h
    have h1 := ih h.2
    have h2 := h.1
    simp only [thrOk, Bool.and_eq_true, decide_eq_true_eq] at h2
    have e : (rootsL (t :: ts)).length = t.1.length + (rootsL ts).length := by simp [rootsL]
    rw [e, List.length_cons]; omega
  have := this _ hk
  rw [List.length_append]; omega
 obtain ⟨c1, c2, c3, c4, c5, c6, c7, c8, c9, c10, c11, c12, c13, ⟨⟩⟩ := s
 simp only [stThr, stPins] at er hrl ⊢
 have e1 := iMeet hN C hrl MetOk.nil c1 c2 c3 c4 c5 c6 c7 c8 c9 c10 c11 c12 c13
 have e0 : snM [] = ([] : List (Int × Bool)) := rfl
 rw [e0] at e1
 cases hq : meetA l (rootsL c9 ++ c11) [] with
 | none =>
  rw [hq] at e1
  obtain ⟨r, g1, g2⟩ := e1.2 rfl
  refine ⟨fun m h => (by cases h), fun _ => ?_⟩
  refine ⟨(false, r.2.1, r.2.2.1, r.2.2.2.1, r.2.2.2.2.1, r.2.2.2.2.2.1, r.2.2.2.2.2.2.1, r.2.2.2.2.2.2.2.1, r.2.2.2.2.2.2.2.2.1, r.2.2.2.2.2.2.2.2.2.1, r.2.2.2.2.2.2.2.2.2.2.1, r.2.2.2.2.2.2.2.2.2.2.2.1, r.2.2.2.2.2.2.2.2.2.2.2.2.1, r.2.2.2.2.2.2.2.2.2.2.2.2.2.1, r.2.2.2.2.2.2.2.2.2.2.2.2.2.2.1, r.2.2.2.2.2.2.2.2.2.2.2.2.2.2.2.1, ()), ?_, rfl⟩
  simp only [Fiheap_reach, er, Option.bind_some, g1, g2, Bool.not_false, cond_true]
 | some met =>
  rw [hq] at e1
  have g1 := e1.1 met rfl
  have hM : MetOk l met := MetOk.nil.meet C.pw C.mv hq
  have hl := C.len
  have h := reach_loopQ C (L := fun n k met => liheap_reach_0 N n ((k : Int), c1, c2, c3, c4, c5, c6, c7, c8, c9, c10, c11, c12, c13, tmap l, met, snM met, ()))
   (Q := fun o r => match r with
    | some m => o = some (.inl (c1, c2, c3, c4, c5, c6, c7, c8, c9, c10, c11, c12, c13, tmap l, m, ()))
    | none => ∃ q, o = some (.inr q) ∧ q.1 = false)
   (fun n k met h t hm hw hf ht e => by
    have h' : (k : Int) < (met.length : Int) := by omega
    have hg : mget (tmap l) met[k] = some t := by rw [tmap_get]; exact hf
    have hrf := C.refs ht
    have e2 := iMeet hN C (rs := t.2.2.2.1) (by omega) hm c1 c2 c3 c4 c5 c6 c7 c8 c9 c10 c11 c12 c13
    constructor
    ·intro m hq
     have g := e2.1 m hq
     simp only [liheap_reach_0, h', h, decide_true, cond_true, Int.natCast_nonneg, Int.toNat_natCast, getD_lt h, hg, Option.getD_some, g, Option.bind_some, Bool.not_true, cond_false, hw]
    ·intro hq
     obtain ⟨r, g, g2⟩ := e2.2 hq
     refine ⟨(false, r.2.1, r.2.2.1, r.2.2.2.1, r.2.2.2.2.1, r.2.2.2.2.2.1, r.2.2.2.2.2.2.1, r.2.2.2.2.2.2.2.1, r.2.2.2.2.2.2.2.2.1, r.2.2.2.2.2.2.2.2.2.1, r.2.2.2.2.2.2.2.2.2.2.1, r.2.2.2.2.2.2.2.2.2.2.2.1, r.2.2.2.2.2.2.2.2.2.2.2.2.1, r.2.2.2.2.2.2.2.2.2.2.2.2.2.1, r.2.2.2.2.2.2.2.2.2.2.2.2.2.2.1, r.2.2.2.2.2.2.2.2.2.2.2.2.2.2.2.1, ()), ?_, rfl⟩
     simp only [liheap_reach_0, h', h, decide_true, cond_true, Int.natCast_nonneg, Int.toNat_natCast, getD_lt h, hg, Option.getD_some, g, g2, Option.bind_some, Bool.not_false])
   (fun n met hm => by simp [liheap_reach_0]) (n := N) (by omega) hM
  simp only [Int.natCast_zero] at h
  simp only [Option.bind_some]
  constructor
  ·intro m hm
   rw [hm] at h
   simp only [Fiheap_reach, er, Option.bind_some, g1, Bool.not_true, cond_false, h, Sum.elim_inl]
  ·intro hm
   rw [hm] at h
   obtain ⟨q, k1, k2⟩ := h
   refine ⟨q, ?_, k2⟩
   simp only [Fiheap_reach, er, Option.bind_some, g1, Bool.not_true, cond_false, k1, Sum.elim_inr]
theorem iPins {s : Stx} {l : List Tgx} (C : Hp s l) (hP : (stPins s).length ≤ 1048576) : liheapOf_2 N N (s, tmap l, stPins s, ((stPins s).length : Int), 0, ()) = some (bif (stPins s).all (pinOk l s.2.1) then .inl (s, tmap l, ()) else .inr ()) := by
 have hlim : lim = 2147483648 := rfl
 have step : ∀ n i (h : i < (stPins s).length), w64 ((i : Int) + 1) = ((i + 1 : Nat) : Int) → liheapOf_2 N (n + 1) (s, tmap l, stPins s, ((stPins s).length : Int), (i : Int), ()) = if pinOk l s.2.1 (stPins s)[i] = true then liheapOf_2 N n (s, tmap l, stPins s, ((stPins s).length : Int), ((i + 1 : Nat) : Int), ()) else some (.inr ()) := by
  intro n i h hw
  have h' : (i : Int) < ((stPins s).length : Int) := by omega
  have hg : mget (tmap l) (stPins s)[i] = findT l (stPins s)[i] := tmap_get
  simp only [liheapOf_2, h', h, decide_true, cond_true, Int.natCast_nonneg, Int.toNat_natCast, getD_lt h, hg]
  cases hf : findT l (stPins s)[i] with
  | none =>
   have ho : pinOk l s.2.1 (stPins s)[i] = false := by simp [pinOk, hf]
   simp only [ho, Option.isSome_none, Bool.not_false, cond_true, Bool.false_eq_true, if_false]
  | some t =>
   obtain ⟨m1, m2⟩ := findT_mem hf
   have r2 := C.rng _ m1
   have hpo : pinOk l s.2.1 (stPins s)[i] = (decide (t.2.1 = (stPins s)[i]) && !(fromB s.2.1 (stPins s)[i])) := by simp [pinOk, hf]
   have f2 := iState_from_ok (N := N) (s := s) (a := (stPins s)[i]) (by omega) (by omega) (by rw [← m2]; exact r2.2.2.1)
   rw [hpo]
   simp only [Option.isSome_some, Option.getD_some, Bool.not_true, cond_false, bif_bne, f2, Option.bind_some]
   by_cases q2 : t.2.1 = (stPins s)[i]
   ·cases hb : fromB s.2.1 (stPins s)[i] <;> simp [q2, hw]
   ·simp [q2]
 have hL := all_loop (xs := stPins s) (n := N) (pinOk l s.2.1) (L := fun n i => liheapOf_2 N n (s, tmap l, stPins s, ((stPins s).length : Int), (i : Int), ())) (yes := .inl (s, tmap l, ())) (no := .inr ()) (by omega)
  (fun n i h hw hq => by rw [step n i h hw, if_pos hq])
  (fun n i h hq => by rw [step n i h (w64_succ (by omega)), if_neg (by rw [hq]; decide)])
  (fun n => by simp [liheapOf_2]) (by omega)
 simpa using hL
theorem iThr {s : Stx} {m : List (Int × Tgx)} (hT : (stThr s).length ≤ 1048576) : liheapOf_0 N N (s, m, stThr s, ((stThr s).length : Int), 0, ()) = some (bif (stThr s).all thrOk then .inl (s, m, ()) else .inr ()) := by
 have hlim : lim = 2147483648 := rfl
 have step : ∀ n i (h : i < (stThr s).length), w64 ((i : Int) + 1) = ((i + 1 : Nat) : Int) → liheapOf_0 N (n + 1) (s, m, stThr s, ((stThr s).length : Int), (i : Int), ()) = if thrOk (stThr s)[i] = true then liheapOf_0 N n (s, m, stThr s, ((stThr s).length : Int), ((i + 1 : Nat) : Int), ()) else some (.inr ()) := by
  intro n i h hw
  have h' : (i : Int) < ((stThr s).length : Int) := by omega
  simp only [liheapOf_0, h', h, decide_true, cond_true, Int.natCast_nonneg, Int.toNat_natCast, getD_lt h, thrOk, hw]
  by_cases c1 : (stThr s)[i].1.length ≤ 8
  ·have n1 : ¬ ((stThr s)[i].1.length : Int) > 8 := by omega
   by_cases c2 : 0 ≤ (stThr s)[i].2.2.2.1
   ·have n2 : ¬ (stThr s)[i].2.2.2.1 < 0 := by omega
    by_cases c3 : (stThr s)[i].2.2.2.1 ≤ 2
    ·have n3 : ¬ (stThr s)[i].2.2.2.1 > 2 := by omega
     simp only [n1, n2, n3, c1, c2, c3, decide_true, decide_false, cond_false, Bool.and_self, if_true]
    ·have n3 : (stThr s)[i].2.2.2.1 > 2 := by omega
     simp only [n1, n2, n3, c1, c2, c3, decide_true, decide_false, cond_false, cond_true, Bool.and_false, Bool.false_eq_true, if_false]
   ·have n2 : (stThr s)[i].2.2.2.1 < 0 := by omega
    simp only [n1, n2, c1, c2, decide_true, decide_false, cond_false, cond_true, Bool.false_and, Bool.and_false, Bool.false_eq_true, if_false]
  ·have n1 : ((stThr s)[i].1.length : Int) > 8 := by omega
   simp only [n1, c1, decide_true, decide_false, cond_true, Bool.false_and, Bool.false_eq_true, if_false]
 have hL := all_loop (xs := stThr s) (n := N) thrOk (L := fun n i => liheapOf_0 N n (s, m, stThr s, ((stThr s).length : Int), (i : Int), ())) (yes := .inl (s, m, ())) (no := .inr ()) (by omega)
  (fun n i h hw hq => by rw [step n i h hw, if_pos hq])
  (fun n i h hq => by rw [step n i h (w64_succ (by omega)), if_neg (by rw [hq]; decide)])
  (fun n => by simp [liheapOf_0]) (by omega)
 simpa using hL
def heapV (s : Stx) (p : List Tgx × List Int) := (s.1, s.2.1, s.2.2.1, s.2.2.2.1, s.2.2.2.2.1, s.2.2.2.2.2.1, s.2.2.2.2.2.2.1, s.2.2.2.2.2.2.2.1, s.2.2.2.2.2.2.2.2.1, s.2.2.2.2.2.2.2.2.2.1, s.2.2.2.2.2.2.2.2.2.2.1, s.2.2.2.2.2.2.2.2.2.2.2.1, s.2.2.2.2.2.2.2.2.2.2.2.2.1, tmap p.1, p.2, ())
theorem iheapOf_ok {s : Stx} (b1 : s.1.length ≤ 1048576) (b2 : s.2.1.length ≤ 1048576) (b3 : s.2.2.1.length ≤ 1048576) (b4 : ∀ x ∈ s.1, -9223372036854775808 ≤ x ∧ x < 9223372036854775808)
  (hT : (stThr s).length ≤ 1048576) (hP : (stPins s).length ≤ 1048576) :
  FiheapOf N (s, ()) = some (match heapOf s with | none => .inl () | some p => .inr (heapV s p)) := by
 have hlim : lim = 2147483648 := rfl
 unfold FiheapOf
 simp only [iState_things_ok hN b1 b4 b2 b3, Option.bind_some]
 have est : (if wholeB s.1 s.2.1 s.2.2.1 = true then thingsAll s.1 s.2.1 else none) = stThings s := rfl
 rw [est]
 cases hta : stThings s with
 | none => simp [heapOf, hta]
 | some l =>
  obtain ⟨hw, hta2⟩ := stThings_some hta
  simp only [iState_settled_ok hN hw hta2, Option.bind_some, Bool.not_true, cond_false]
  cases hm : l.all (movOk l s.2.1) with
  | false => simp [heapOf, hta, metOf, hm]
  | true =>
   have C : Hp s l := ⟨hta, hm⟩
   simp only [Bool.not_true, cond_false]
   by_cases hh : headOk s = true
   ·have hh' := hh
    simp only [headOk, Bool.and_eq_true, decide_eq_true_eq] at hh'
    obtain ⟨q1, q2, q3, q4, q5⟩ := hh'
    simp only [stPh] at q1 q2
    have n1 : ¬ s.2.2.2.1 < 0 := by omega
    have n2 : ¬ s.2.2.2.1 > 3 := by omega
    have n3 : ¬ ((stThr s).length : Int) < 1 := by omega
    have n4 : ¬ ((stThr s).length : Int) > 3 := by omega
    have n5 : ¬ ((stPins s).length : Int) > 8 := by omega
    have i1 := iThr hN (m := tmap l) hT
    have i2 := iPins hN C hP
    simp only [stThr, stPins] at n3 n4 n5 i1 i2
    simp only [n1, n2, n3, n4, n5, decide_false, cond_false, Option.bind_some, Sum.elim_inl, i1]
    cases hk : (stThr s).all thrOk with
    | false =>
     simp only [stThr] at hk
     simp only [hk, cond_false, Sum.elim_inr, heapOf, hta, metOf, stThr, Bool.false_and, Bool.and_false, Bool.false_eq_true, if_false, Option.map_none]
    | true =>
     have hk' := hk
     simp only [stThr] at hk'
     simp only [hk', cond_true, Sum.elim_inl, Option.bind_some, i2]
     cases hp : (stPins s).all (pinOk l s.2.1) with
     | false =>
      simp only [stPins] at hp
      simp only [hp, cond_false, Sum.elim_inr, heapOf, hta, metOf, stPins, Bool.and_false, Bool.false_eq_true, if_false, Option.map_none]
     | true =>
      have hp' := hp
      simp only [stPins] at hp'
      simp only [hp', cond_true, Sum.elim_inl, Option.bind_some]
      obtain ⟨g1, g2⟩ := iReach hN C hT hk q4 q5
      have eh : heapOf s = ((meetA l (rootsL (stThr s) ++ stPins s) []).bind (reachA l l.length 0)).map fun m => (l, m) := by
       simp [heapOf, hta, metOf, hm, hh, hk, hp]
      rw [eh]
      cases hr : (meetA l (rootsL (stThr s) ++ stPins s) []).bind (reachA l l.length 0) with
      | none =>
       obtain ⟨r, k1, k2⟩ := g2 hr
       simp only [k1, Option.bind_some, k2, Bool.not_false, cond_true, Option.map_none]
      | some m =>
       simp only [g1 m hr, Option.bind_some, Bool.not_true, cond_false, Option.map_some, heapV]
   ·have hno2 : heapOf s = none := by simp only [heapOf, hta, metOf, hh, Bool.false_and, Bool.and_false, Bool.false_eq_true, if_false, Option.map_none]
    simp only [hno2]
    by_cases n1 : s.2.2.2.1 < 0
    ·simp only [n1, decide_true, cond_true, Option.bind_some, Sum.elim_inr]
    ·by_cases n2 : s.2.2.2.1 > 3
     ·simp only [n1, n2, decide_true, decide_false, cond_false, cond_true, Option.bind_some, Sum.elim_inr]
     ·by_cases n3 : (s.2.2.2.2.2.2.2.2.1.length : Int) < 1
      ·simp only [n1, n2, n3, decide_true, decide_false, cond_false, cond_true, Option.bind_some, Sum.elim_inr]
      ·by_cases n4 : (s.2.2.2.2.2.2.2.2.1.length : Int) > 3
       ·simp only [n1, n2, n3, n4, decide_true, decide_false, cond_false, cond_true, Option.bind_some, Sum.elim_inr]
       ·have n5 : (s.2.2.2.2.2.2.2.2.2.2.1.length : Int) > 8 := by
         have : ¬ (stPins s).length ≤ 8 := by
          intro h5
          apply hh
          simp only [headOk, stPh, stThr, Bool.and_eq_true, decide_eq_true_eq]
          exact ⟨by omega, by omega, by omega, by omega, h5⟩
         simp only [stPins] at this
         omega
        simp only [n1, n2, n3, n4, n5, decide_true, decide_false, cond_false, cond_true, Option.bind_some, Sum.elim_inr]
end
theorem wn {x : Int} {k : Nat} (h : x = (k : Int)) (hk : k ≤ 4611686018427387904) : w64 x = (k : Int) := by
 rw [w64_id (by omega) (by omega), h]
abbrev ltI : Int → Int → Bool := Go.Sort.ltInt
theorem arr_get {xs : List Int} {i : Nat} : xs.toArray[i]! = xs.getD i 0 := by
 rw [List.getElem!_toArray, List.getElem!_eq_getElem?_getD, List.getD_eq_getElem?_getD]; rfl
def swL (xs : List Int) (i j : Nat) : List Int := (xs.set i (xs.getD j 0)).set j (xs.getD i 0)
theorem swL_arr {xs : List Int} {i j : Nat} : (swL xs i j).toArray = Go.Sort.swp xs.toArray i j := by
 simp only [swL, Go.Sort.swp, arr_get, List.setIfInBounds_toArray]
@[simp] theorem swL_len {xs : List Int} {i j : Nat} : (swL xs i j).length = xs.length := by simp [swL]
section
variable {N : Nat} (hN : lim < N)
theorem less_ok {x y : Int} : Fcmp_Less_int N (x, y, ()) = some (ltI x y, ()) := by
 have h1 : (x != x) = false := by simp
 simp only [Fcmp_Less_int, Fcmp_isNaN_int, Option.bind_some, h1, cond_false]
 rfl
theorem insInner_size {a : Nat} : ∀ (j : Nat) (d : Array Int), (Go.Sort.insInner ltI a j d).size = d.size
 | 0, d => rfl
 | j + 1, d => by
  unfold Go.Sort.insInner
  split
  ·rw [insInner_size j, Go.Sort.size_swp]
  ·rfl
theorem ins_2 {a : Nat} {b i : Int} : ∀ (j n : Nat) (xs : List Int), j < n → j < xs.length → xs.length ≤ 1000 →
  lkinsertionSortOrdered_int_2 N n ((a : Int), b, i, (j : Int), xs, ()) = some ((a : Int), b, i, (Go.Sort.insInner ltI a j xs.toArray).toList, ())
 | 0, n, xs, hn, hj, hl => by
  obtain ⟨n, rfl⟩ : ∃ m, n = m + 1 := ⟨n - 1, by omega⟩
  have : ¬ ((0 : Nat) : Int) > (a : Int) := by omega
  simp only [lkinsertionSortOrdered_int_2, this, decide_false, cond_false, Option.bind_some, Sum.elim_inl, Go.Sort.insInner]
 | j + 1, n, xs, hn, hj, hl => by
  obtain ⟨n, rfl⟩ : ∃ m, n = m + 1 := ⟨n - 1, by omega⟩
  have w1 : w64 (((j + 1 : Nat) : Int) - 1) = (j : Int) := wn (by omega) (by omega)
  have p1 : j < xs.length := by omega
  have p2 : j < (xs.set (j + 1) (xs.getD j 0)).length := by simpa using p1
  have es : (xs.set (j + 1) (xs.getD j 0)).set j (xs.getD (j + 1) 0) = swL xs (j + 1) j := rfl
  unfold Go.Sort.insInner
  simp only [lkinsertionSortOrdered_int_2, w1, Int.natCast_nonneg, Int.toNat_natCast, hj, p1, p2, decide_true, cond_true, less_ok, Option.bind_some, arr_get]
  by_cases ha : j + 1 > a
  ·have ha' : ((j + 1 : Nat) : Int) > (a : Int) := by omega
   cases hc : ltI (xs.getD (j + 1) 0) (xs.getD j 0) with
   | true =>
    simp only [ha, ha', decide_true, cond_true, hc, Bool.and_self, if_true, Option.bind_some, Sum.elim_inr, w1, Int.natCast_nonneg, Int.toNat_natCast, hj, p1, p2, es]
    rw [ins_2 j n (swL xs (j + 1) j) (by omega) (by simpa using p1) (by simpa using hl), swL_arr]
   | false =>
    simp only [ha, ha', decide_true, cond_true, hc, cond_false, Bool.and_false, Bool.false_eq_true, if_false, Option.bind_some, Sum.elim_inl]
  ·have ha' : ¬ ((j + 1 : Nat) : Int) > (a : Int) := by omega
   simp only [ha, ha', decide_false, cond_false, Bool.false_and, Bool.false_eq_true, if_false, Option.bind_some, Sum.elim_inl]
include hN
theorem ins_0 {a b : Nat} : ∀ (k n i : Nat) (xs : List Int), b - i = k → k < n → b ≤ xs.length → xs.length ≤ 1000 → i ≤ 1001 →
  lkinsertionSortOrdered_int_0 N n ((a : Int), (b : Int), (i : Int), xs, ()) = some ((Go.Sort.insOuter ltI a b i xs.toArray).toList, ())
 | 0, n, i, xs, hk, hn, hb, hl, hi => by
  obtain ⟨n, rfl⟩ : ∃ m, n = m + 1 := ⟨n - 1, by omega⟩
  have h : ¬ (i : Int) < (b : Int) := by omega
  unfold Go.Sort.insOuter
  rw [if_neg (by omega)]
  simp only [lkinsertionSortOrdered_int_0, h, decide_false, cond_false]
 | k + 1, n, i, xs, hk, hn, hb, hl, hi => by
  obtain ⟨n, rfl⟩ : ∃ m, n = m + 1 := ⟨n - 1, by omega⟩
  have h : (i : Int) < (b : Int) := by omega
  have w1 : w64 ((i : Int) + 1) = ((i + 1 : Nat) : Int) := wn (by omega) (by omega)
  have hs := insInner_size (a := a) i xs.toArray
  unfold Go.Sort.insOuter
  rw [if_pos (by omega)]
  have hlen : (Go.Sort.insInner ltI a i xs.toArray).toList.length = xs.length := by simpa using hs
  simp only [lkinsertionSortOrdered_int_0, h, decide_true, cond_true, ins_2 (N := N) (a := a) (b := (b : Int)) (i := (i : Int)) i N xs (by rw [lim_eq] at hN; omega) (by omega) hl, Option.bind_some, w1]
  rw [ins_0 k n (i + 1) _ (by omega) (by omega) (by omega) (by omega) (by omega), Array.toArray_toList]
theorem ins_ok {a b : Nat} {xs : List Int} (hb : b ≤ xs.length) (hl : xs.length ≤ 1000) (ha : a ≤ 1000) : FkinsertionSortOrdered_int N ((a : Int), (b : Int), xs, ()) = some ((Go.Sort.insertionSort ltI xs.toArray a b).toList, ()) := by
 have w1 : w64 ((a : Int) + 1) = ((a + 1 : Nat) : Int) := wn (by omega) (by omega)
 simp only [FkinsertionSortOrdered_int, w1, ins_0 hN (b - (a + 1)) N (a + 1) xs rfl (by rw [lim_eq] at hN; omega) hb hl (by omega), Option.bind_some, Go.Sort.insertionSort]
omit hN in
theorem sift_size {hi first : Nat} : ∀ (k root : Nat) (d : Array Int), hi - root ≤ k → (Go.Sort.siftDown ltI hi first root d).size = d.size
 | 0, root, d, h => by unfold Go.Sort.siftDown; rw [dif_pos (by omega)]
 | k + 1, root, d, h => by
  unfold Go.Sort.siftDown
  split
  ·rfl
  ·split
   ·split
    ·rfl
    ·split
     ·rw [sift_size k _ _ (by omega), Go.Sort.size_swp]
     ·rfl
   ·split
    ·rfl
    ·rw [sift_size k _ _ (by omega), Go.Sort.size_swp]
omit hN in
theorem sift_0 {hi first : Nat} : ∀ (k n root : Nat) (xs : List Int), hi - root ≤ k → k < n → first + hi ≤ xs.length → xs.length ≤ 1000 → root ≤ 1000 →
  ∃ ys, (lksiftDownOrdered_int_0 N n ((hi : Int), (first : Int), (root : Int), xs, ()) = some (.inl (ys, ())) ∨ lksiftDownOrdered_int_0 N n ((hi : Int), (first : Int), (root : Int), xs, ()) = some (.inr (ys, ()))) ∧ ys = (Go.Sort.siftDown ltI hi first root xs.toArray).toList
 | k, 0, root, xs, hk, hn, hf, hl, hr => absurd hn (Nat.not_lt_zero _)
 | k, n + 1, root, xs, hk, hn, hf, hl, hr => by
  have w1 : w64 (2 * (root : Int)) = ((2 * root : Nat) : Int) := wn (by omega) (by omega)
  have w2 : w64 (((2 * root : Nat) : Int) + 1) = ((2 * root + 1 : Nat) : Int) := wn (by omega) (by omega)
  unfold Go.Sort.siftDown
  by_cases h1 : 2 * root + 1 ≥ hi
  ·have h1' : ((2 * root + 1 : Nat) : Int) ≥ (hi : Int) := by omega
   refine ⟨xs, .inl ?_, by rw [dif_pos h1]⟩
   simp only [lksiftDownOrdered_int_0, w1, w2, h1', decide_true, cond_true]
  ·have h1' : ¬ ((2 * root + 1 : Nat) : Int) ≥ (hi : Int) := by omega
   rw [dif_neg h1]
   have w3 : w64 (((2 * root + 1 : Nat) : Int) + 1) = ((2 * root + 2 : Nat) : Int) := wn (by omega) (by omega)
   have w4 : w64 ((first : Int) + ((2 * root + 1 : Nat) : Int)) = ((first + (2 * root + 1) : Nat) : Int) := wn (by omega) (by omega)
   have w5 : w64 (((first + (2 * root + 1) : Nat) : Int) + 1) = ((first + (2 * root + 1) + 1 : Nat) : Int) := wn (by omega) (by omega)
   have w6 : w64 ((first : Int) + (root : Int)) = ((first + root : Nat) : Int) := wn (by omega) (by omega)
   have w7 : w64 ((first : Int) + ((2 * root + 2 : Nat) : Int)) = ((first + (2 * root + 2) : Nat) : Int) := wn (by omega) (by omega)
   have p4 : first + (2 * root + 1) < xs.length := by omega
   have p6 : first + root < xs.length := by omega
   simp only [lksiftDownOrdered_int_0, w1, w2, h1', decide_false, cond_false, w3, w4, w5, arr_get, Int.natCast_nonneg, Int.toNat_natCast, decide_true, cond_true, p4, less_ok, Option.bind_some]
   by_cases h2 : 2 * root + 1 + 1 < hi
   ·have h2' : ((2 * root + 2 : Nat) : Int) < (hi : Int) := by omega
    have p5 : first + (2 * root + 1) + 1 < xs.length := by omega
    have p7 : first + (2 * root + 2) < xs.length := by omega
    simp only [h2, h2', p5, decide_true, cond_true, Bool.true_and]
    cases hc : ltI (xs.getD (first + (2 * root + 1)) 0) (xs.getD (first + (2 * root + 1) + 1) 0) with
    | true =>
     have p8 : first + (2 * root + 2) < (xs.set (first + root) (xs.getD (first + (2 * root + 2)) 0)).length := by simpa using p7
     have es : (xs.set (first + root) (xs.getD (first + (2 * root + 2)) 0)).set (first + (2 * root + 2)) (xs.getD (first + root) 0) = swL xs (first + root) (first + (2 * root + 2)) := rfl
     simp only [cond_true, if_true, Option.bind_some, w6, w7, Int.natCast_nonneg, Int.toNat_natCast, p6, p7, decide_true, less_ok, p8, es]
     cases hc2 : ltI (xs.getD (first + root) 0) (xs.getD (first + (2 * root + 2)) 0) with
     | false => exact ⟨xs, .inr (by simp only [Bool.not_false, cond_true]), by simp only [Bool.not_false, if_true]⟩
     | true =>
      obtain ⟨ys, e, he⟩ := sift_0 (hi := hi) (first := first) (k - 1) n (2 * root + 2) (swL xs (first + root) (first + (2 * root + 2))) (by omega) (by omega) (by simpa using hf) (by simpa using hl) (by omega)
      rw [swL_arr] at he
      refine ⟨ys, ?_, ?_⟩
      ·simpa only [Bool.not_true, cond_false] using e
      ·rw [he, if_neg (by decide), dif_pos trivial]
    | false =>
     have p8 : first + (2 * root + 1) < (xs.set (first + root) (xs.getD (first + (2 * root + 1)) 0)).length := by simpa using p4
     have es : (xs.set (first + root) (xs.getD (first + (2 * root + 1)) 0)).set (first + (2 * root + 1)) (xs.getD (first + root) 0) = swL xs (first + root) (first + (2 * root + 1)) := rfl
     simp only [cond_false, Bool.false_eq_true, if_false, Option.bind_some, w6, w4, Int.natCast_nonneg, Int.toNat_natCast, p6, p4, decide_true, cond_true, less_ok, p8, es]
     cases hc2 : ltI (xs.getD (first + root) 0) (xs.getD (first + (2 * root + 1)) 0) with
     | false => exact ⟨xs, .inr (by simp only [Bool.not_false, cond_true]), by simp only [Bool.not_false, if_true]⟩
     | true =>
      obtain ⟨ys, e, he⟩ := sift_0 (hi := hi) (first := first) (k - 1) n (2 * root + 1) (swL xs (first + root) (first + (2 * root + 1))) (by omega) (by omega) (by simpa using hf) (by simpa using hl) (by omega)
      rw [swL_arr] at he
      refine ⟨ys, ?_, ?_⟩
      ·simpa only [Bool.not_true, cond_false] using e
      ·rw [he, if_neg (by decide)]
   ·have h2' : ¬ ((2 * root + 2 : Nat) : Int) < (hi : Int) := by omega
    have p8 : first + (2 * root + 1) < (xs.set (first + root) (xs.getD (first + (2 * root + 1)) 0)).length := by simpa using p4
    have es : (xs.set (first + root) (xs.getD (first + (2 * root + 1)) 0)).set (first + (2 * root + 1)) (xs.getD (first + root) 0) = swL xs (first + root) (first + (2 * root + 1)) := rfl
    simp only [h2, h2', decide_false, cond_false, Bool.false_and, Bool.false_eq_true, if_false, Option.bind_some, w6, w4, Int.natCast_nonneg, Int.toNat_natCast, p6, p4, decide_true, cond_true, less_ok, p8, es]
    cases hc2 : ltI (xs.getD (first + root) 0) (xs.getD (first + (2 * root + 1)) 0) with
    | false => exact ⟨xs, .inr (by simp only [Bool.not_false, cond_true]), by simp only [Bool.not_false, if_true]⟩
    | true =>
     obtain ⟨ys, e, he⟩ := sift_0 (hi := hi) (first := first) (k - 1) n (2 * root + 1) (swL xs (first + root) (first + (2 * root + 1))) (by omega) (by omega) (by simpa using hf) (by simpa using hl) (by omega)
     rw [swL_arr] at he
     refine ⟨ys, ?_, ?_⟩
     ·simpa only [Bool.not_true, cond_false] using e
     ·rw [he, if_neg (by decide)]
theorem sift_ok {hi first root : Nat} {xs : List Int} (hf : first + hi ≤ xs.length) (hl : xs.length ≤ 1000) (hr : root ≤ 1000) : FksiftDownOrdered_int N ((root : Int), (hi : Int), (first : Int), xs, ()) = some ((Go.Sort.siftDown ltI hi first root xs.toArray).toList, ()) := by
 obtain ⟨ys, e, rfl⟩ := sift_0 (N := N) (hi := hi) (first := first) (hi - root) N root xs (Nat.le_refl _) (by rw [lim_eq] at hN; omega) hf hl hr
 rcases e with e | e <;> simp only [FksiftDownOrdered_int, e, Option.bind_some, Sum.elim_inl, Sum.elim_inr]
theorem build_0 {hi first : Nat} {z : Int} : ∀ (k n : Nat) (xs : List Int), k < n → first + hi ≤ xs.length → xs.length ≤ 1000 → k ≤ 1000 →
  lkheapSortOrdered_int_0 N n ((first : Int), z, (hi : Int), (k : Int) - 1, xs, ()) = some ((first : Int), z, (hi : Int), (Go.Sort.heapBuild ltI hi first k xs.toArray).toList, ())
 | k, 0, xs, hn, _, _, _ => absurd hn (Nat.not_lt_zero _)
 | 0, n + 1, xs, hn, hf, hl, hk => by
  simp only [lkheapSortOrdered_int_0, Int.natCast_zero, show decide ((0 : Int) - 1 ≥ 0) = false from rfl, cond_false, Go.Sort.heapBuild]
 | k + 1, n + 1, xs, hn, hf, hl, hk => by
  have e0 : ((k + 1 : Nat) : Int) - 1 = (k : Int) := by omega
  have p0 : (k : Int) ≥ 0 := by omega
  have w1 : w64 ((k : Int) - 1) = (k : Int) - 1 := w64_id (by omega) (by omega)
  have hs := sift_size (hi := hi) (first := first) (hi - k) k xs.toArray (Nat.le_refl _)
  have hlen : (Go.Sort.siftDown ltI hi first k xs.toArray).toList.length = xs.length := by simpa using hs
  simp only [lkheapSortOrdered_int_0, e0, p0, decide_true, cond_true, sift_ok hN (hi := hi) (first := first) (root := k) hf hl (by omega), Option.bind_some, w1, Go.Sort.heapBuild]
  rw [build_0 k n _ (by omega) (by omega) (by omega) (by omega), Array.toArray_toList]
omit hN in
theorem build_size {hi first : Nat} : ∀ (k : Nat) (d : Array Int), (Go.Sort.heapBuild ltI hi first k d).size = d.size
 | 0, d => rfl
 | k + 1, d => by rw [Go.Sort.heapBuild, build_size k, sift_size (hi - k) k _ (Nat.le_refl _)]
theorem pop_0 {first : Nat} : ∀ (k n : Nat) (xs : List Int), k < n → first + k ≤ xs.length → xs.length ≤ 1000 →
  lkheapSortOrdered_int_2 N n ((first : Int), 0, (k : Int) - 1, xs, ()) = some ((Go.Sort.heapPop ltI first k xs.toArray).toList, ())
 | k, 0, xs, hn, _, _ => absurd hn (Nat.not_lt_zero _)
 | 0, n + 1, xs, hn, hf, hl => by
  simp only [lkheapSortOrdered_int_2, Int.natCast_zero, show decide ((0 : Int) - 1 ≥ 0) = false from rfl, cond_false, Go.Sort.heapPop]
 | k + 1, n + 1, xs, hn, hf, hl => by
  have e0 : ((k + 1 : Nat) : Int) - 1 = (k : Int) := by omega
  have p0 : (k : Int) ≥ 0 := by omega
  have w1 : w64 ((k : Int) - 1) = (k : Int) - 1 := w64_id (by omega) (by omega)
  have w2 : w64 ((first : Int) + (k : Int)) = ((first + k : Nat) : Int) := wn (by omega) (by omega)
  have p1 : first + k < xs.length := by omega
  have p2 : first < xs.length := by omega
  have p3 : first + k < (xs.set first (xs.getD (first + k) 0)).length := by simpa using p1
  have es : (xs.set first (xs.getD (first + k) 0)).set (first + k) (xs.getD first 0) = swL xs first (first + k) := rfl
  have hs := sift_size (hi := k) (first := first) (k - 0) 0 (swL xs first (first + k)).toArray (Nat.le_refl _)
  have hlen : (Go.Sort.siftDown ltI k first 0 (swL xs first (first + k)).toArray).toList.length = xs.length := by simpa using hs
  have e2 := sift_ok hN (hi := k) (first := first) (root := 0) (xs := swL xs first (first + k)) (by simp; omega) (by simpa using hl) (by omega)
  simp only [Int.natCast_zero] at e2
  simp only [lkheapSortOrdered_int_2, e0, p0, decide_true, cond_true, w2, Int.natCast_nonneg, Int.toNat_natCast, p1, p2, p3, es, e2, Option.bind_some, w1, Go.Sort.heapPop]
  rw [pop_0 k n _ (by omega) (by omega) (by omega), Array.toArray_toList, swL_arr]
theorem heap_ok {a b : Nat} {xs : List Int} (hab : a < b) (hb : b ≤ xs.length) (hl : xs.length ≤ 1000) : FkheapSortOrdered_int N ((a : Int), (b : Int), xs, ()) = some ((Go.Sort.heapSort ltI xs.toArray a b).toList, ()) := by
 have w1 : w64 ((b : Int) - (a : Int)) = ((b - a : Nat) : Int) := wn (by omega) (by omega)
 have w2 : w64 (((b - a : Nat) : Int) - 1) = ((b - a - 1 : Nat) : Int) := wn (by omega) (by omega)
 have w2' : w64 (((b - a : Nat) : Int) - 1) = ((b - a : Nat) : Int) - 1 := by rw [w2]; omega
 have w3 : w64 (Int.tdiv ((b - a - 1 : Nat) : Int) 2) = (((b - a - 1) / 2 + 1 : Nat) : Int) - 1 := by
  rw [Int.tdiv_eq_ediv_of_nonneg (by omega), w64_id (by omega) (by omega)]; omega
 have e1 := build_0 hN (hi := b - a) (first := a) (z := 0) ((b - a - 1) / 2 + 1) N xs (by rw [lim_eq] at hN; omega) (by omega) hl (by omega)
 have hs := build_size (hi := b - a) (first := a) ((b - a - 1) / 2 + 1) xs.toArray
 have hlen : (Go.Sort.heapBuild ltI (b - a) a ((b - a - 1) / 2 + 1) xs.toArray).toList.length = xs.length := by simpa using hs
 have e2 := pop_0 hN (first := a) (b - a) N _ (by rw [lim_eq] at hN; omega) (by rw [hlen]; omega) (by rw [hlen]; exact hl)
 rw [Array.toArray_toList] at e2
 unfold FkheapSortOrdered_int
 simp only [show decide ((2 : Int) = 0) = false from rfl, cond_false, w1]
 rw [w2, w3]
 simp only [e1, Option.bind_some, w2', e2, Go.Sort.heapSort]
omit hN in
theorem rev_0 : ∀ (k n i j : Nat) (xs : List Int), j - i ≤ k → k < n → j < xs.length → xs.length ≤ 1000 → lkreverseRangeOrdered_int_0 N n ((i : Int), (j : Int), xs, ()) = some ((Go.Sort.reverseLoop i j xs.toArray).toList, ())
 | k, 0, i, j, xs, _, hn, _, _ => absurd hn (Nat.not_lt_zero _)
 | k, n + 1, i, j, xs, hk, hn, hj, hl => by
  unfold Go.Sort.reverseLoop
  by_cases h : i < j
  ·have h' : (i : Int) < (j : Int) := by omega
   have w1 : w64 ((i : Int) + 1) = ((i + 1 : Nat) : Int) := wn (by omega) (by omega)
   have w2 : w64 ((j : Int) - 1) = ((j - 1 : Nat) : Int) := wn (by omega) (by omega)
   have p1 : i < xs.length := by omega
   have p2 : j < (xs.set i (xs.getD j 0)).length := by simpa using hj
   have es : (xs.set i (xs.getD j 0)).set j (xs.getD i 0) = swL xs i j := rfl
   simp only [lkreverseRangeOrdered_int_0, h, h', decide_true, cond_true, Int.natCast_nonneg, Int.toNat_natCast, hj, p1, p2, es, w1, w2, if_true]
   rw [rev_0 (k - 1) n (i + 1) (j - 1) (swL xs i j) (by omega) (by omega) (by simp; omega) (by simpa using hl), swL_arr]
  ·have h' : ¬ (i : Int) < (j : Int) := by omega
   simp only [lkreverseRangeOrdered_int_0, h, h', decide_false, cond_false, if_false]
theorem rev_ok {a b : Nat} {xs : List Int} (hab : a < b) (hb : b ≤ xs.length) (hl : xs.length ≤ 1000) : FkreverseRangeOrdered_int N ((a : Int), (b : Int), xs, ()) = some ((Go.Sort.reverseRange xs.toArray a b).toList, ()) := by
 have w1 : w64 ((b : Int) - 1) = ((b - 1 : Nat) : Int) := wn (by omega) (by omega)
 simp only [FkreverseRangeOrdered_int, w1, rev_0 (N := N) (b - 1 - a) N a (b - 1) xs (Nat.le_refl _) (by rw [lim_eq] at hN; omega) (by omega) hl, Option.bind_some, Go.Sort.reverseRange]
end
section
variable {N : Nat} (hN : lim < N)
theorem pe_2 {a j : Nat} : ∀ (k n i : Nat) (xs : List Int), j + 1 - i ≤ k → k < n → a < xs.length → j < xs.length → xs.length ≤ 1000 → i ≤ 1001 →
  lkpartitionEqualOrdered_int_2 N n ((a : Int), (i : Int), (j : Int), xs, ()) = some ((a : Int), ((Go.Sort.scanUp (fun x => !ltI xs.toArray[a]! x) xs.toArray j i : Nat) : Int), (j : Int), xs, ())
 | k, 0, i, xs, _, hn, _, _, _, _ => absurd hn (Nat.not_lt_zero _)
 | k, n + 1, i, xs, hk, hn, ha, hj, hl, hi => by
  unfold Go.Sort.scanUp
  by_cases h : i ≤ j
  ·have h' : (i : Int) ≤ (j : Int) := by omega
   have w1 : w64 ((i : Int) + 1) = ((i + 1 : Nat) : Int) := wn (by omega) (by omega)
   have p1 : i < xs.length := by omega
   simp only [lkpartitionEqualOrdered_int_2, h, h', decide_true, cond_true, Int.natCast_nonneg, Int.toNat_natCast, ha, p1, less_ok, Option.bind_some, arr_get, w1, Bool.true_and]
   cases hc : ltI (xs.getD a 0) (xs.getD i 0) with
   | true => simp only [Bool.not_true, cond_false, Bool.false_eq_true, if_false]
   | false =>
    simp only [Bool.not_false, cond_true, if_true]
    have := pe_2 (a := a) (j := j) (k - 1) n (i + 1) xs (by omega) (by omega) ha hj hl (by omega)
    simpa only [arr_get] using this
  ·have h' : ¬ (i : Int) ≤ (j : Int) := by omega
   simp only [lkpartitionEqualOrdered_int_2, h, h', decide_false, cond_false, Bool.false_and, Bool.false_eq_true, if_false]
theorem pe_4 {a i : Nat} (hi : 1 ≤ i) : ∀ (j n : Nat) (xs : List Int), j < n → a < xs.length → j < xs.length → xs.length ≤ 1000 →
  lkpartitionEqualOrdered_int_4 N n ((a : Int), (i : Int), (j : Int), xs, ()) = some ((a : Int), (i : Int), ((Go.Sort.scanDown (fun x => ltI xs.toArray[a]! x) xs.toArray i j : Nat) : Int), xs, ())
 | j, 0, xs, hn, _, _, _ => absurd hn (Nat.not_lt_zero _)
 | 0, n + 1, xs, hn, ha, hj, hl => by
  have h' : ¬ (i : Int) ≤ ((0 : Nat) : Int) := by omega
  simp only [lkpartitionEqualOrdered_int_4, h', decide_false, cond_false, Go.Sort.scanDown]
 | j + 1, n + 1, xs, hn, ha, hj, hl => by
  unfold Go.Sort.scanDown
  by_cases h : i ≤ j + 1
  ·have h' : (i : Int) ≤ ((j + 1 : Nat) : Int) := by omega
   have w1 : w64 (((j + 1 : Nat) : Int) - 1) = (j : Int) := wn (by omega) (by omega)
   simp only [lkpartitionEqualOrdered_int_4, h, h', decide_true, cond_true, Int.natCast_nonneg, Int.toNat_natCast, ha, hj, less_ok, Option.bind_some, arr_get, w1, Bool.true_and]
   cases hc : ltI (xs.getD a 0) (xs.getD (j + 1) 0) with
   | false => simp only [cond_false, Bool.false_eq_true, if_false]
   | true =>
    simp only [cond_true, if_true]
    have := pe_4 (a := a) hi j n xs (by omega) ha (by omega) hl
    simpa only [arr_get] using this
  ·have h' : ¬ (i : Int) ≤ ((j + 1 : Nat) : Int) := by omega
   simp only [lkpartitionEqualOrdered_int_4, h, h', decide_false, cond_false, Bool.false_and, Bool.false_eq_true, if_false]
theorem po_0 {a j : Nat} : ∀ (k n i : Nat) (xs : List Int), j + 1 - i ≤ k → k < n → a < xs.length → j < xs.length → xs.length ≤ 1000 → i ≤ 1001 →
  lkpartitionOrdered_int_0 N n ((a : Int), (i : Int), (j : Int), xs, ()) = some ((a : Int), ((Go.Sort.scanUp (fun x => ltI x xs.toArray[a]!) xs.toArray j i : Nat) : Int), (j : Int), xs, ()) ∧
  lkpartitionOrdered_int_6 N n ((a : Int), (i : Int), (j : Int), xs, ()) = some ((a : Int), ((Go.Sort.scanUp (fun x => ltI x xs.toArray[a]!) xs.toArray j i : Nat) : Int), (j : Int), xs, ())
 | k, 0, i, xs, _, hn, _, _, _, _ => absurd hn (Nat.not_lt_zero _)
 | k, n + 1, i, xs, hk, hn, ha, hj, hl, hi => by
  unfold Go.Sort.scanUp
  by_cases h : i ≤ j
  ·have h' : (i : Int) ≤ (j : Int) := by omega
   have w1 : w64 ((i : Int) + 1) = ((i + 1 : Nat) : Int) := wn (by omega) (by omega)
   have p1 : i < xs.length := by omega
   simp only [lkpartitionOrdered_int_0, lkpartitionOrdered_int_6, h, h', decide_true, cond_true, Int.natCast_nonneg, Int.toNat_natCast, ha, p1, less_ok, Option.bind_some, arr_get, w1, Bool.true_and]
   cases hc : ltI (xs.getD i 0) (xs.getD a 0) with
   | false => simp only [cond_false, Bool.false_eq_true, if_false, and_self]
   | true =>
    simp only [cond_true, if_true]
    have := po_0 (a := a) (j := j) (k - 1) n (i + 1) xs (by omega) (by omega) ha hj hl (by omega)
    simpa only [arr_get] using this
  ·have h' : ¬ (i : Int) ≤ (j : Int) := by omega
   simp only [lkpartitionOrdered_int_0, lkpartitionOrdered_int_6, h, h', decide_false, cond_false, Bool.false_and, Bool.false_eq_true, if_false, and_self]
theorem po_2 {a i : Nat} (hi : 1 ≤ i) : ∀ (j n : Nat) (xs : List Int), j < n → a < xs.length → j < xs.length → xs.length ≤ 1000 →
  lkpartitionOrdered_int_2 N n ((a : Int), (i : Int), (j : Int), xs, ()) = some ((a : Int), (i : Int), ((Go.Sort.scanDown (fun x => !ltI x xs.toArray[a]!) xs.toArray i j : Nat) : Int), xs, ()) ∧
  lkpartitionOrdered_int_8 N n ((a : Int), (i : Int), (j : Int), xs, ()) = some ((a : Int), (i : Int), ((Go.Sort.scanDown (fun x => !ltI x xs.toArray[a]!) xs.toArray i j : Nat) : Int), xs, ())
 | j, 0, xs, hn, _, _, _ => absurd hn (Nat.not_lt_zero _)
 | 0, n + 1, xs, hn, ha, hj, hl => by
  have h' : ¬ (i : Int) ≤ ((0 : Nat) : Int) := by omega
  simp only [lkpartitionOrdered_int_2, lkpartitionOrdered_int_8, h', decide_false, cond_false, Go.Sort.scanDown, and_self]
 | j + 1, n + 1, xs, hn, ha, hj, hl => by
  unfold Go.Sort.scanDown
  by_cases h : i ≤ j + 1
  ·have h' : (i : Int) ≤ ((j + 1 : Nat) : Int) := by omega
   have w1 : w64 (((j + 1 : Nat) : Int) - 1) = (j : Int) := wn (by omega) (by omega)
   simp only [lkpartitionOrdered_int_2, lkpartitionOrdered_int_8, h, h', decide_true, cond_true, Int.natCast_nonneg, Int.toNat_natCast, ha, hj, less_ok, Option.bind_some, arr_get, w1, Bool.true_and]
   cases hc : ltI (xs.getD (j + 1) 0) (xs.getD a 0) with
   | true => simp only [Bool.not_true, cond_false, Bool.false_eq_true, if_false, and_self]
   | false =>
    simp only [Bool.not_false, cond_true, if_true]
    have := po_2 (a := a) hi j n xs (by omega) ha (by omega) hl
    simpa only [arr_get] using this
  ·have h' : ¬ (i : Int) ≤ ((j + 1 : Nat) : Int) := by omega
   simp only [lkpartitionOrdered_int_2, lkpartitionOrdered_int_8, h, h', decide_false, cond_false, Bool.false_and, Bool.false_eq_true, if_false, and_self]
include hN
theorem pe_0 {a : Nat} : ∀ (k n i j : Nat) (xs : List Int), j + 1 - i ≤ k → k < n → 1 ≤ i → i ≤ 1001 → a < xs.length → j < xs.length → xs.length ≤ 1000 →
  lkpartitionEqualOrdered_int_0 N n ((a : Int), (i : Int), (j : Int), xs, ()) = some (((Go.Sort.partEqLoop ltI a i j xs.toArray).1 : Int), (Go.Sort.partEqLoop ltI a i j xs.toArray).2.toList, ())
 | k, 0, i, j, xs, _, hn, _, _, _, _, _ => absurd hn (Nat.not_lt_zero _)
 | k, n + 1, i, j, xs, hk, hn, h1, hi, ha, hj, hl => by
  have hN2 : 1002 < N := by rw [lim_eq] at hN; omega
  have e2 := pe_2 (N := N) (a := a) (j := j) (j + 1 - i) N i xs (Nat.le_refl _) (by omega) ha hj hl hi
  have g1 := Go.Sort.scanUp_ge (fun x => !ltI xs.toArray[a]! x) xs.toArray j i
  rw [Go.Sort.partEqLoop_eq]
  generalize Go.Sort.scanUp (fun x => !ltI xs.toArray[a]! x) xs.toArray j i = i2 at e2 g1 ⊢
  have e4 := pe_4 (N := N) (a := a) (i := i2) (by omega) j N xs (by omega) ha hj hl
  have g2 := Go.Sort.scanDown_le (fun x => ltI xs.toArray[a]! x) xs.toArray i2 j
  generalize Go.Sort.scanDown (fun x => ltI xs.toArray[a]! x) xs.toArray i2 j = j2 at e4 g2 ⊢
  simp only [lkpartitionEqualOrdered_int_0, e2, e4, Option.bind_some]
  by_cases h : i2 > j2
  ·have h' : (i2 : Int) > (j2 : Int) := by omega
   simp only [h, h', decide_true, cond_true, if_true]
  ·have h' : ¬ (i2 : Int) > (j2 : Int) := by omega
   have p1 : j2 < xs.length := by omega
   have p2 : i2 < xs.length := by omega
   have p3 : j2 < (xs.set i2 (xs.getD j2 0)).length := by simpa using p1
   have es : (xs.set i2 (xs.getD j2 0)).set j2 (xs.getD i2 0) = swL xs i2 j2 := rfl
   have w1 : w64 ((i2 : Int) + 1) = ((i2 + 1 : Nat) : Int) := wn (by omega) (by omega)
   have w2 : w64 ((j2 : Int) - 1) = ((j2 - 1 : Nat) : Int) := wn (by omega) (by omega)
   simp only [h, h', decide_false, cond_false, if_false, Int.natCast_nonneg, Int.toNat_natCast, p1, p2, p3, decide_true, cond_true, es, w1, w2]
   rw [pe_0 (k - 1) n (i2 + 1) (j2 - 1) (swL xs i2 j2) (by omega) (by omega) (by omega) (by omega) (by simpa using ha) (by simp; omega) (by simpa using hl), swL_arr]
theorem pe_ok {a b p : Nat} {xs : List Int} (hab : a < b) (hb : b ≤ xs.length) (hl : xs.length ≤ 1000) (hp : p < b) :
  FkpartitionEqualOrdered_int N ((a : Int), (b : Int), (p : Int), xs, ()) = some (((Go.Sort.partitionEqual ltI xs.toArray a b p).1 : Int), (Go.Sort.partitionEqual ltI xs.toArray a b p).2.toList, ()) := by
 have w1 : w64 ((a : Int) + 1) = ((a + 1 : Nat) : Int) := wn (by omega) (by omega)
 have w2 : w64 ((b : Int) - 1) = ((b - 1 : Nat) : Int) := wn (by omega) (by omega)
 have p1 : p < xs.length := by omega
 have p2 : a < xs.length := by omega
 have p3 : p < (xs.set a (xs.getD p 0)).length := by simpa using p1
 have es : (xs.set a (xs.getD p 0)).set p (xs.getD a 0) = swL xs a p := rfl
 have e := pe_0 hN (a := a) (b - 1 + 1 - (a + 1)) N (a + 1) (b - 1) (swL xs a p) (Nat.le_refl _) (by rw [lim_eq] at hN; omega) (by omega) (by omega) (by simpa using p2) (by simp; omega) (by simpa using hl)
 simp only [FkpartitionEqualOrdered_int, Int.natCast_nonneg, Int.toNat_natCast, p1, p2, p3, decide_true, cond_true, es, w1, w2, e, Option.bind_some, Go.Sort.partitionEqual, swL_arr]
theorem po_4 {a : Nat} : ∀ (k n i j : Nat) (xs : List Int), j + 1 - i ≤ k → k < n → 1 ≤ i → i ≤ 1001 → a < xs.length → j < xs.length → xs.length ≤ 1000 →
  lkpartitionOrdered_int_4 N n ((a : Int), (i : Int), (j : Int), xs, ()) = some ((a : Int), ((Go.Sort.partLoop ltI a i j xs.toArray).1 : Int), (Go.Sort.partLoop ltI a i j xs.toArray).2.toList, ())
 | k, 0, i, j, xs, _, hn, _, _, _, _, _ => absurd hn (Nat.not_lt_zero _)
 | k, n + 1, i, j, xs, hk, hn, h1, hi, ha, hj, hl => by
  have hN2 : 1002 < N := by rw [lim_eq] at hN; omega
  have e2 := (po_0 (N := N) (a := a) (j := j) (j + 1 - i) N i xs (Nat.le_refl _) (by omega) ha hj hl hi).2
  have g1 := Go.Sort.scanUp_ge (fun x => ltI x xs.toArray[a]!) xs.toArray j i
  rw [Go.Sort.partLoop_eq]
  generalize Go.Sort.scanUp (fun x => ltI x xs.toArray[a]!) xs.toArray j i = i2 at e2 g1 ⊢
  have e4 := (po_2 (N := N) (a := a) (i := i2) (by omega) j N xs (by omega) ha hj hl).2
  have g2 := Go.Sort.scanDown_le (fun x => !ltI x xs.toArray[a]!) xs.toArray i2 j
  generalize Go.Sort.scanDown (fun x => !ltI x xs.toArray[a]!) xs.toArray i2 j = j2 at e4 g2 ⊢
  simp only [lkpartitionOrdered_int_4, e2, e4, Option.bind_some]
  by_cases h : i2 > j2
  ·have h' : (i2 : Int) > (j2 : Int) := by omega
   simp only [h, h', decide_true, cond_true, if_true]
  ·have h' : ¬ (i2 : Int) > (j2 : Int) := by omega
   have p1 : j2 < xs.length := by omega
   have p2 : i2 < xs.length := by omega
   have p3 : j2 < (xs.set i2 (xs.getD j2 0)).length := by simpa using p1
   have es : (xs.set i2 (xs.getD j2 0)).set j2 (xs.getD i2 0) = swL xs i2 j2 := rfl
   have w1 : w64 ((i2 : Int) + 1) = ((i2 + 1 : Nat) : Int) := wn (by omega) (by omega)
   have w2 : w64 ((j2 : Int) - 1) = ((j2 - 1 : Nat) : Int) := wn (by omega) (by omega)
   simp only [h, h', decide_false, cond_false, if_false, Int.natCast_nonneg, Int.toNat_natCast, p1, p2, p3, decide_true, cond_true, es, w1, w2]
   rw [po_4 (k - 1) n (i2 + 1) (j2 - 1) (swL xs i2 j2) (by omega) (by omega) (by omega) (by omega) (by simpa using ha) (by simp; omega) (by simpa using hl), swL_arr]
theorem partLoop_le {a : Nat} : ∀ (k i j : Nat) (d : Array Int), j + 1 - i ≤ k → (Go.Sort.partLoop ltI a i j d).1 ≤ j ∧ (Go.Sort.partLoop ltI a i j d).2.size = d.size
 | 0, i, j, d, h => by
  rw [Go.Sort.partLoop_eq]
  split
  ·exact ⟨Go.Sort.scanDown_le _ _ _ _, rfl⟩
  ·rename_i hgt
   have h1 := Go.Sort.scanUp_ge (fun x => ltI x d[a]!) d j i
   have h2 := Go.Sort.scanDown_le (fun x => !ltI x d[a]!) d (Go.Sort.scanUp (fun x => ltI x d[a]!) d j i) j
   omega
 | k + 1, i, j, d, h => by
  rw [Go.Sort.partLoop_eq]
  split
  ·exact ⟨Go.Sort.scanDown_le _ _ _ _, rfl⟩
  ·rename_i hgt
   have h1 := Go.Sort.scanUp_ge (fun x => ltI x d[a]!) d j i
   have h2 := Go.Sort.scanDown_le (fun x => !ltI x d[a]!) d (Go.Sort.scanUp (fun x => ltI x d[a]!) d j i) j
   have h3 := partLoop_le (a := a) k (Go.Sort.scanUp (fun x => ltI x d[a]!) d j i + 1) (Go.Sort.scanDown (fun x => !ltI x d[a]!) d (Go.Sort.scanUp (fun x => ltI x d[a]!) d j i) j - 1) (Go.Sort.swp d (Go.Sort.scanUp (fun x => ltI x d[a]!) d j i) (Go.Sort.scanDown (fun x => !ltI x d[a]!) d (Go.Sort.scanUp (fun x => ltI x d[a]!) d j i) j)) (by omega)
   rw [Go.Sort.size_swp] at h3
   exact ⟨by omega, h3.2⟩
theorem po_ok {a b p : Nat} {xs : List Int} (hab : a + 1 < b) (hb : b ≤ xs.length) (hl : xs.length ≤ 1000) (hp : p < b) :
  FkpartitionOrdered_int N ((a : Int), (b : Int), (p : Int), xs, ()) = some (((Go.Sort.partition ltI xs.toArray a b p).1 : Int), (Go.Sort.partition ltI xs.toArray a b p).2.1, (Go.Sort.partition ltI xs.toArray a b p).2.2.toList, ()) := by
 have hN2 : 1002 < N := by rw [lim_eq] at hN; omega
 have w1 : w64 ((a : Int) + 1) = ((a + 1 : Nat) : Int) := wn (by omega) (by omega)
 have w2 : w64 ((b : Int) - 1) = ((b - 1 : Nat) : Int) := wn (by omega) (by omega)
 have p1 : p < xs.length := by omega
 have p2 : a < xs.length := by omega
 have p3 : p < (xs.set a (xs.getD p 0)).length := by simpa using p1
 have es : (xs.set a (xs.getD p 0)).set p (xs.getD a 0) = swL xs a p := rfl
 have hys : (swL xs a p).length = xs.length := swL_len
 simp only [FkpartitionOrdered_int, Int.natCast_nonneg, Int.toNat_natCast, p1, p2, p3, decide_true, cond_true, es, w1, w2, Go.Sort.partition, ← swL_arr]
 generalize swL xs a p = ys at hys ⊢
 have q1 : a < ys.length := by omega
 have e2 := (po_0 (N := N) (a := a) (j := b - 1) (b - 1 + 1 - (a + 1)) N (a + 1) ys (Nat.le_refl _) (by omega) q1 (by omega) (by omega) (by omega)).1
 have g1 := Go.Sort.scanUp_ge (fun x => ltI x ys.toArray[a]!) ys.toArray (b - 1) (a + 1)
 generalize Go.Sort.scanUp (fun x => ltI x ys.toArray[a]!) ys.toArray (b - 1) (a + 1) = i2 at e2 g1 ⊢
 have e4 := (po_2 (N := N) (a := a) (i := i2) (by omega) (b - 1) N ys (by omega) q1 (by omega) (by omega)).1
 have g2 := Go.Sort.scanDown_le (fun x => !ltI x ys.toArray[a]!) ys.toArray i2 (b - 1)
 generalize Go.Sort.scanDown (fun x => !ltI x ys.toArray[a]!) ys.toArray i2 (b - 1) = j2 at e4 g2 ⊢
 simp only [e2, e4, Option.bind_some]
 have s1 : j2 < ys.length := by omega
 by_cases h : i2 > j2
 ·have h' : (i2 : Int) > (j2 : Int) := by omega
  have s2 : a < (ys.set j2 (ys.getD a 0)).length := by simpa using q1
  have es2 : (ys.set j2 (ys.getD a 0)).set a (ys.getD j2 0) = swL ys j2 a := rfl
  simp only [h, h', decide_true, cond_true, if_true, Int.natCast_nonneg, Int.toNat_natCast, q1, s1, s2, es2, ← swL_arr]
 ·have h' : ¬ (i2 : Int) > (j2 : Int) := by omega
  have s2 : i2 < ys.length := by omega
  have s3 : j2 < (ys.set i2 (ys.getD j2 0)).length := by simpa using s1
  have es2 : (ys.set i2 (ys.getD j2 0)).set j2 (ys.getD i2 0) = swL ys i2 j2 := rfl
  have w3 : w64 ((i2 : Int) + 1) = ((i2 + 1 : Nat) : Int) := wn (by omega) (by omega)
  have w4 : w64 ((j2 : Int) - 1) = ((j2 - 1 : Nat) : Int) := wn (by omega) (by omega)
  have e6 := po_4 hN (a := a) (j2 - 1 + 1 - (i2 + 1)) N (i2 + 1) (j2 - 1) (swL ys i2 j2) (Nat.le_refl _) (by omega) (by omega) (by omega) (by simpa using q1) (by simp; omega) (by simp; omega)
  have hL := partLoop_le hN (a := a) (j2 - 1 + 1 - (i2 + 1)) (i2 + 1) (j2 - 1) (swL ys i2 j2).toArray (Nat.le_refl _)
  simp only [h, h', decide_true, decide_false, cond_true, cond_false, if_false, Int.natCast_nonneg, Int.toNat_natCast, s1, s2, s3, es2, w3, w4, ← swL_arr, e6, Option.bind_some]
  generalize Go.Sort.partLoop ltI a (i2 + 1) (j2 - 1) (swL ys i2 j2).toArray = r at hL ⊢
  obtain ⟨m, d⟩ := r
  dsimp only at hL ⊢
  have hd : d.toList.length = ys.length := by have := hL.2; simp at this; simpa using this
  have s4 : a < d.toList.length := by omega
  have s5 : m < d.toList.length := by omega
  have s6 : a < (d.toList.set m (d.toList.getD a 0)).length := by simpa using s4
  have es3 : (d.toList.set m (d.toList.getD a 0)).set a (d.toList.getD m 0) = swL d.toList m a := rfl
  have e7 : swL d.toList m a = (Go.Sort.swp d m a).toList := by
   have := swL_arr (xs := d.toList) (i := m) (j := a)
   rw [Array.toArray_toList] at this
   rw [← this]
  simp only [s4, s5, s6, decide_true, cond_true, es3, e7]
omit hN in
theorem pi_2 {a b : Nat} {m : Int} : ∀ (k n i : Nat) (xs : List Int), b - i ≤ k → k < n → b ≤ xs.length → xs.length ≤ 1000 → 1 ≤ i → i ≤ 1001 →
  lkpartialInsertionSortOrdered_int_2 N n ((a : Int), (b : Int), (i : Int), m, xs, ()) = some ((a : Int), (b : Int), ((Go.Sort.scanSorted ltI xs.toArray b i : Nat) : Int), m, xs, ())
 | k, 0, i, xs, _, hn, _, _, _, _ => absurd hn (Nat.not_lt_zero _)
 | k, n + 1, i, xs, hk, hn, hb, hl, h1, hi => by
  unfold Go.Sort.scanSorted
  by_cases h : i < b
  ·have h' : (i : Int) < (b : Int) := by omega
   have w1 : w64 ((i : Int) + 1) = ((i + 1 : Nat) : Int) := wn (by omega) (by omega)
   have w2 : w64 ((i : Int) - 1) = ((i - 1 : Nat) : Int) := wn (by omega) (by omega)
   have p1 : i < xs.length := by omega
   have p2 : i - 1 < xs.length := by omega
   simp only [lkpartialInsertionSortOrdered_int_2, h, h', decide_true, cond_true, Int.natCast_nonneg, Int.toNat_natCast, p1, p2, w1, w2, less_ok, Option.bind_some, arr_get, Bool.true_and]
   cases hc : ltI (xs.getD i 0) (xs.getD (i - 1) 0) with
   | true => simp only [Bool.not_true, cond_false, Bool.false_eq_true, if_false]
   | false =>
    simp only [Bool.not_false, cond_true, if_true]
    exact pi_2 (k - 1) n (i + 1) xs (by omega) (by omega) hb hl (by omega) (by omega)
  ·have h' : ¬ (i : Int) < (b : Int) := by omega
   simp only [lkpartialInsertionSortOrdered_int_2, h, h', decide_false, cond_false, Bool.false_and, Bool.false_eq_true, if_false]
omit hN in
theorem pi_4 {a b i m : Int} : ∀ (j n : Nat) (xs : List Int), j < n → j < xs.length → xs.length ≤ 1000 →
  lkpartialInsertionSortOrdered_int_4 N n (a, b, i, m, (j : Int), xs, ()) = some (a, b, i, m, (Go.Sort.shiftDown ltI j xs.toArray).toList, ())
 | j, 0, xs, hn, _, _ => absurd hn (Nat.not_lt_zero _)
 | 0, n + 1, xs, hn, hj, hl => by
  simp only [lkpartialInsertionSortOrdered_int_4, Int.natCast_zero, show decide ((0 : Int) ≥ 1) = false from rfl, cond_false, Go.Sort.shiftDown]
 | j + 1, n + 1, xs, hn, hj, hl => by
  have h1 : ((j + 1 : Nat) : Int) ≥ 1 := by omega
  have w1 : w64 (((j + 1 : Nat) : Int) - 1) = (j : Int) := wn (by omega) (by omega)
  have p1 : j < xs.length := by omega
  have p2 : j < (xs.set (j + 1) (xs.getD j 0)).length := by simpa using p1
  have es : (xs.set (j + 1) (xs.getD j 0)).set j (xs.getD (j + 1) 0) = swL xs (j + 1) j := rfl
  unfold Go.Sort.shiftDown
  simp only [lkpartialInsertionSortOrdered_int_4, h1, w1, Int.natCast_nonneg, Int.toNat_natCast, hj, p1, p2, decide_true, cond_true, less_ok, Option.bind_some, arr_get, es]
  cases hc : ltI (xs.getD (j + 1) 0) (xs.getD j 0) with
  | false => simp only [Bool.not_false, cond_true, if_true]
  | true =>
   simp only [Bool.not_true, cond_false, Bool.false_eq_true, if_false]
   rw [pi_4 j n (swL xs (j + 1) j) (by omega) (by simpa using p1) (by simpa using hl), swL_arr]
omit hN in
theorem pi_6 {b : Nat} {a i m : Int} : ∀ (k n j : Nat) (xs : List Int), b - j ≤ k → k < n → b ≤ xs.length → xs.length ≤ 1000 → 1 ≤ j → j ≤ 1001 →
  lkpartialInsertionSortOrdered_int_6 N n (a, (b : Int), i, m, (j : Int), xs, ()) = some (a, (b : Int), i, m, (Go.Sort.shiftUp ltI b j xs.toArray).toList, ())
 | k, 0, j, xs, _, hn, _, _, _, _ => absurd hn (Nat.not_lt_zero _)
 | k, n + 1, j, xs, hk, hn, hb, hl, h1, hj => by
  unfold Go.Sort.shiftUp
  by_cases h : j < b
  ·have h' : (j : Int) < (b : Int) := by omega
   have w1 : w64 ((j : Int) + 1) = ((j + 1 : Nat) : Int) := wn (by omega) (by omega)
   have w2 : w64 ((j : Int) - 1) = ((j - 1 : Nat) : Int) := wn (by omega) (by omega)
   have p1 : j < xs.length := by omega
   have p2 : j - 1 < xs.length := by omega
   have p3 : j - 1 < (xs.set j (xs.getD (j - 1) 0)).length := by simpa using p2
   have es : (xs.set j (xs.getD (j - 1) 0)).set (j - 1) (xs.getD j 0) = swL xs j (j - 1) := rfl
   simp only [lkpartialInsertionSortOrdered_int_6, h, h', decide_true, cond_true, Int.natCast_nonneg, Int.toNat_natCast, p1, p2, p3, w1, w2, less_ok, Option.bind_some, arr_get, es, if_true]
   cases hc : ltI (xs.getD j 0) (xs.getD (j - 1) 0) with
   | false => simp only [Bool.not_false, cond_true, if_true]
   | true =>
    simp only [Bool.not_true, cond_false, Bool.false_eq_true, if_false]
    rw [pi_6 (k - 1) n (j + 1) (swL xs j (j - 1)) (by omega) (by omega) (by simpa using hb) (by simpa using hl) (by omega) (by omega), swL_arr]
  ·have h' : ¬ (j : Int) < (b : Int) := by omega
   simp only [lkpartialInsertionSortOrdered_int_6, h, h', decide_false, cond_false, if_false]
omit hN in
theorem shiftDown_size : ∀ (j : Nat) (d : Array Int), (Go.Sort.shiftDown ltI j d).size = d.size
 | 0, d => rfl
 | j + 1, d => by
  unfold Go.Sort.shiftDown
  split
  ·rfl
  ·rw [shiftDown_size j, Go.Sort.size_swp]
omit hN in
theorem shiftUp_size {b : Nat} : ∀ (k j : Nat) (d : Array Int), b - j ≤ k → (Go.Sort.shiftUp ltI b j d).size = d.size
 | 0, j, d, h => by unfold Go.Sort.shiftUp; rw [if_neg (by omega)]
 | k + 1, j, d, h => by
  unfold Go.Sort.shiftUp
  split
  ·split
   ·rfl
   ·rw [shiftUp_size k (j + 1) _ (by omega), Go.Sort.size_swp]
  ·rfl
omit hN in
theorem scanSorted_le {d : Array Int} {b : Nat} : ∀ (k i : Nat), b - i ≤ k → i ≤ b → i ≤ Go.Sort.scanSorted ltI d b i ∧ Go.Sort.scanSorted ltI d b i ≤ b
 | 0, i, h, hi => by
  unfold Go.Sort.scanSorted
  have : ¬ i < b := by omega
  simp only [this, decide_false, Bool.false_and, Bool.false_eq_true, if_false]; omega
 | k + 1, i, h, hi => by
  unfold Go.Sort.scanSorted
  split
  ·rename_i hc
   simp only [Bool.and_eq_true, decide_eq_true_eq] at hc
   have := scanSorted_le (d := d) (b := b) k (i + 1) (by omega) (by omega)
   omega
  ·omega
theorem pi_0 {a b : Nat} (hab : a < b) : ∀ (s n i q : Nat) (xs : List Int), q + s = 5 → s < n → a < i → i ≤ b → b ≤ xs.length → xs.length ≤ 1000 →
  ∃ r, lkpartialInsertionSortOrdered_int_0 N n ((a : Int), (b : Int), (i : Int), (q : Int), xs, ()) = some r ∧
    (r = .inl ((Go.Sort.partialIns ltI a b s i xs.toArray).1.toList, ()) ∧ (Go.Sort.partialIns ltI a b s i xs.toArray).2 = false ∨ r = .inr ((Go.Sort.partialIns ltI a b s i xs.toArray).2, (Go.Sort.partialIns ltI a b s i xs.toArray).1.toList, ()))
 | s, 0, i, q, xs, _, hn, _, _, _, _ => absurd hn (Nat.not_lt_zero _)
 | 0, n + 1, i, q, xs, hq, hn, ha, hi, hb, hl => by
  have h : ¬ (q : Int) < 5 := by omega
  exact ⟨.inl (xs, ()), by simp only [lkpartialInsertionSortOrdered_int_0, h, decide_false, cond_false], .inl ⟨by simp only [Go.Sort.partialIns], rfl⟩⟩
 | s + 1, n + 1, i, q, xs, hq, hn, ha, hi, hb, hl => by
  have hN2 : 1002 < N := by rw [lim_eq] at hN; omega
  have h : (q : Int) < 5 := by omega
  have e2 := pi_2 (N := N) (a := a) (b := b) (m := (q : Int)) (b - i) N i xs (Nat.le_refl _) (by omega) hb hl (by omega) (by omega)
  have g1 := scanSorted_le (d := xs.toArray) (b := b) (b - i) i (Nat.le_refl _) hi
  simp only [lkpartialInsertionSortOrdered_int_0, h, decide_true, cond_true, e2, Option.bind_some, Go.Sort.partialIns]
  generalize Go.Sort.scanSorted ltI xs.toArray b i = i2 at g1 ⊢
  have wq : w64 ((q : Int) + 1) = ((q + 1 : Nat) : Int) := wn (by omega) (by omega)
  have w0 : w64 ((b : Int) - (a : Int)) = ((b - a : Nat) : Int) := wn (by omega) (by omega)
  have w1 : w64 ((i2 : Int) - 1) = ((i2 - 1 : Nat) : Int) := wn (by omega) (by omega)
  have w2 : w64 ((i2 : Int) - (a : Int)) = ((i2 - a : Nat) : Int) := wn (by omega) (by omega)
  have w3 : w64 ((b : Int) - (i2 : Int)) = ((b - i2 : Nat) : Int) := wn (by omega) (by omega)
  have w4 : w64 ((i2 : Int) + 1) = ((i2 + 1 : Nat) : Int) := wn (by omega) (by omega)
  by_cases c1 : i2 = b
  ·have c1' : ((i2 : Int) == (b : Int)) = true := by simp [c1]
   exact ⟨.inr (true, xs, ()), by simp only [c1', cond_true], .inr (by simp only [c1, if_true])⟩
  ·have c1' : ((i2 : Int) == (b : Int)) = false := by simp; omega
   by_cases c2 : b - a < 50
   ·have c2' : ((b - a : Nat) : Int) < 50 := by omega
    exact ⟨.inr (false, xs, ()), by simp only [c1', cond_false, w0, c2', decide_true, cond_true], .inr (by simp only [c1, c2, if_true, if_false])⟩
   ·have c2' : ¬ ((b - a : Nat) : Int) < 50 := by omega
    have p1 : i2 < xs.length := by omega
    have p2 : i2 - 1 < xs.length := by omega
    have p3 : i2 - 1 < (xs.set i2 (xs.getD (i2 - 1) 0)).length := by simpa using p2
    have es : (xs.set i2 (xs.getD (i2 - 1) 0)).set (i2 - 1) (xs.getD i2 0) = swL xs i2 (i2 - 1) := rfl
    simp only [c1, c1', c2, c2', cond_false, if_false, w0, w1, w2, w3, w4, wq, decide_false, decide_true, cond_true, Int.natCast_nonneg, Int.toNat_natCast, p1, p2, p3, es, ← swL_arr]
    have hys : (swL xs i2 (i2 - 1)).length = xs.length := swL_len
    generalize swL xs i2 (i2 - 1) = ys at hys ⊢
    have key : ∀ zs : List Int, zs.length = xs.length → ∃ r, (bif decide (((b - i2 : Nat) : Int) ≥ 2) then
       (lkpartialInsertionSortOrdered_int_6 N N ((a : Int), (b : Int), (i2 : Int), (q : Int), ((i2 + 1 : Nat) : Int), zs, ())).bind fun o27 => lkpartialInsertionSortOrdered_int_0 N n (o27.1, o27.2.1, o27.2.2.1, w64 (o27.2.2.2.1 + 1), o27.2.2.2.2.1, ())
      else lkpartialInsertionSortOrdered_int_0 N n ((a : Int), (b : Int), (i2 : Int), ((q + 1 : Nat) : Int), zs, ())) = some r ∧
      (r = .inl ((Go.Sort.partialIns ltI a b s i2 (if b - i2 ≥ 2 then Go.Sort.shiftUp ltI b (i2 + 1) zs.toArray else zs.toArray)).1.toList, ()) ∧ (Go.Sort.partialIns ltI a b s i2 (if b - i2 ≥ 2 then Go.Sort.shiftUp ltI b (i2 + 1) zs.toArray else zs.toArray)).2 = false ∨
       r = .inr ((Go.Sort.partialIns ltI a b s i2 (if b - i2 ≥ 2 then Go.Sort.shiftUp ltI b (i2 + 1) zs.toArray else zs.toArray)).2, (Go.Sort.partialIns ltI a b s i2 (if b - i2 ≥ 2 then Go.Sort.shiftUp ltI b (i2 + 1) zs.toArray else zs.toArray)).1.toList, ())) := by
     intro zs hz
     by_cases c4 : b - i2 ≥ 2
     ·have c4' : ((b - i2 : Nat) : Int) ≥ 2 := by omega
      have e6 := pi_6 (N := N) (b := b) (a := (a : Int)) (i := (i2 : Int)) (m := (q : Int)) (b - (i2 + 1)) N (i2 + 1) zs (Nat.le_refl _) (by omega) (by omega) (by omega) (by omega) (by omega)
      have hsz := shiftUp_size (b := b) (b - (i2 + 1)) (i2 + 1) zs.toArray (Nat.le_refl _)
      have hlen : (Go.Sort.shiftUp ltI b (i2 + 1) zs.toArray).toList.length = xs.length := by rw [Array.length_toList, hsz]; simpa using hz
      have ih := pi_0 hab s n i2 (q + 1) (Go.Sort.shiftUp ltI b (i2 + 1) zs.toArray).toList (by omega) (by omega) (by omega) (by omega) (by omega) (by omega)
      rw [Array.toArray_toList] at ih
      simp only [c4, c4', decide_true, cond_true, if_true, e6, Option.bind_some, wq]
      exact ih
     ·have c4' : ¬ ((b - i2 : Nat) : Int) ≥ 2 := by omega
      simp only [c4, c4', decide_false, cond_false, if_false]
      exact pi_0 hab s n i2 (q + 1) zs (by omega) (by omega) (by omega) (by omega) (by omega) (by omega)
    by_cases c3 : i2 - a ≥ 2
    ·have c3' : ((i2 - a : Nat) : Int) ≥ 2 := by omega
     have e4 := pi_4 (N := N) (a := (a : Int)) (b := (b : Int)) (i := (i2 : Int)) (m := (q : Int)) (i2 - 1) N ys (by omega) (by omega) (by omega)
     have hsz := shiftDown_size (i2 - 1) ys.toArray
     have k := key (Go.Sort.shiftDown ltI (i2 - 1) ys.toArray).toList (by rw [Array.length_toList, hsz]; simpa using hys)
     rw [Array.toArray_toList] at k
     simp only [c3, c3', decide_true, cond_true, if_true, e4, Option.bind_some, w3, w4, wq]
     exact k
    ·have c3' : ¬ ((i2 - a : Nat) : Int) ≥ 2 := by omega
     simp only [c3, c3', decide_false, cond_false, if_false, Option.bind_some, w3, w4, wq]
     exact key ys hys
theorem pi_ok {a b : Nat} {xs : List Int} (hab : a < b) (hb : b ≤ xs.length) (hl : xs.length ≤ 1000) :
  FkpartialInsertionSortOrdered_int N ((a : Int), (b : Int), xs, ()) = some ((Go.Sort.partialInsertionSort ltI xs.toArray a b).2, (Go.Sort.partialInsertionSort ltI xs.toArray a b).1.toList, ()) := by
 have w1 : w64 ((a : Int) + 1) = ((a + 1 : Nat) : Int) := wn (by omega) (by omega)
 obtain ⟨r, e, h⟩ := pi_0 hN hab 5 N (a + 1) 0 xs rfl (by rw [lim_eq] at hN; omega) (by omega) (by omega) hb hl
 simp only [Int.natCast_zero] at e
 simp only [FkpartialInsertionSortOrdered_int, w1, e, Option.bind_some, Go.Sort.partialInsertionSort]
 rcases h with ⟨rfl, h2⟩ | rfl
 ·simp only [Sum.elim_inl, h2]
 ·simp only [Sum.elim_inr]
end
theorem wrapU {x : Int} (h1 : 0 ≤ x) (h2 : x < 18446744073709551616) : IntKind.wrap .u64 x = x := by
 have e1 : (2 : Int) ^ 64 = 18446744073709551616 := rfl
 simp only [IntKind.wrap, IntKind.signed, IntKind.bits, Bool.false_and, e1]
 exact Int.emod_eq_of_lt h1 h2
section
variable {N : Nat} (hN : lim < N)
noncomputable def npOk (l : Nat) : Bool := match FknextPowerOfTwo 0 ((l : Int), ()) with
 | some (m, _) => decide (1 ≤ m) && decide (m ≤ 2 * (l : Int))
 | none => false
theorem npAll : ((List.range 256).all fun l => decide (l = 0) || npOk l) = true := by decide +kernel
noncomputable def lnOk (l : Nat) : Bool := match Fmath_bits_Len 0 ((l : Int), ()) with
 | some (m, _) => decide (0 ≤ m) && decide (m ≤ 64)
 | none => false
theorem lnAll : ((List.range 256).all fun l => lnOk l) = true := by decide +kernel
theorem np_ok {l : Nat} (h1 : 1 ≤ l) (h2 : l ≤ 255) : ∃ m : Int, FknextPowerOfTwo N ((l : Int), ()) = some (m, ()) ∧ 1 ≤ m ∧ m ≤ 2 * (l : Int) := by
 have h := List.all_eq_true.1 npAll l (by simp; omega)
 have e : FknextPowerOfTwo N ((l : Int), ()) = FknextPowerOfTwo 0 ((l : Int), ()) := rfl
 have h0 : decide (l = 0) = false := by simp; omega
 rw [h0, Bool.false_or, npOk] at h
 rw [e]
 cases hq : FknextPowerOfTwo 0 ((l : Int), ()) with
 | none => rw [hq] at h; cases h
 | some r =>
  obtain ⟨m, ⟨⟩⟩ := r
  rw [hq] at h
  simp only [Bool.and_eq_true, decide_eq_true_eq] at h
  exact ⟨m, rfl, h.1, h.2⟩
theorem ln_ok {l : Nat} (h2 : l ≤ 255) : ∃ m : Nat, Fmath_bits_Len N ((l : Int), ()) = some ((m : Int), ()) ∧ m ≤ 64 := by
 have h := List.all_eq_true.1 lnAll l (by simp; omega)
 have e : Fmath_bits_Len N ((l : Int), ()) = Fmath_bits_Len 0 ((l : Int), ()) := rfl
 rw [lnOk] at h
 rw [e]
 cases hq : Fmath_bits_Len 0 ((l : Int), ()) with
 | none => rw [hq] at h; cases h
 | some r =>
  obtain ⟨m, ⟨⟩⟩ := r
  rw [hq] at h
  simp only [Bool.and_eq_true, decide_eq_true_eq] at h
  obtain ⟨k, rfl⟩ := Int.eq_ofNat_of_zero_le h.1
  exact ⟨k, rfl, by omega⟩
theorem xor_ok (r : Int) : ∃ v, Fkxorshift_Next N (r, ()) = some (v, v, ()) := ⟨_, rfl⟩
theorem mask_ok {r m : Int} (h1 : 1 ≤ m) (h2 : m ≤ 1000) : ∃ k : Nat, IntKind.wrap .u64 (((bitsOf .u64 r &&& bitsOf .u64 (IntKind.wrap .u64 (m - 1))).toNat : Nat) : Int) = (k : Int) ∧ (k : Int) < m := by
 rw [wrapU (x := m - 1) (by omega) (by omega)]
 have e : (bitsOf .u64 r &&& bitsOf .u64 (m - 1)).toNat = (bitsOf .u64 r).toNat &&& (bitsOf .u64 (m - 1)).toNat := BitVec.toNat_and _ _
 have e2 : (bitsOf .u64 (m - 1)).toNat = (m - 1).toNat := by
  simp only [bitsOf, BitVec.toNat_ofInt, IntKind.bits]
  omega
 have h3 : (bitsOf .u64 r).toNat &&& (m - 1).toNat ≤ (m - 1).toNat := Nat.and_le_right
 rw [e, e2]
 refine ⟨(bitsOf .u64 r).toNat &&& (m - 1).toNat, ?_, by omega⟩
 rw [wrapU (by omega) (by omega)]
theorem brk_0 {a b : Nat} {m : Int} (hab : a + 8 ≤ b) (hm1 : 1 ≤ m) (hm2 : m ≤ 2 * ((b - a : Nat) : Int)) : ∀ (k n idx : Nat) (xs : List Int) (r : Int), idx + k = a + (b - a) / 4 * 2 + 2 → k < n → a ≤ idx → b ≤ xs.length → xs.length ≤ 255 →
  ∃ ys, lkbreakPatternsOrdered_int_0 N n ((a : Int), ((b - a : Nat) : Int), m, (idx : Int), xs, r, ()) = some (ys, ()) ∧ Go.Sort.PermIn a b xs.toArray ys.toArray
 | k, 0, idx, xs, r, _, hn, _, _, _ => absurd hn (Nat.not_lt_zero _)
 | k, n + 1, idx, xs, r, hk, hn, hi, hb, hl => by
  have w1 : w64 (Int.tdiv ((b - a : Nat) : Int) 4) = (((b - a) / 4 : Nat) : Int) := by
   rw [Int.tdiv_eq_ediv_of_nonneg (by omega), w64_id (by omega) (by omega)]; omega
  have w2 : w64 ((((b - a) / 4 : Nat) : Int) * 2) = (((b - a) / 4 * 2 : Nat) : Int) := wn (by omega) (by omega)
  have w3 : w64 ((a : Int) + (((b - a) / 4 * 2 : Nat) : Int)) = ((a + (b - a) / 4 * 2 : Nat) : Int) := wn (by omega) (by omega)
  have w4 : w64 (((a + (b - a) / 4 * 2 : Nat) : Int) + 1) = ((a + (b - a) / 4 * 2 + 1 : Nat) : Int) := wn (by omega) (by omega)
  simp only [lkbreakPatternsOrdered_int_0, show decide ((4 : Int) = 0) = false from rfl, cond_false, w1, w2, w3, w4]
  by_cases h : k = 0
  ·have h' : ¬ (idx : Int) ≤ ((a + (b - a) / 4 * 2 + 1 : Nat) : Int) := by omega
   exact ⟨xs, by simp only [h', decide_false, cond_false], Go.Sort.permIn_refl _ _ _⟩
  ·have h' : (idx : Int) ≤ ((a + (b - a) / 4 * 2 + 1 : Nat) : Int) := by omega
   obtain ⟨v, hv⟩ := xor_ok (N := N) r
   obtain ⟨q, hq1, hq2⟩ := mask_ok (r := v) (m := m) hm1 (by omega)
   have w5 : w64 (q : Int) = (q : Int) := wn rfl (by omega)
   have w6 : w64 ((idx : Int) + 1) = ((idx + 1 : Nat) : Int) := wn (by omega) (by omega)
   have key : ∀ o : Nat, o < b - a → ∃ ys, (bif decide (0 ≤ w64 ((a : Int) + (o : Int))) then bif decide ((w64 ((a : Int) + (o : Int))).toNat < xs.length) then
      bif decide (0 ≤ (idx : Int)) then bif decide ((idx : Int).toNat < xs.length) then bif decide (0 ≤ (idx : Int)) then bif decide ((idx : Int).toNat < xs.length) then
      bif decide (0 ≤ w64 ((a : Int) + (o : Int))) then bif decide ((w64 ((a : Int) + (o : Int))).toNat < (xs.set (idx : Int).toNat (xs.getD (w64 ((a : Int) + (o : Int))).toNat 0)).length) then
      lkbreakPatternsOrdered_int_0 N n ((a : Int), ((b - a : Nat) : Int), m, w64 ((idx : Int) + 1), (xs.set (idx : Int).toNat (xs.getD (w64 ((a : Int) + (o : Int))).toNat 0)).set (w64 ((a : Int) + (o : Int))).toNat (xs.getD (idx : Int).toNat 0), v, ())
      else none else none else none else none else none else none else none else none) = some (ys, ()) ∧ Go.Sort.PermIn a b xs.toArray ys.toArray := by
    intro o ho
    have w7 : w64 ((a : Int) + (o : Int)) = ((a + o : Nat) : Int) := wn (by omega) (by omega)
    have p1 : a + o < xs.length := by omega
    have p2 : idx < xs.length := by omega
    have p3 : a + o < (xs.set idx (xs.getD (a + o) 0)).length := by simpa using p1
    have es : (xs.set idx (xs.getD (a + o) 0)).set (a + o) (xs.getD idx 0) = swL xs idx (a + o) := rfl
    obtain ⟨ys, e, hP⟩ := brk_0 hab hm1 hm2 (k - 1) n (idx + 1) (swL xs idx (a + o)) v (by omega) (by omega) (by omega) (by simpa using hb) (by simpa using hl)
    refine ⟨ys, by simp only [w7, Int.natCast_nonneg, Int.toNat_natCast, p1, p2, p3, decide_true, cond_true, es, w6, e], ?_⟩
    rw [swL_arr] at hP
    exact Go.Sort.permIn_trans _ _ _ a b (Go.Sort.swp_permIn xs.toArray a b idx (a + o) hi (by omega) (by omega) (by omega) (by simpa using hb)) hP
   simp only [h', decide_true, cond_true, hv, Option.bind_some, hq1, w5]
   by_cases c : q ≥ b - a
   ·have c' : (q : Int) ≥ ((b - a : Nat) : Int) := by omega
    have w8 : w64 ((q : Int) - ((b - a : Nat) : Int)) = ((q - (b - a) : Nat) : Int) := wn (by omega) (by omega)
    simp only [c', decide_true, cond_true, Option.bind_some, w8]
    exact key (q - (b - a)) (by omega)
   ·have c' : ¬ (q : Int) ≥ ((b - a : Nat) : Int) := by omega
    simp only [c', decide_false, cond_false, Option.bind_some]
    exact key q (by omega)
include hN
theorem brk_ok {a b : Nat} {xs : List Int} (hab : a + 8 ≤ b) (hb : b ≤ xs.length) (hl : xs.length ≤ 255) :
  ∃ ys, FkbreakPatternsOrdered_int N ((a : Int), (b : Int), xs, ()) = some (ys, ()) ∧ Go.Sort.PermIn a b xs.toArray ys.toArray := by
 have w0 : w64 ((b : Int) - (a : Int)) = ((b - a : Nat) : Int) := wn (by omega) (by omega)
 have h8 : ((b - a : Nat) : Int) ≥ 8 := by omega
 obtain ⟨m, e1, m1, m2⟩ := np_ok (N := N) (l := b - a) (by omega) (by omega)
 have w1 : w64 (Int.tdiv ((b - a : Nat) : Int) 4) = (((b - a) / 4 : Nat) : Int) := by
  rw [Int.tdiv_eq_ediv_of_nonneg (by omega), w64_id (by omega) (by omega)]; omega
 have w2 : w64 ((((b - a) / 4 : Nat) : Int) * 2) = (((b - a) / 4 * 2 : Nat) : Int) := wn (by omega) (by omega)
 have w3 : w64 ((a : Int) + (((b - a) / 4 * 2 : Nat) : Int)) = ((a + (b - a) / 4 * 2 : Nat) : Int) := wn (by omega) (by omega)
 have w4 : w64 (((a + (b - a) / 4 * 2 : Nat) : Int) - 1) = ((a + (b - a) / 4 * 2 - 1 : Nat) : Int) := wn (by omega) (by omega)
 obtain ⟨ys, e, hP⟩ := brk_0 (N := N) (a := a) (b := b) (m := m) hab m1 m2 3 N (a + (b - a) / 4 * 2 - 1) xs (IntKind.wrap .u64 ((b - a : Nat) : Int)) (by omega) (by rw [lim_eq] at hN; omega) (by omega) hb hl
 exact ⟨ys, by simp only [FkbreakPatternsOrdered_int, w0, h8, decide_true, cond_true, e1, Option.bind_some, show decide ((4 : Int) = 0) = false from rfl, cond_false, w1, w2, w3, w4, e], hP⟩
omit hN in
theorem ord2_ok {lo hi p q : Nat} {xs : List Int} (hb : hi ≤ xs.length) (hp : lo ≤ p ∧ p < hi) (hq : lo ≤ q ∧ q < hi) (s : Int) :
  ∃ (u v : Nat) (s' : Int), Fkorder2Ordered_int N (xs, (p : Int), (q : Int), s, ()) = some ((u : Int), (v : Int), s', ()) ∧ (lo ≤ u ∧ u < hi) ∧ (lo ≤ v ∧ v < hi) := by
 have p1 : p < xs.length := by omega
 have p2 : q < xs.length := by omega
 simp only [Fkorder2Ordered_int, Int.natCast_nonneg, Int.toNat_natCast, p1, p2, decide_true, cond_true, less_ok, Option.bind_some]
 cases ltI (xs.getD q 0) (xs.getD p 0) with
 | true => exact ⟨q, p, w64 (s + 1), rfl, hq, hp⟩
 | false => exact ⟨p, q, s, rfl, hp, hq⟩
omit hN in
theorem med_ok {lo hi p q r : Nat} {xs : List Int} (hb : hi ≤ xs.length) (hp : lo ≤ p ∧ p < hi) (hq : lo ≤ q ∧ q < hi) (hr : lo ≤ r ∧ r < hi) (s : Int) :
  ∃ (u : Nat) (s' : Int), FkmedianOrdered_int N (xs, (p : Int), (q : Int), (r : Int), s, ()) = some ((u : Int), s', ()) ∧ (lo ≤ u ∧ u < hi) := by
 obtain ⟨u1, v1, s1, e1, h1, h2⟩ := ord2_ok (N := N) hb hp hq s
 obtain ⟨u2, v2, s2, e2, h3, h4⟩ := ord2_ok (N := N) hb h2 hr s1
 obtain ⟨u3, v3, s3, e3, h5, h6⟩ := ord2_ok (N := N) hb h1 h3 s2
 exact ⟨v3, s3, by simp only [FkmedianOrdered_int, e1, e2, e3, Option.bind_some], h6⟩
omit hN in
theorem madj_ok {lo hi p : Nat} {xs : List Int} (hb : hi ≤ xs.length) (hl : xs.length ≤ 1000) (hp : lo < p ∧ p + 1 < hi) (s : Int) :
  ∃ (u : Nat) (s' : Int), FkmedianAdjacentOrdered_int N (xs, (p : Int), s, ()) = some ((u : Int), s', ()) ∧ (lo ≤ u ∧ u < hi) := by
 have w1 : w64 ((p : Int) - 1) = ((p - 1 : Nat) : Int) := wn (by omega) (by omega)
 have w2 : w64 ((p : Int) + 1) = ((p + 1 : Nat) : Int) := wn (by omega) (by omega)
 obtain ⟨u, s', e, h⟩ := med_ok (N := N) (p := p - 1) (q := p) (r := p + 1) (lo := lo) (hi := hi) hb (by omega) (by omega) (by omega) s
 exact ⟨u, s', by simp only [FkmedianAdjacentOrdered_int, w1, w2, e, Option.bind_some], h⟩
omit hN in
theorem piv_ok {a b : Nat} {xs : List Int} (hab : a + 12 < b) (hb : b ≤ xs.length) (hl : xs.length ≤ 1000) :
  ∃ (p : Nat) (h : Int), FkchoosePivotOrdered_int N (xs, (a : Int), (b : Int), ()) = some ((p : Int), h, ()) ∧ a ≤ p ∧ p < b := by
 have w0 : w64 ((b : Int) - (a : Int)) = ((b - a : Nat) : Int) := wn (by omega) (by omega)
 have w1 : w64 (Int.tdiv ((b - a : Nat) : Int) 4) = (((b - a) / 4 : Nat) : Int) := by
  rw [Int.tdiv_eq_ediv_of_nonneg (by omega), w64_id (by omega) (by omega)]; omega
 have m1 : w64 ((((b - a) / 4 : Nat) : Int) * 1) = (((b - a) / 4 * 1 : Nat) : Int) := wn (by omega) (by omega)
 have m2 : w64 ((((b - a) / 4 : Nat) : Int) * 2) = (((b - a) / 4 * 2 : Nat) : Int) := wn (by omega) (by omega)
 have m3 : w64 ((((b - a) / 4 : Nat) : Int) * 3) = (((b - a) / 4 * 3 : Nat) : Int) := wn (by omega) (by omega)
 have n1 : w64 ((a : Int) + (((b - a) / 4 * 1 : Nat) : Int)) = ((a + (b - a) / 4 * 1 : Nat) : Int) := wn (by omega) (by omega)
 have n2 : w64 ((a : Int) + (((b - a) / 4 * 2 : Nat) : Int)) = ((a + (b - a) / 4 * 2 : Nat) : Int) := wn (by omega) (by omega)
 have n3 : w64 ((a : Int) + (((b - a) / 4 * 3 : Nat) : Int)) = ((a + (b - a) / 4 * 3 : Nat) : Int) := wn (by omega) (by omega)
 have h8 : ((b - a : Nat) : Int) ≥ 8 := by omega
 have fin : ∀ (p : Nat) (s : Int), ∃ h : Int, (bif ((p : Int), s, ()).2.1 == 0 then some (((p : Int), s, ()).1, (1 : Int), ()) else bif ((p : Int), s, ()).2.1 == 12 then some (((p : Int), s, ()).1, (2 : Int), ()) else some (((p : Int), s, ()).1, (0 : Int), ())) = some ((p : Int), h, ()) := by
  intro p s
  by_cases c1 : s = 0
  ·exact ⟨1, by simp [c1]⟩
  ·by_cases c2 : s = 12
   ·exact ⟨2, by simp [c2]⟩
   ·exact ⟨0, by simp [c1, c2]⟩
 simp only [FkchoosePivotOrdered_int, show decide ((4 : Int) = 0) = false from rfl, cond_false, w0, w1, m1, m2, m3, n1, n2, n3, h8, decide_true, cond_true]
 have med := fun (i j k : Nat) (hi : a ≤ i ∧ i < b) (hj : a ≤ j ∧ j < b) (hk : a ≤ k ∧ k < b) (s : Int) => med_ok (N := N) (lo := a) (hi := b) (p := i) (q := j) (r := k) (xs := xs) hb hi hj hk s
 by_cases c : ((b - a : Nat) : Int) ≥ 50
 ·obtain ⟨u1, s1, e1, h1⟩ := madj_ok (N := N) (lo := a) (hi := b) (p := a + (b - a) / 4 * 1) (xs := xs) hb hl (by omega) 0
  obtain ⟨u2, s2, e2, h2⟩ := madj_ok (N := N) (lo := a) (hi := b) (p := a + (b - a) / 4 * 2) (xs := xs) hb hl (by omega) s1
  obtain ⟨u3, s3, e3, h3⟩ := madj_ok (N := N) (lo := a) (hi := b) (p := a + (b - a) / 4 * 3) (xs := xs) hb hl (by omega) s2
  obtain ⟨u, s, e, h⟩ := med u1 u2 u3 h1 h2 h3 s3
  obtain ⟨t, ht⟩ := fin u s
  refine ⟨u, t, ?_, h⟩
  simp only [c, decide_true, cond_true, e1, e2, e3, e, Option.bind_some]
  exact ht
 ·obtain ⟨u, s, e, h⟩ := med (a + (b - a) / 4 * 1) (a + (b - a) / 4 * 2) (a + (b - a) / 4 * 3) (by omega) (by omega) (by omega) 0
  obtain ⟨t, ht⟩ := fin u s
  refine ⟨u, t, ?_, h⟩
  simp only [c, decide_false, cond_false, e, Option.bind_some]
  exact ht
end
end Go.Fl
set_option linter.all false
set_option maxRecDepth 10000
namespace Go.Fl
open Go
section
variable {N : Nat} (hN : lim < N)
include hN
theorem pdq_main : ∀ (k m n a b limit : Nat) (wb wp : Bool) (xs : List Int), b - a ≤ k → k < m → k < n → a ≤ b → b ≤ xs.length → xs.length ≤ 255 → limit ≤ 64 → Go.Sort.Below ltI a b xs.toArray →
  ∃ ys, lkpdqsortOrdered_int_0 N (fun x_ => FkpdqsortOrdered_int N m x_) n ((a : Int), (b : Int), (limit : Int), wb, wp, xs, ()) = some (ys, ()) ∧ Go.Sort.PermIn a b xs.toArray ys.toArray ∧ Go.Sort.SortedIn ltI a b ys.toArray
 | k, m, 0, a, b, limit, wb, wp, xs, _, _, hn, _, _, _, _, _ => absurd hn (Nat.not_lt_zero _)
 | k, 0, n, a, b, limit, wb, wp, xs, _, hm, _, _, _, _, _, _ => absurd hm (Nat.not_lt_zero _)
 | k, m + 1, n + 1, a, b, limit, wb, wp, xs, hk, hm, hn, hab, hb, hl, hlim, hB => by
  have hlimN : 300 < N := by rw [lim_eq] at hN; omega
  have w0 : w64 ((b : Int) - (a : Int)) = ((b - a : Nat) : Int) := wn (by omega) (by omega)
  have hbs : b ≤ xs.toArray.size := by simpa using hb
  rw [lkpdqsortOrdered_int_0]
  simp only [w0]
  by_cases h12 : b - a ≤ 12
  ·have h12' : ((b - a : Nat) : Int) ≤ 12 := by omega
   have h := Go.Sort.insertionSort_holds (lt := ltI) Go.Sort.swo_ltInt xs.toArray a b hab hbs
   refine ⟨(Go.Sort.insertionSort ltI xs.toArray a b).toList, ?_, ?_⟩
   ·simp only [h12', decide_true, cond_true, ins_ok hN (a := a) (b := b) hb (by omega) (by omega), Option.bind_some]
   ·rw [Array.toArray_toList]; exact h
  ·have h12' : ¬ ((b - a : Nat) : Int) ≤ 12 := by omega
   simp only [h12', decide_false, cond_false]
   by_cases h0 : limit = 0
   ·have h := Go.Sort.heapSort_holds (lt := ltI) Go.Sort.swo_ltInt xs.toArray a b hab hbs
    have h0' : ((limit : Int) == 0) = true := by simp [h0]
    refine ⟨(Go.Sort.heapSort ltI xs.toArray a b).toList, ?_, ?_⟩
    ·simp only [h0', cond_true, heap_ok hN (a := a) (b := b) (show a < b by omega) hb (by omega), Option.bind_some]
    ·rw [Array.toArray_toList]; exact h
   ·have h0' : ((limit : Int) == 0) = false := by simp; exact h0
    simp only [h0', cond_false]
    have s1 : ∃ (l1 : Nat) (x1 : List Int), (bif !wb then (FkbreakPatternsOrdered_int N ((a : Int), (b : Int), xs, ())).bind fun r4 => some ((a : Int), (b : Int), w64 ((limit : Int) - 1), wb, wp, ((b - a : Nat) : Int), r4.1, ()) else some ((a : Int), (b : Int), (limit : Int), wb, wp, ((b - a : Nat) : Int), xs, ())) = some ((a : Int), (b : Int), (l1 : Int), wb, wp, ((b - a : Nat) : Int), x1, ()) ∧ l1 ≤ 64 ∧ Go.Sort.PermIn a b xs.toArray x1.toArray := by
     cases wb with
     | true => exact ⟨limit, xs, by simp only [Bool.not_true, cond_false], hlim, Go.Sort.permIn_refl _ _ _⟩
     | false =>
      obtain ⟨ys, e, hP⟩ := brk_ok hN (a := a) (b := b) (xs := xs) (by omega) hb hl
      have w1 : w64 ((limit : Int) - 1) = ((limit - 1 : Nat) : Int) := wn (by omega) (by omega)
      exact ⟨limit - 1, ys, by simp only [Bool.not_false, cond_true, e, Option.bind_some, w1], by omega, hP⟩
    obtain ⟨l1, x1, e1, hl1, P1⟩ := s1
    rw [e1]
    have z1 : x1.length = xs.length := by have := P1.1; simpa using this
    have B1 : Go.Sort.Below ltI a b x1.toArray := hB.perm hbs P1
    obtain ⟨p, h, e2, hp1, hp2⟩ := piv_ok (N := N) (a := a) (b := b) (xs := x1) (by omega) (by omega) (by omega)
    simp only [Option.bind_some, e2]
    have s2 : ∃ (p2 : Nat) (h2 : Int) (x2 : List Int), (bif h == 2 then (FkreverseRangeOrdered_int N ((a : Int), (b : Int), x1, ())).bind fun r7 => some ((a : Int), (b : Int), (l1 : Int), wb, wp, ((b - a : Nat) : Int), w64 (w64 ((b : Int) - 1) - w64 ((p : Int) - (a : Int))), (1 : Int), r7.1, ())
      else some ((a : Int), (b : Int), (l1 : Int), wb, wp, ((b - a : Nat) : Int), (p : Int), h, x1, ())) = some ((a : Int), (b : Int), (l1 : Int), wb, wp, ((b - a : Nat) : Int), (p2 : Int), h2, x2, ()) ∧ a ≤ p2 ∧ p2 < b ∧ Go.Sort.PermIn a b x1.toArray x2.toArray := by
     by_cases c : h = 2
     ·have c' : (h == 2) = true := by simp [c]
      have w1 : w64 ((b : Int) - 1) = ((b - 1 : Nat) : Int) := wn (by omega) (by omega)
      have w2 : w64 ((p : Int) - (a : Int)) = ((p - a : Nat) : Int) := wn (by omega) (by omega)
      have w3 : w64 (((b - 1 : Nat) : Int) - ((p - a : Nat) : Int)) = ((b - 1 - (p - a) : Nat) : Int) := wn (by omega) (by omega)
      refine ⟨b - 1 - (p - a), 1, (Go.Sort.reverseRange x1.toArray a b).toList, ?_, by omega, by omega, ?_⟩
      ·simp only [c', cond_true, rev_ok hN (a := a) (b := b) (xs := x1) (by omega) (by omega) (by omega), Option.bind_some, w1, w2, w3]
      ·rw [Array.toArray_toList]; exact Go.Sort.reverseRange_holds x1.toArray a b hab (by simpa [z1] using hb)
     ·have c' : (h == 2) = false := by simp [c]
      exact ⟨p, h, x1, by simp only [c', cond_false], hp1, hp2, Go.Sort.permIn_refl _ _ _⟩
    obtain ⟨p2, h2, x2, e3, hp3, hp4, P2⟩ := s2
    rw [e3]
    have z2 : x2.length = xs.length := by have := P2.1; simp at this; omega
    have B2 : Go.Sort.Below ltI a b x2.toArray := B1.perm (by simpa [z1] using hb) P2
    simp only [Option.bind_some]
    have s3 : ∃ x3 : List Int, Go.Sort.PermIn a b x2.toArray x3.toArray ∧ ((bif wb then bif wp then bif h2 == 1 then (FkpartialInsertionSortOrdered_int N ((a : Int), (b : Int), x2, ())).bind fun r10 => bif r10.1 then some (Sum.inr (r10.2.1, ())) else some (Sum.inl ((a : Int), (b : Int), (l1 : Int), wb, wp, ((b - a : Nat) : Int), (p2 : Int), r10.2.1, ())) else some (Sum.inl ((a : Int), (b : Int), (l1 : Int), wb, wp, ((b - a : Nat) : Int), (p2 : Int), x2, ())) else some (Sum.inl ((a : Int), (b : Int), (l1 : Int), wb, wp, ((b - a : Nat) : Int), (p2 : Int), x2, ())) else some (Sum.inl ((a : Int), (b : Int), (l1 : Int), wb, wp, ((b - a : Nat) : Int), (p2 : Int), x2, ())) : Option ((Int × Int × Int × Bool × Bool × Int × Int × List Int × Unit) ⊕ (List Int × Unit))) = some (Sum.inl ((a : Int), (b : Int), (l1 : Int), wb, wp, ((b - a : Nat) : Int), (p2 : Int), x3, ())) ∨
      (bif wb then bif wp then bif h2 == 1 then (FkpartialInsertionSortOrdered_int N ((a : Int), (b : Int), x2, ())).bind fun r10 => bif r10.1 then some (Sum.inr (r10.2.1, ())) else some (Sum.inl ((a : Int), (b : Int), (l1 : Int), wb, wp, ((b - a : Nat) : Int), (p2 : Int), r10.2.1, ())) else some (Sum.inl ((a : Int), (b : Int), (l1 : Int), wb, wp, ((b - a : Nat) : Int), (p2 : Int), x2, ())) else some (Sum.inl ((a : Int), (b : Int), (l1 : Int), wb, wp, ((b - a : Nat) : Int), (p2 : Int), x2, ())) else some (Sum.inl ((a : Int), (b : Int), (l1 : Int), wb, wp, ((b - a : Nat) : Int), (p2 : Int), x2, ())) : Option ((Int × Int × Int × Bool × Bool × Int × Int × List Int × Unit) ⊕ (List Int × Unit))) = some (Sum.inr (x3, ())) ∧ Go.Sort.SortedIn ltI a b x3.toArray) := by
     have hpi := Go.Sort.partialInsertionSort_holds (lt := ltI) Go.Sort.swo_ltInt x2.toArray a b (by omega) (by simpa [z2] using hb) B2
     have e := pi_ok hN (a := a) (b := b) (xs := x2) (by omega) (by omega) (by omega)
     cases wb with
     | false => exact ⟨x2, Go.Sort.permIn_refl _ _ _, .inl (by simp only [cond_false])⟩
     | true =>
      cases wp with
      | false => exact ⟨x2, Go.Sort.permIn_refl _ _ _, .inl (by simp only [cond_true, cond_false])⟩
      | true =>
       by_cases c : h2 = 1
       ·have c' : (h2 == 1) = true := by simp [c]
        refine ⟨(Go.Sort.partialInsertionSort ltI x2.toArray a b).1.toList, by rw [Array.toArray_toList]; exact hpi.1, ?_⟩
        cases hr : (Go.Sort.partialInsertionSort ltI x2.toArray a b).2 with
        | true => exact .inr ⟨by simp only [cond_true, c', e, Option.bind_some, hr], by rw [Array.toArray_toList]; exact hpi.2 hr⟩
        | false => exact .inl (by simp only [cond_true, cond_false, c', e, Option.bind_some, hr])
       ·have c' : (h2 == 1) = false := by simp [c]
        exact ⟨x2, Go.Sort.permIn_refl _ _ _, .inl (by simp only [cond_true, cond_false, c'])⟩
    obtain ⟨x3, P3, hs⟩ := s3
    have z3 : x3.length = xs.length := by have := P3.1; simp at this; omega
    have B3 : Go.Sort.Below ltI a b x3.toArray := B2.perm (by simpa [z2] using hb) P3
    have P03 : Go.Sort.PermIn a b xs.toArray x3.toArray := Go.Sort.permIn_trans _ _ _ a b P1 (Go.Sort.permIn_trans _ _ _ a b P2 P3)
    have hb3 : b ≤ x3.toArray.size := by simpa [z3] using hb
    rcases hs with hs | ⟨hs, hsort⟩
    ·rw [hs]
     simp only [Option.bind_some, Sum.elim_inl]
     have part : ∃ ys, ((FkpartitionOrdered_int N ((a : Int), (b : Int), (p2 : Int), x3, ())).bind fun r20 =>
       bif decide ((8 : Int) = 0) then none else
       bif decide (w64 (r20.1 - (a : Int)) < w64 ((b : Int) - r20.1)) then
        (FkpdqsortOrdered_int N (m + 1) ((a : Int), r20.1, (l1 : Int), r20.2.2.1, ())).bind fun r23 =>
        lkpdqsortOrdered_int_0 N (fun x_ => FkpdqsortOrdered_int N (m + 1) x_) n (w64 (r20.1 + 1), (b : Int), (l1 : Int), decide (w64 (r20.1 - (a : Int)) ≥ w64 (Int.tdiv ((b - a : Nat) : Int) 8)), r20.2.1, r23.1, ())
       else
        (FkpdqsortOrdered_int N (m + 1) (w64 (r20.1 + 1), (b : Int), (l1 : Int), r20.2.2.1, ())).bind fun r25 =>
        lkpdqsortOrdered_int_0 N (fun x_ => FkpdqsortOrdered_int N (m + 1) x_) n ((a : Int), r20.1, (l1 : Int), decide (w64 ((b : Int) - r20.1) ≥ w64 (Int.tdiv ((b - a : Nat) : Int) 8)), r20.2.1, r25.1, ())) = some (ys, ()) ∧
       Go.Sort.PermIn a b x3.toArray ys.toArray ∧ Go.Sort.SortedIn ltI a b ys.toArray := by
      have e := po_ok hN (a := a) (b := b) (p := p2) (xs := x3) (by omega) (by omega) (by omega) hp4
      obtain ⟨mid, ap, d4, hx⟩ : ∃ mid ap d4, Go.Sort.partition ltI x3.toArray a b p2 = (mid, ap, d4) := ⟨_, _, _, rfl⟩
      obtain ⟨g1, g2, hs4, hBa, hBr, hleft, hright⟩ := Go.Sort.round_part (lt := ltI) Go.Sort.swo_ltInt (Go.Sort.partition_holds ltI) hp3 hp4 hb3 B3 hx
      rw [hx] at e
      have z4 : d4.toList.length = xs.length := by rw [Array.length_toList, hs4]; simpa using z3
      have w1 : w64 ((mid : Int) - (a : Int)) = ((mid - a : Nat) : Int) := wn (by omega) (by omega)
      have w2 : w64 ((b : Int) - (mid : Int)) = ((b - mid : Nat) : Int) := wn (by omega) (by omega)
      have w3 : w64 ((mid : Int) + 1) = ((mid + 1 : Nat) : Int) := wn (by omega) (by omega)
      simp only [e, Option.bind_some, show decide ((8 : Int) = 0) = false from rfl, cond_false, w1, w2, w3]
      have call : ∀ (a' b' : Nat) (zs : List Int), b' - a' ≤ k - 1 → a' ≤ b' → b' ≤ zs.length → zs.length ≤ 255 → Go.Sort.Below ltI a' b' zs.toArray →
        ∃ ys, FkpdqsortOrdered_int N (m + 1) ((a' : Int), (b' : Int), (l1 : Int), zs, ()) = some (ys, ()) ∧ Go.Sort.PermIn a' b' zs.toArray ys.toArray ∧ Go.Sort.SortedIn ltI a' b' ys.toArray := by
       intro a' b' zs h1 h2 h3 h4 h5
       obtain ⟨ys, q1, q2⟩ := pdq_main (b' - a') m N a' b' l1 true true zs (Nat.le_refl _) (by omega) (by omega) h2 h3 h4 hl1 h5
       exact ⟨ys, by rw [FkpdqsortOrdered_int]; simp only [q1, Option.bind_some], q2⟩
      by_cases c : mid - a < b - mid
      ·have c' : ((mid - a : Nat) : Int) < ((b - mid : Nat) : Int) := by omega
       obtain ⟨L, q1, q2, q3⟩ := call a mid d4.toList (by omega) g1 (by omega) (by omega) (by rw [Array.toArray_toList]; exact hBa)
       rw [Array.toArray_toList] at q2
       obtain ⟨hBL, hfin⟩ := hleft _ q2 q3
       have zL : L.length = xs.length := by have := q2.1; rw [hs4] at this; simp at this; omega
       simp only [c', decide_true, cond_true, q1, Option.bind_some]
       obtain ⟨R, r1, r2, r3⟩ := pdq_main (k - 1) (m + 1) n (mid + 1) b l1 (decide (((mid - a : Nat) : Int) ≥ w64 (Int.tdiv ((b - a : Nat) : Int) 8))) ap L (by omega) (by omega) (by omega) (by omega) (by omega) (by omega) hl1 hBL
       exact ⟨R, r1, hfin _ r2 r3⟩
      ·have c' : ¬ ((mid - a : Nat) : Int) < ((b - mid : Nat) : Int) := by omega
       obtain ⟨L, q1, q2, q3⟩ := call (mid + 1) b d4.toList (by omega) (by omega) (by omega) (by omega) (by rw [Array.toArray_toList]; exact hBr)
       rw [Array.toArray_toList] at q2
       obtain ⟨hBL, hfin⟩ := hright _ q2 q3
       have zL : L.length = xs.length := by have := q2.1; rw [hs4] at this; simp at this; omega
       simp only [c', decide_false, cond_false, q1, Option.bind_some]
       obtain ⟨R, r1, r2, r3⟩ := pdq_main (k - 1) (m + 1) n a mid l1 (decide (((b - mid : Nat) : Int) ≥ w64 (Int.tdiv ((b - a : Nat) : Int) 8))) ap L (by omega) (by omega) (by omega) g1 (by omega) (by omega) hl1 hBL
       exact ⟨R, r1, hfin _ r2 r3⟩
     have fin : ∀ ys : List Int, Go.Sort.PermIn a b x3.toArray ys.toArray ∧ Go.Sort.SortedIn ltI a b ys.toArray → Go.Sort.PermIn a b xs.toArray ys.toArray ∧ Go.Sort.SortedIn ltI a b ys.toArray := fun ys h => ⟨Go.Sort.permIn_trans _ _ _ a b P03 h.1, h.2⟩
     by_cases ca : a > 0
     ·have ca' : (a : Int) > 0 := by omega
      have w1 : w64 ((a : Int) - 1) = ((a - 1 : Nat) : Int) := wn (by omega) (by omega)
      have p5 : a - 1 < x3.length := by omega
      have p6 : p2 < x3.length := by omega
      simp only [ca', decide_true, cond_true, w1, Int.natCast_nonneg, Int.toNat_natCast, p5, p6, less_ok, Option.bind_some]
      cases hc : ltI (x3.getD (a - 1) 0) (x3.getD p2 0) with
      | true =>
       simp only [Bool.not_true, cond_false, Option.bind_some, Sum.elim_inr]
       obtain ⟨ys, e, hh⟩ := part
       exact ⟨ys, e, fin ys hh⟩
      | false =>
       obtain ⟨mid, d4, hx⟩ : ∃ mid d4, Go.Sort.partitionEqual ltI x3.toArray a b p2 = (mid, d4) := ⟨_, _, rfl⟩
       obtain ⟨g1, g2, hs4, hB4, hfin⟩ := Go.Sort.round_eq (lt := ltI) Go.Sort.swo_ltInt (Go.Sort.partitionEqual_holds ltI) ca hp3 hp4 hb3 B3 (by rw [arr_get, arr_get]; exact hc) hx
       have e := pe_ok hN (a := a) (b := b) (p := p2) (xs := x3) (by omega) (by omega) (by omega) hp4
       rw [hx] at e
       have z4 : d4.toList.length = xs.length := by rw [Array.length_toList, hs4]; simpa using z3
       simp only [Bool.not_false, cond_true, e, Option.bind_some, Sum.elim_inl]
       obtain ⟨R, r1, r2, r3⟩ := pdq_main (k - 1) (m + 1) n mid b l1 wb wp d4.toList (by omega) (by omega) (by omega) g2 (by omega) (by omega) hl1 (by rw [Array.toArray_toList]; exact hB4)
       rw [Array.toArray_toList] at r2
       exact ⟨R, r1, fin R (hfin _ r2 r3)⟩
     ·have ca' : ¬ (a : Int) > 0 := by omega
      simp only [ca', decide_false, cond_false, Option.bind_some, Sum.elim_inr]
      obtain ⟨ys, e, hh⟩ := part
      exact ⟨ys, e, fin ys hh⟩
    ·rw [hs]
     exact ⟨x3, by simp only [Option.bind_some, Sum.elim_inr], P03, hsort⟩
termination_by k => k
decreasing_by all_goals omega
theorem kSort_ok {xs : List Int} (hl : xs.length ≤ 255) : FkSort_Sint_int N (xs, ()) = some (xs.mergeSort (fun x y => decide (x ≤ y)), ()) := by
 have hw : IntKind.wrap .u64 (xs.length : Int) = (xs.length : Int) := wrapU (by omega) (by omega)
 obtain ⟨t, e1, ht⟩ := ln_ok (N := N) (l := xs.length) hl
 obtain ⟨M, hM⟩ : ∃ M, N = M + 1 := ⟨N - 1, by omega⟩
 obtain ⟨ys, e2, hP, hS⟩ := pdq_main hN xs.length M N 0 xs.length t true true xs (by omega) (by rw [lim_eq] at hN; omega) (by rw [lim_eq] at hN; omega) (by omega) (Nat.le_refl _) hl ht (Or.inl rfl)
 have e3 : FkpdqsortOrdered_int N N (0, (xs.length : Int), (t : Int), xs, ()) = some (ys, ()) := by
  conv => lhs; arg 2; rw [hM]
  rw [FkpdqsortOrdered_int]
  simp only [Int.natCast_zero] at e2
  simp only [e2, Option.bind_some]
 have e4 := Go.Sort.sorted_unique_holds (lt := ltI) Go.Sort.swo_ltInt (fun x y h1 h2 => by simp only [Go.Sort.ltInt, decide_eq_false_iff_not] at h1 h2; omega) xs.toArray ys.toArray (by simpa using hP) (by simpa using hS)
 have e5 : ys = xs.mergeSort (fun x y => decide (x ≤ y)) := by
  have : (fun x y => !ltI y x) = (fun (x y : Int) => decide (x ≤ y)) := by
   funext x y
   show (!decide (y < x)) = decide (x ≤ y)
   by_cases h : x ≤ y
   ·have : ¬ y < x := by omega
    simp [h, this]
   ·have : y < x := by omega
    simp [h, this]
  rw [this] at e4
  simpa using e4
 simp only [FkSort_Sint_int, hw, e1, e3, Option.bind_some, e5]
end
section
variable {N : Nat} (hN : lim < N)
include hN
theorem wszIntS_ok {xs : (List Int)} {left : Int} (hx : Wf tIntS xs) (h0 : 0 ≤ left) (h1 : left ≤ 1048576) : ∃ r, FvszIntS N (xs, left, ()) = some (r, ()) ∧ (r < 0 ∨ (0 ≤ r ∧ r ≤ left ∧ lnT tIntS xs)) := by
 have hx1 := hx.1
 simp only [maxLen] at hx1
 simp only [FvszIntS]
 rw [w64_id (by omega) (by omega)]
 by_cases h : left - (xs.length : Int) < 0
 ·simp [h]
 ·refine ⟨left - (xs.length : Int), by simp [h], .inr ⟨by omega, by omega, by omega, fun x _ => ?_⟩⟩
  simp [lnT]
end
section
variable {N : Nat} (hN : lim < N)
include hN
theorem wszRegionS_ok {xs : (List (Int × Int × Int × Int × Int × Unit))} {left : Int} (hx : Wf tRegionS xs) (h0 : 0 ≤ left) (h1 : left ≤ 1048576) : ∃ r, FvszRegionS N (xs, left, ()) = some (r, ()) ∧ (r < 0 ∨ (0 ≤ r ∧ r ≤ left ∧ lnT tRegionS xs)) := by
 have hx1 := hx.1
 simp only [maxLen] at hx1
 simp only [FvszRegionS]
 rw [w64_id (by omega) (by omega)]
 by_cases h : left - (xs.length : Int) < 0
 ·simp [h]
 ·refine ⟨left - (xs.length : Int), by simp [h], .inr ⟨by omega, by omega, by omega, fun x _ => ?_⟩⟩
  simp [lnT]
end
section
variable {N : Nat} (hN : lim < N)
include hN
theorem wszBoolS_ok {xs : (List Bool)} {left : Int} (hx : Wf tBoolS xs) (h0 : 0 ≤ left) (h1 : left ≤ 1048576) : ∃ r, FvszBoolS N (xs, left, ()) = some (r, ()) ∧ (r < 0 ∨ (0 ≤ r ∧ r ≤ left ∧ lnT tBoolS xs)) := by
 have hx1 := hx.1
 simp only [maxLen] at hx1
 simp only [FvszBoolS]
 rw [w64_id (by omega) (by omega)]
 by_cases h : left - (xs.length : Int) < 0
 ·simp [h]
 ·refine ⟨left - (xs.length : Int), by simp [h], .inr ⟨by omega, by omega, by omega, fun x _ => ?_⟩⟩
  simp [lnT]
end
section
variable {N : Nat} (hN : lim < N)
include hN
theorem wszThread_ok {x : ((List Int) × Int × Bool × Int × Unit)} {left : Int} (hx : Wf tThread x) (h0 : 0 ≤ left) (h1 : left ≤ 1048576) : ∃ r, FvszThread N (x, left, ()) = some (r, ()) ∧ (r < 0 ∨ (0 ≤ r ∧ r ≤ left ∧ lnT tThread x)) := by
 obtain ⟨r0, e0, h⟩ := wszIntS_ok hN hx.1 h0 (by omega)
 rcases h with h | ⟨c0, d0, l0⟩
 ·exact ⟨-1, by simp [FvszThread, e0, h], by simp⟩
 have n0 : ¬ r0 < 0 := by omega
 exact ⟨r0, by simp [FvszThread, e0, n0], .inr ⟨c0, by omega, l0, by simp [lnT], by simp [lnT], by simp [lnT], trivial⟩⟩
end
section
variable {N : Nat} (hN : lim < N)
include hN
theorem wszThreadS_ok {xs : (List ((List Int) × Int × Bool × Int × Unit))} {left : Int} (hx : Wf tThreadS xs) (h0 : 0 ≤ left) (h1 : left ≤ 1048576) : ∃ r, FvszThreadS N (xs, left, ()) = some (r, ()) ∧ (r < 0 ∨ (0 ≤ r ∧ r ≤ left ∧ lnT tThreadS xs)) := by
 have := sz_loop (xs := xs) (lnT tThread) (L := fun n i l => lvszThreadS_0 N n (xs, l, (i : Int), ())) hN (by have := hx.1; simp only [maxLen] at this; omega) h0 h1
  (fun n i h left h0 h1 hw => by
   obtain ⟨r1, e1, h2⟩ := wszThread_ok hN (hx.2 xs[i] (List.getElem_mem h)) h0 h1
   simp only [lvszThreadS_0, Int.ofNat_lt, h, decide_true, cond_true, Int.natCast_nonneg, Int.toNat_natCast, getD_lt h, e1, Option.bind_some, hw]
   rcases h2 with h2 | ⟨h2, h3, h4⟩
   ·left; simp [h2]
   ·right; exact ⟨r1, h2, h3, h4, by simp [Int.not_lt.2 h2]⟩)
  (fun n left => by simp [lvszThreadS_0])
 simp only [Int.natCast_zero] at this
 exact this
end
section
variable {N : Nat} (hN : lim < N)
include hN
theorem wszState_ok {x : ((List Int) × (List (Int × Int × Int × Int × Int × Unit)) × (List Bool) × Int × Bool × Bool × Bool × Int × (List ((List Int) × Int × Bool × Int × Unit)) × (List Int) × (List Int) × Int × Int × Unit)} {left : Int} (hx : Wf tState x) (h0 : 0 ≤ left) (h1 : left ≤ 1048576) : ∃ r, FvszState N (x, left, ()) = some (r, ()) ∧ (r < 0 ∨ (0 ≤ r ∧ r ≤ left ∧ lnT tState x)) := by
 obtain ⟨r0, e0, h⟩ := wszIntS_ok hN hx.1 h0 (by omega)
 rcases h with h | ⟨c0, d0, l0⟩
 ·exact ⟨-1, by simp [FvszState, e0, h], by simp⟩
 have n0 : ¬ r0 < 0 := by omega
 obtain ⟨r1, e1, h⟩ := wszRegionS_ok hN hx.2.1 c0 (by omega)
 rcases h with h | ⟨c1, d1, l1⟩
 ·exact ⟨-1, by simp [FvszState, e0, e1, n0, h], by simp⟩
 have n1 : ¬ r1 < 0 := by omega
 obtain ⟨r2, e2, h⟩ := wszBoolS_ok hN hx.2.2.1 c1 (by omega)
 rcases h with h | ⟨c2, d2, l2⟩
 ·exact ⟨-1, by simp [FvszState, e0, e1, e2, n0, n1, h], by simp⟩
 have n2 : ¬ r2 < 0 := by omega
 obtain ⟨r3, e3, h⟩ := wszThreadS_ok hN hx.2.2.2.2.2.2.2.2.1 c2 (by omega)
 rcases h with h | ⟨c3, d3, l3⟩
 ·exact ⟨-1, by simp [FvszState, e0, e1, e2, e3, n0, n1, n2, h], by simp⟩
 have n3 : ¬ r3 < 0 := by omega
 obtain ⟨r4, e4, h⟩ := wszIntS_ok hN hx.2.2.2.2.2.2.2.2.2.1 c3 (by omega)
 rcases h with h | ⟨c4, d4, l4⟩
 ·exact ⟨-1, by simp [FvszState, e0, e1, e2, e3, e4, n0, n1, n2, n3, h], by simp⟩
 have n4 : ¬ r4 < 0 := by omega
 obtain ⟨r5, e5, h⟩ := wszIntS_ok hN hx.2.2.2.2.2.2.2.2.2.2.1 c4 (by omega)
 rcases h with h | ⟨c5, d5, l5⟩
 ·exact ⟨-1, by simp [FvszState, e0, e1, e2, e3, e4, e5, n0, n1, n2, n3, n4, h], by simp⟩
 have n5 : ¬ r5 < 0 := by omega
 exact ⟨r5, by simp [FvszState, e0, e1, e2, e3, e4, e5, n0, n1, n2, n3, n4, n5], .inr ⟨c5, by omega, l0, l1, l2, by simp [lnT], by simp [lnT], by simp [lnT], by simp [lnT], by simp [lnT], l3, l4, l5, by simp [lnT], by simp [lnT], trivial⟩⟩
end
section
variable {N : Nat} (hN : lim < N)
include hN
theorem wtoIntS_ok {xs : (List Int)} (hx : lnT tIntS xs) : FvtoIntS N (xs, ()) = some (xs, ()) := by
 have hlim : lim = 2147483648 := rfl
 have hl : xs.length ≤ lim := by have := hx.1; omega
 have hL := fill_loop (xs := xs) (n := N) id (L := fun n i s => lvtoIntS_0 N n (xs, (i : Int), s, ())) (fin := fun s => (s, ())) hl
  (fun n i s h hw hs => by
   have hs' : i < s.length := by omega
   simp [lvtoIntS_0, h, hs', hw])
  (fun n s hs => by simp [lvtoIntS_0]) (by omega) (s := List.replicate xs.length (0 : Int)) (by simp)
 simp only [Int.natCast_zero] at hL
 simp [FvtoIntS, hL, hl]
end
section
variable {N : Nat} (hN : lim < N)
include hN
theorem wtoRegion_ok {x : (Int × Int × Int × Int × Int × Unit)} (hx : lnT tRegion x) : FvtoRegion N (x, ()) = some (x.1, x.2.1, x.2.2.1, x.2.2.2.1, x.2.2.2.2.1, ()) := by
 simp [FvtoRegion]
end
section
variable {N : Nat} (hN : lim < N)
include hN
theorem wtoRegionS_ok {xs : (List (Int × Int × Int × Int × Int × Unit))} (hx : lnT tRegionS xs) : FvtoRegionS N (xs, ()) = some (xs, ()) := by
 have hlim : lim = 2147483648 := rfl
 have hl : xs.length ≤ lim := by have := hx.1; omega
 have hL := fill_loop (xs := xs) (n := N) id (L := fun n i s => lvtoRegionS_0 N n (xs, (i : Int), s, ())) (fin := fun s => (s, ())) hl
  (fun n i s h hw hs => by
   have hs' : i < s.length := by omega
   simp [lvtoRegionS_0, h, hs', hw, wtoRegion_ok hN (hx.2 xs[i] (List.getElem_mem h))])
  (fun n s hs => by simp [lvtoRegionS_0]) (by omega) (s := List.replicate xs.length ((0 : Int), (0 : Int), (0 : Int), (0 : Int), (0 : Int), ())) (by simp)
 simp only [Int.natCast_zero] at hL
 simp [FvtoRegionS, hL, hl]
end
section
variable {N : Nat} (hN : lim < N)
include hN
theorem wtoBoolS_ok {xs : (List Bool)} (hx : lnT tBoolS xs) : FvtoBoolS N (xs, ()) = some (xs, ()) := by
 have hlim : lim = 2147483648 := rfl
 have hl : xs.length ≤ lim := by have := hx.1; omega
 have hL := fill_loop (xs := xs) (n := N) id (L := fun n i s => lvtoBoolS_0 N n (xs, (i : Int), s, ())) (fin := fun s => (s, ())) hl
  (fun n i s h hw hs => by
   have hs' : i < s.length := by omega
   simp [lvtoBoolS_0, h, hs', hw])
  (fun n s hs => by simp [lvtoBoolS_0]) (by omega) (s := List.replicate xs.length false) (by simp)
 simp only [Int.natCast_zero] at hL
 simp [FvtoBoolS, hL, hl]
end
section
variable {N : Nat} (hN : lim < N)
include hN
theorem wtoThread_ok {x : ((List Int) × Int × Bool × Int × Unit)} (hx : lnT tThread x) : FvtoThread N (x, ()) = some (x.2.1, x.2.2.1, x.2.2.2.1, x.1, ()) := by
 simp [FvtoThread, wtoIntS_ok hN hx.1]
end
section
variable {N : Nat} (hN : lim < N)
include hN
theorem wtoThreadS_ok {xs : (List ((List Int) × Int × Bool × Int × Unit))} (hx : lnT tThreadS xs) : FvtoThreadS N (xs, ()) = some (xs, ()) := by
 have hlim : lim = 2147483648 := rfl
 have hl : xs.length ≤ lim := by have := hx.1; omega
 have hL := fill_loop (xs := xs) (n := N) id (L := fun n i s => lvtoThreadS_0 N n (xs, (i : Int), s, ())) (fin := fun s => (s, ())) hl
  (fun n i s h hw hs => by
   have hs' : i < s.length := by omega
   simp [lvtoThreadS_0, h, hs', hw, wtoThread_ok hN (hx.2 xs[i] (List.getElem_mem h))])
  (fun n s hs => by simp [lvtoThreadS_0]) (by omega) (s := List.replicate xs.length (([] : (List Int)), (0 : Int), false, (0 : Int), ())) (by simp)
 simp only [Int.natCast_zero] at hL
 simp [FvtoThreadS, hL, hl]
end
section
variable {N : Nat} (hN : lim < N)
include hN
theorem wtoState_ok {x : ((List Int) × (List (Int × Int × Int × Int × Int × Unit)) × (List Bool) × Int × Bool × Bool × Bool × Int × (List ((List Int) × Int × Bool × Int × Unit)) × (List Int) × (List Int) × Int × Int × Unit)} (hx : lnT tState x) : FvtoState N (x, ()) = some (x.2.2.2.1, x.2.2.2.2.1, x.2.2.2.2.2.1, x.2.2.2.2.2.2.1, x.2.2.2.2.2.2.2.1, x.2.2.2.2.2.2.2.2.2.2.2.1, x.2.2.2.2.2.2.2.2.2.2.2.2.1, x.1, x.2.1, x.2.2.1, x.2.2.2.2.2.2.2.2.1, x.2.2.2.2.2.2.2.2.2.1, x.2.2.2.2.2.2.2.2.2.2.1, ()) := by
 simp [FvtoState, wtoIntS_ok hN hx.1, wtoRegionS_ok hN hx.2.1, wtoBoolS_ok hN hx.2.2.1, wtoThreadS_ok hN hx.2.2.2.2.2.2.2.2.1, wtoIntS_ok hN hx.2.2.2.2.2.2.2.2.2.1, wtoIntS_ok hN hx.2.2.2.2.2.2.2.2.2.2.1]
end
section
variable {N : Nat} (hN : lim < N)
include hN
theorem weqIntS_ok {xs ys : (List Int)} (hx : lnT tIntS xs) : FveqIntS N (xs, ys, ()) = some (decide (xs = ys), ()) := by
 have hlim : lim = 2147483648 := rfl
 have hl : xs.length ≤ lim := by have := hx.1; omega
 by_cases hlen : xs.length = ys.length
 ·have hL := eq_loop (xs := xs) (ys := ys) (n := N) (L := fun n i => lveqIntS_0 N n (xs, ys, (i : Int), ())) (yes := .inl ()) (no := .inr (false, ())) hl hlen
   (fun n i h1 h2 hw hq => by
    simp [lveqIntS_0, h1, h2, hw, hq])
   (fun n i h1 h2 hq => by simp [lveqIntS_0, h1, h2, hq])
   (fun n => by simp [lveqIntS_0, hlen]) (by omega)
  simp only [Int.natCast_zero] at hL
  rcases Decidable.em (xs = ys) with rfl | h
  ·simp [FveqIntS, hL]
  ·simp [FveqIntS, hL, h, hlen]
 ·have h : xs ≠ ys := fun h => hlen (by rw [h])
  have h2 : (xs.length : Int) ≠ ys.length := by omega
  simp [FveqIntS, h, h2]
end
section
variable {N : Nat} (hN : lim < N)
include hN
theorem weqRegion_ok {x y : (Int × Int × Int × Int × Int × Unit)} (hx : lnT tRegion x) : FveqRegion N (x, y, ()) = some (decide (x = y), ()) := by
 obtain ⟨xa, xb, xc, xd, xe, ⟨⟩⟩ := x
 obtain ⟨ya, yb, yc, yd, ye, ⟨⟩⟩ := y
 simp only [FveqRegion, Option.bind_some, ne_step, not_step, bool_beq]
 simp only [Prod.mk.injEq, Bool.decide_and, and_true, Bool.and_true, decide_true]
end
section
variable {N : Nat} (hN : lim < N)
include hN
theorem weqRegionS_ok {xs ys : (List (Int × Int × Int × Int × Int × Unit))} (hx : lnT tRegionS xs) : FveqRegionS N (xs, ys, ()) = some (decide (xs = ys), ()) := by
 have hlim : lim = 2147483648 := rfl
 have hl : xs.length ≤ lim := by have := hx.1; omega
 by_cases hlen : xs.length = ys.length
 ·have hL := eq_loop (xs := xs) (ys := ys) (n := N) (L := fun n i => lveqRegionS_0 N n (xs, ys, (i : Int), ())) (yes := .inl ()) (no := .inr (false, ())) hl hlen
   (fun n i h1 h2 hw hq => by
    have e := weqRegion_ok hN (y := ys[i]) (hx.2 _ (List.getElem_mem h1))
    rw [decide_eq_true hq] at e
    simp [lveqRegionS_0, h1, h2, hw, e])
   (fun n i h1 h2 hq => by simp [lveqRegionS_0, h1, h2, hq, weqRegion_ok hN (y := ys[i]) (hx.2 _ (List.getElem_mem h1))])
   (fun n => by simp [lveqRegionS_0, hlen]) (by omega)
  simp only [Int.natCast_zero] at hL
  rcases Decidable.em (xs = ys) with rfl | h
  ·simp [FveqRegionS, hL]
  ·simp [FveqRegionS, hL, h, hlen]
 ·have h : xs ≠ ys := fun h => hlen (by rw [h])
  have h2 : (xs.length : Int) ≠ ys.length := by omega
  simp [FveqRegionS, h, h2]
end
section
variable {N : Nat} (hN : lim < N)
include hN
theorem weqBoolS_ok {xs ys : (List Bool)} (hx : lnT tBoolS xs) : FveqBoolS N (xs, ys, ()) = some (decide (xs = ys), ()) := by
 have hlim : lim = 2147483648 := rfl
 have hl : xs.length ≤ lim := by have := hx.1; omega
 by_cases hlen : xs.length = ys.length
 ·have hL := eq_loop (xs := xs) (ys := ys) (n := N) (L := fun n i => lveqBoolS_0 N n (xs, ys, (i : Int), ())) (yes := .inl ()) (no := .inr (false, ())) hl hlen
   (fun n i h1 h2 hw hq => by
    simp [lveqBoolS_0, h1, h2, hw, hq])
   (fun n i h1 h2 hq => by simp [lveqBoolS_0, h1, h2, hq])
   (fun n => by simp [lveqBoolS_0, hlen]) (by omega)
  simp only [Int.natCast_zero] at hL
  rcases Decidable.em (xs = ys) with rfl | h
  ·simp [FveqBoolS, hL]
  ·simp [FveqBoolS, hL, h, hlen]
 ·have h : xs ≠ ys := fun h => hlen (by rw [h])
  have h2 : (xs.length : Int) ≠ ys.length := by omega
  simp [FveqBoolS, h, h2]
end
section
variable {N : Nat} (hN : lim < N)
include hN
theorem weqThread_ok {x y : ((List Int) × Int × Bool × Int × Unit)} (hx : lnT tThread x) : FveqThread N (x, y, ()) = some (decide (x = y), ()) := by
 obtain ⟨xa, xb, xc, xd, ⟨⟩⟩ := x
 obtain ⟨ya, yb, yc, yd, ⟨⟩⟩ := y
 simp only [FveqThread, Option.bind_some, weqIntS_ok hN hx.1, ne_step, not_step, bool_beq]
 simp only [Prod.mk.injEq, Bool.decide_and, and_true, Bool.and_true, decide_true]
end
section
variable {N : Nat} (hN : lim < N)
include hN
theorem weqThreadS_ok {xs ys : (List ((List Int) × Int × Bool × Int × Unit))} (hx : lnT tThreadS xs) : FveqThreadS N (xs, ys, ()) = some (decide (xs = ys), ()) := by
 have hlim : lim = 2147483648 := rfl
 have hl : xs.length ≤ lim := by have := hx.1; omega
 by_cases hlen : xs.length = ys.length
 ·have hL := eq_loop (xs := xs) (ys := ys) (n := N) (L := fun n i => lveqThreadS_0 N n (xs, ys, (i : Int), ())) (yes := .inl ()) (no := .inr (false, ())) hl hlen
   (fun n i h1 h2 hw hq => by
    have e := weqThread_ok hN (y := ys[i]) (hx.2 _ (List.getElem_mem h1))
    rw [decide_eq_true hq] at e
    simp [lveqThreadS_0, h1, h2, hw, e])
   (fun n i h1 h2 hq => by simp [lveqThreadS_0, h1, h2, hq, weqThread_ok hN (y := ys[i]) (hx.2 _ (List.getElem_mem h1))])
   (fun n => by simp [lveqThreadS_0, hlen]) (by omega)
  simp only [Int.natCast_zero] at hL
  rcases Decidable.em (xs = ys) with rfl | h
  ·simp [FveqThreadS, hL]
  ·simp [FveqThreadS, hL, h, hlen]
 ·have h : xs ≠ ys := fun h => hlen (by rw [h])
  have h2 : (xs.length : Int) ≠ ys.length := by omega
  simp [FveqThreadS, h, h2]
end
section
variable {N : Nat} (hN : lim < N)
include hN
theorem weqState_ok {x y : ((List Int) × (List (Int × Int × Int × Int × Int × Unit)) × (List Bool) × Int × Bool × Bool × Bool × Int × (List ((List Int) × Int × Bool × Int × Unit)) × (List Int) × (List Int) × Int × Int × Unit)} (hx : lnT tState x) : FveqState N (x, y, ()) = some (decide (x = y), ()) := by
 obtain ⟨xa, xb, xc, xd, xe, xf, xg, xh, xi, xj, xk, xl, xm, ⟨⟩⟩ := x
 obtain ⟨ya, yb, yc, yd, ye, yf, yg, yh, yi, yj, yk, yl, ym, ⟨⟩⟩ := y
 simp only [FveqState, Option.bind_some, weqIntS_ok hN hx.1, weqRegionS_ok hN hx.2.1, weqBoolS_ok hN hx.2.2.1, weqThreadS_ok hN hx.2.2.2.2.2.2.2.2.1, weqIntS_ok hN hx.2.2.2.2.2.2.2.2.2.1, weqIntS_ok hN hx.2.2.2.2.2.2.2.2.2.2.1, ne_step, not_step, bool_beq]
 simp only [Prod.mk.injEq, Bool.decide_and, and_true, Bool.and_true, decide_true]
end
section
variable {N : Nat} (hN : lim < N)
include hN
theorem wheldIntS_ok {k : Int} {xs : (List Int)} (hx : lnT tIntS xs) (h0 : 0 ≤ k) (h1 : k + bndT tIntS ≤ 4611686018427387904) : FvheldIntS N ((markE tIntS k xs).2, k, ()) = some ((markE tIntS k xs).1, ()) := by
 have hlim : lim = 2147483648 := rfl
 have hx1 := hx.1
 have hL := held_loop (f := markE (.int .i64)) (P := lnT (.int .i64)) (B := bndT (.int .i64)) (xs := xs) (n := N) (k := k) (L := fun n s k i => lvheldIntS_0 N n (s, k, (i : Int), ())) (fin := fun k => .inl (k, ())) (by omega) hx.2 (bndT_nn _) (fun k x hx => markE_rng k hx)
  (fun n k i s h x hg hP hk0 hk hw => by
   have hb := hk; simp only [bndT] at hb
   have w0 : w64 (k + 1) = k + 1 := w64_id (by omega) (by omega)
   have hE : markE (.int .i64) k x = (k + 1, k) := rfl
   rw [hE] at hg ⊢
   simp only [lvheldIntS_0, Int.ofNat_lt, h, decide_true, cond_true, Int.natCast_nonneg, Int.toNat_natCast, getD_lt h, hg, hw, Option.bind_some, w0, bif_bne, if_true, decide_false, cond_false, beq_self_eq_true, Bool.not_true, show decide ((3 : Int) = 0) = false from rfl])
  (fun n k s => by simp [lvheldIntS_0]) (by omega) h0 (by
   have : bndT (.int .i64) * (xs.length : Int) ≤ bndT (.int .i64) * 1048576 := Int.mul_le_mul_of_nonneg_left (by omega) (bndT_nn _)
   have e2 : bndT tIntS = 1048576 * bndT (.int .i64) := rfl
   omega)
 simp only [Int.natCast_zero] at hL
 unfold FvheldIntS
 dsimp only
 rw [show markE tIntS k xs = mkS (markE (.int .i64)) k xs from rfl, hL]
 rfl
end
section
variable {N : Nat} (hN : lim < N)
include hN
theorem wmarkIntS_ok {k : Int} {xs : (List Int)} (hx : lnT tIntS xs) (h0 : 0 ≤ k) (h1 : k + bndT tIntS ≤ 4611686018427387904) : FvmarkIntS N (k, xs, ()) = some ((markE tIntS k xs).1, (markE tIntS k xs).2, ()) := by
 have hlim : lim = 2147483648 := rfl
 have hx1 := hx.1
 have hL := mark_loop (f := markE (.int .i64)) (P := lnT (.int .i64)) (B := bndT (.int .i64)) (xs := xs) (n := N) (k := k) (L := fun n k i s => lvmarkIntS_0 N n (k, (i : Int), s, ())) (fin := fun k s => (k, s, ())) (by omega) hx.2 (bndT_nn _) (fun k x hx => markE_rng k hx)
  (fun n k i s h hP hk0 hk hw => by
   have hb := hk; simp only [bndT] at hb
   have w0 : w64 (k + 1) = k + 1 := w64_id (by omega) (by omega)
   simp only [lvmarkIntS_0, Int.ofNat_lt, h, decide_true, cond_true, Int.natCast_nonneg, Int.toNat_natCast, List.length_set, getD_set_i h, List.set_set, getD_lt h, hw, Option.bind_some, w0, show decide ((3 : Int) = 0) = false from rfl, cond_false]
   try simp only [markE])
  (fun n k s => by simp [lvmarkIntS_0]) (by omega) h0 (by
   have : bndT (.int .i64) * (xs.length : Int) ≤ bndT (.int .i64) * 1048576 := Int.mul_le_mul_of_nonneg_left (by omega) (bndT_nn _)
   have e2 : bndT tIntS = 1048576 * bndT (.int .i64) := rfl
   omega)
 simp only [Int.natCast_zero] at hL
 simp only [FvmarkIntS, hL, Option.bind_some, markE]
end
section
variable {N : Nat} (hN : lim < N)
include hN
theorem wmarkRegionS_ok {k : Int} {xs : (List (Int × Int × Int × Int × Int × Unit))} (hx : lnT tRegionS xs) (h0 : 0 ≤ k) (h1 : k + bndT tRegionS ≤ 4611686018427387904) : FvmarkRegionS N (k, xs, ()) = some ((markE tRegionS k xs).1, (markE tRegionS k xs).2, ()) := by
 have hlim : lim = 2147483648 := rfl
 have hx1 := hx.1
 have hL := mark_loop (f := markE tRegion) (P := lnT tRegion) (B := bndT tRegion) (xs := xs) (n := N) (k := k) (L := fun n k i s => lvmarkRegionS_0 N n (k, (i : Int), s, ())) (fin := fun k s => (k, s, ())) (by omega) hx.2 (bndT_nn _) (fun k x hx => markE_rng k hx)
  (fun n k i s h hP hk0 hk hw => by
   have hb := hk; simp only [bndT] at hb
   have w0 : w64 (k + 1) = k + 1 := w64_id (by omega) (by omega)
   have w1 : w64 (k + 1 + 1) = k + 1 + 1 := w64_id (by omega) (by omega)
   have w2 : w64 (k + 1 + 1 + 1) = k + 1 + 1 + 1 := w64_id (by omega) (by omega)
   have w3 : w64 (k + 1 + 1 + 1 + 1) = k + 1 + 1 + 1 + 1 := w64_id (by omega) (by omega)
   have w4 : w64 (k + 1 + 1 + 1 + 1 + 1) = k + 1 + 1 + 1 + 1 + 1 := w64_id (by omega) (by omega)
   simp only [lvmarkRegionS_0, Int.ofNat_lt, h, decide_true, cond_true, Int.natCast_nonneg, Int.toNat_natCast, List.length_set, getD_set_i h, List.set_set, getD_lt h, hw, Option.bind_some, w0, w1, w2, w3, w4, show decide ((3 : Int) = 0) = false from rfl, cond_false]
   try simp only [markE])
  (fun n k s => by simp [lvmarkRegionS_0]) (by omega) h0 (by
   have : bndT tRegion * (xs.length : Int) ≤ bndT tRegion * 1048576 := Int.mul_le_mul_of_nonneg_left (by omega) (bndT_nn _)
   have e2 : bndT tRegionS = 1048576 * bndT tRegion := rfl
   omega)
 simp only [Int.natCast_zero] at hL
 simp only [FvmarkRegionS, hL, Option.bind_some, markE]
end
section
variable {N : Nat} (hN : lim < N)
include hN
theorem wmarkBoolS_ok {k : Int} {xs : (List Bool)} (hx : lnT tBoolS xs) (h0 : 0 ≤ k) (h1 : k + bndT tBoolS ≤ 4611686018427387904) : FvmarkBoolS N (k, xs, ()) = some ((markE tBoolS k xs).1, (markE tBoolS k xs).2, ()) := by
 have hlim : lim = 2147483648 := rfl
 have hx1 := hx.1
 have hL := mark_loop (f := markE .bool) (P := lnT .bool) (B := bndT .bool) (xs := xs) (n := N) (k := k) (L := fun n k i s => lvmarkBoolS_0 N n (k, (i : Int), s, ())) (fin := fun k s => (k, s, ())) (by omega) hx.2 (bndT_nn _) (fun k x hx => markE_rng k hx)
  (fun n k i s h hP hk0 hk hw => by
   have hb := hk; simp only [bndT] at hb
   have w0 : w64 (k + 1) = k + 1 := w64_id (by omega) (by omega)
   simp only [lvmarkBoolS_0, Int.ofNat_lt, h, decide_true, cond_true, Int.natCast_nonneg, Int.toNat_natCast, List.length_set, getD_set_i h, List.set_set, getD_lt h, hw, Option.bind_some, w0, show decide ((3 : Int) = 0) = false from rfl, cond_false]
   try simp only [markE])
  (fun n k s => by simp [lvmarkBoolS_0]) (by omega) h0 (by
   have : bndT .bool * (xs.length : Int) ≤ bndT .bool * 1048576 := Int.mul_le_mul_of_nonneg_left (by omega) (bndT_nn _)
   have e2 : bndT tBoolS = 1048576 * bndT .bool := rfl
   omega)
 simp only [Int.natCast_zero] at hL
 simp only [FvmarkBoolS, hL, Option.bind_some, markE]
end
section
variable {N : Nat} (hN : lim < N)
include hN
theorem wmarkThreadS_ok {k : Int} {xs : (List ((List Int) × Int × Bool × Int × Unit))} (hx : lnT tThreadS xs) (h0 : 0 ≤ k) (h1 : k + bndT tThreadS ≤ 4611686018427387904) : FvmarkThreadS N (k, xs, ()) = some ((markE tThreadS k xs).1, (markE tThreadS k xs).2, ()) := by
 have hlim : lim = 2147483648 := rfl
 have hx1 := hx.1
 have hL := mark_loop (f := markE tThread) (P := lnT tThread) (B := bndT tThread) (xs := xs) (n := N) (k := k) (L := fun n k i s => lvmarkThreadS_0 N n (k, (i : Int), s, ())) (fin := fun k s => (k, s, ())) (by omega) hx.2 (bndT_nn _) (fun k x hx => markE_rng k hx)
  (fun n k i s h hP hk0 hk hw => by
   have hb := hk; simp only [bndT] at hb
   have m0 := wmarkIntS_ok hN (k := k) (xs := s[i].1) (by first | exact hP | exact hP.1) (by omega) (by simp only [bndT]; omega)
   have b0 := markE_rng (t := tIntS) (x := s[i].1) (k) hP.1
   simp only [bndT] at b0
   have w1 : w64 ((markE tIntS (k) s[i].1).1 + 1) = (markE tIntS (k) s[i].1).1 + 1 := w64_id (by omega) (by omega)
   have w2 : w64 ((markE tIntS (k) s[i].1).1 + 1 + 1) = (markE tIntS (k) s[i].1).1 + 1 + 1 := w64_id (by omega) (by omega)
   have w3 : w64 ((markE tIntS (k) s[i].1).1 + 1 + 1 + 1) = (markE tIntS (k) s[i].1).1 + 1 + 1 + 1 := w64_id (by omega) (by omega)
   simp only [lvmarkThreadS_0, Int.ofNat_lt, h, decide_true, cond_true, Int.natCast_nonneg, Int.toNat_natCast, List.length_set, getD_set_i h, List.set_set, getD_lt h, hw, Option.bind_some, m0, w1, w2, w3, show decide ((3 : Int) = 0) = false from rfl, cond_false]
   try simp only [markE])
  (fun n k s => by simp [lvmarkThreadS_0]) (by omega) h0 (by
   have : bndT tThread * (xs.length : Int) ≤ bndT tThread * 1048576 := Int.mul_le_mul_of_nonneg_left (by omega) (bndT_nn _)
   have e2 : bndT tThreadS = 1048576 * bndT tThread := rfl
   omega)
 simp only [Int.natCast_zero] at hL
 simp only [FvmarkThreadS, hL, Option.bind_some, markE]
end
section
variable {N : Nat} (hN : lim < N)
include hN
theorem markState_ok {w : List Int} {tb : List (Int × Int × Int × Int × Int × Unit)} {mk : List Bool} {th : List (List Int × Int × Bool × Int × Unit)} {od pi : List Int} (l1 : lnT tIntS w) (l2 : lnT tRegionS tb) (l3 : lnT tBoolS mk) (l4 : lnT tThreadS th) (l5 : lnT tIntS od) (l6 : lnT tIntS pi)
  (x0 : Int) (x1 x2 x3 : Bool) (x4 x5 x6 : Int) : ∃ r, FvmarkState N (x0, x1, x2, x3, x4, x5, x6, 1, w, tb, mk, th, od, pi, ()) = some r ∧ ¬ r.1 < 0 := by
 have k1 := wmarkIntS_ok hN (k := 1) l1 (by omega) (by simp only [bndT]; omega)
 have b1 := markE_rng (t := tIntS) (x := w) 1 l1
 simp only [bndT] at b1
 generalize markE tIntS 1 w = m1 at k1 b1
 obtain ⟨m1, W'⟩ := m1
 dsimp only at k1 b1
 have k2 := wmarkRegionS_ok hN (k := m1) l2 (by omega) (by simp only [bndT]; omega)
 have b2 := markE_rng (t := tRegionS) (x := tb) m1 l2
 simp only [bndT] at b2
 generalize markE tRegionS m1 tb = m2 at k2 b2
 obtain ⟨m2, tb'⟩ := m2
 dsimp only at k2 b2
 have k3 := wmarkBoolS_ok hN (k := m2) l3 (by omega) (by simp only [bndT]; omega)
 have b3 := markE_rng (t := tBoolS) (x := mk) m2 l3
 simp only [bndT] at b3
 generalize markE tBoolS m2 mk = m3 at k3 b3
 obtain ⟨m3, M'⟩ := m3
 dsimp only at k3 b3
 have k4 := wmarkThreadS_ok hN (k := m3) l4 (by omega) (by simp only [bndT]; omega)
 have b4 := markE_rng (t := tThreadS) (x := th) m3 l4
 simp only [bndT] at b4
 generalize markE tThreadS m3 th = m4 at k4 b4
 obtain ⟨m4, th'⟩ := m4
 dsimp only at k4 b4
 have k5 := wmarkIntS_ok hN (k := m4) l5 (by omega) (by simp only [bndT]; omega)
 have b5 := markE_rng (t := tIntS) (x := od) m4 l5
 simp only [bndT] at b5
 generalize markE tIntS m4 od = m5 at k5 b5
 obtain ⟨m5, od'⟩ := m5
 dsimp only at k5 b5
 have k6 := wmarkIntS_ok hN (k := m5) l6 (by omega) (by simp only [bndT]; omega)
 have b6 := markE_rng (t := tIntS) (x := pi) m5 l6
 simp only [bndT] at b6
 generalize markE tIntS m5 pi = m6 at k6 b6
 obtain ⟨m6, pi'⟩ := m6
 dsimp only at k6 b6
 refine ⟨(m6, W', tb', M', th', od', pi', ()), ?_, by dsimp only; omega⟩
 simp only [FvmarkState, k1, k2, k3, k4, k5, k6, Option.bind_some]
end
section
variable {N : Nat} (hN : lim < N)
include hN
theorem iFullLive_ok {s : Stx} (b1 : s.1.length ≤ 1048576) (b2 : s.2.1.length ≤ 1048576) (b3 : s.2.2.1.length ≤ 1048576) (b4 : ∀ x ∈ s.1, -9223372036854775808 ≤ x ∧ x < 9223372036854775808)
  (hT : (stThr s).length ≤ 1048576) (hP : (stPins s).length ≤ 1048576) : FiFullLive N (s, ()) = some (match heapOf s with | some p => (true, sortI p.2, ()) | none => (false, [], ())) := by
 simp only [FiFullLive, iheapOf_ok hN b1 b2 b3 b4 hT hP, Option.bind_some]
 cases hp : heapOf s with
 | none => rfl
 | some p =>
  obtain ⟨l, met⟩ := p
  obtain ⟨C, _, _, _, _, hM⟩ := heapOf_some hN hp
  have hml := C.met hM
  simp only [Sum.elim_inr, heapV, Fiheap_live, kClone_ok hN (xs := met) (by rw [lim_eq]; omega), Option.bind_some, kSort_ok hN (xs := met) (by omega)]
  rfl
theorem FnExactFullLive_ok {s : Stx} (h : Wf tState s) : FvFnExactFullLive N (s, ()) = some (true, ()) := by
 unfold FvFnExactFullLive
 obtain ⟨r1, e1, hh⟩ := wszState_ok hN h (left := 1048576) (by omega) (by omega)
 simp only [e1, Option.bind_some]
 rcases hh with hh | ⟨c1, d1, l1⟩
 ·simp only [hh, decide_true, cond_true]
 have n1 : ¬ r1 < 0 := by omega
 obtain ⟨b1, b2, b3, b4, b5⟩ := stWf h l1
 obtain ⟨b6, b7, b8⟩ := stWf2 l1
 have t0 := wtoState_ok hN l1
 have q1 := weqState_ok hN (y := s) l1
 have hs := sFullLive_ok hN b1 b2 b3 b4 b5 b6 b7 b8
 have hi := iFullLive_ok hN b1 b2 b3 b4 b6 b8
 have key : ∃ b r, FsFullLive N (s, ()) = some (b, r, ()) ∧ FiFullLive N (s, ()) = some (b, r, ()) ∧ r.length ≤ 1048576 := by
  rw [hs, hi]
  cases hp : heapOf s with
  | none => exact ⟨false, [], rfl, rfl, by simp⟩
  | some p =>
   obtain ⟨l, met⟩ := p
   obtain ⟨C, _, _, _, _, hM⟩ := heapOf_some hN hp
   have hml := C.met hM
   exact ⟨true, sortI met, rfl, rfl, by rw [sortI_len]; omega⟩
 obtain ⟨b, r, es, ei, hr⟩ := key
 clear hs hi
 have lr : lnT tIntS r := ⟨hr, fun x _ => by simp [lnT]⟩
 have q2 := weqIntS_ok hN (ys := r) lr
 have k1 := wmarkIntS_ok hN (k := 1) lr (by omega) (by simp only [bndT]; omega)
 have h1 := wheldIntS_ok hN (k := 1) lr (by omega) (by simp only [bndT]; omega)
 have b1 := markE_rng (t := tIntS) (x := r) 1 lr
 have n2 : ¬ (markE tIntS 1 r).1 < 0 := by omega
 have em' := fun x0 x1 x2 x3 x4 x5 x6 => markState_ok hN l1.1 l1.2.1 l1.2.2.1 l1.2.2.2.2.2.2.2.2.1 l1.2.2.2.2.2.2.2.2.2.1 l1.2.2.2.2.2.2.2.2.2.2.1 x0 x1 x2 x3 x4 x5 x6
 obtain ⟨s1, s2, s3, s4, s5, s6, s7, s8, s9, s10, s11, s12, s13, ⟨⟩⟩ := s
 dsimp only at t0 q1 es ei em'
 obtain ⟨mk, em, hm⟩ := em' s4 s5 s6 s7 s8 s12 s13
 simp only [n1, n2, t0, q1, q2, es, ei, em, hm, k1, h1, decide_true, decide_false, Bool.not_true, cond_false, Option.bind_some, Sum.elim_inl, beq_self_eq_true, bif_bne, if_true]
end
end Go.Fl
