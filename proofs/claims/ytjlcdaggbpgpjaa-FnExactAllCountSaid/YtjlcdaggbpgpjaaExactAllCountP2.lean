/- Proved: for every input the law FnExactAllCount returns true and leaves its arguments as they were. Part 2: the functions that the law reaches, as plain functions, and plain laws about them; no conditions. -/
import Derived.Test.YtjlcdaggbpgpjaaExactAllCountP1
set_option linter.all false
set_option linter.all false
set_option maxRecDepth 10000
namespace Go.Fl
open Go

/-- A law's inputs are at most so large. -/
abbrev sm (n : Nat) : Prop := n ≤ 1048576

abbrev Nd := List Int × List Int × Unit

abbrev Gr := List Nd × List (List Int) × List Int × Unit

def smN (x : Nd) : Prop := sm x.1.length ∧ sm x.2.1.length

def smG (g : Gr) : Prop := sm g.1.length ∧ (∀ x ∈ g.1, smN x) ∧ sm g.2.1.length ∧ (∀ x ∈ g.2.1, sm x.length) ∧ sm g.2.2.1.length

abbrev ml (n : Nat) : Prop := n ≤ 9223372036854775807

def mlN (x : Nd) : Prop := ml x.1.length ∧ ml x.2.1.length

def mlG (g : Gr) : Prop := ml g.1.length ∧ (∀ x ∈ g.1, mlN x) ∧ ml g.2.1.length ∧ (∀ x ∈ g.2.1, ml x.length) ∧ ml g.2.2.1.length

/-- A loop that tells what is left, or stops. -/
theorem size_loop {α : Type} {xs : List α} (P : α → Prop) {L : Nat → Nat → Int → Option ((Int × Unit) ⊕ (Int × Unit))} (hl : xs.length ≤ lim)
    (h1 : ∀ n i (h : i < xs.length) (left : Int), 0 ≤ left → left ≤ 1048576 → w64 ((i : Int) + 1) = ((i + 1 : Nat) : Int) →
      L (n + 1) i left = some (.inr (-1, ())) ∨ ∃ r, 0 ≤ r ∧ r ≤ left ∧ P xs[i] ∧ L (n + 1) i left = L n (i + 1) r)
    (h3 : ∀ n left, L (n + 1) xs.length left = some (.inl (left, ()))) {n : Nat} (hn : xs.length < n) {left : Int} (h0 : 0 ≤ left) (h1' : left ≤ 1048576) :
    L n 0 left = some (.inr (-1, ())) ∨ ∃ r, 0 ≤ r ∧ r ≤ left ∧ (∀ x ∈ xs, P x) ∧ L n 0 left = some (.inl (r, ())) := by
  have key : ∀ n i left, 0 ≤ left → left ≤ 1048576 → i ≤ xs.length → xs.length - i < n → L n i left = some (.inr (-1, ())) ∨ ∃ r, 0 ≤ r ∧ r ≤ left ∧ (∀ x ∈ xs.drop i, P x) ∧ L n i left = some (.inl (r, ())) := by
    intro n
    induction n with
    | zero => intro i left _ _ _ h; exact absurd h (Nat.not_lt_zero _)
    | succ n ih =>
      intro i left h0 h2 hi hn
      by_cases h : i < xs.length
      · rcases h1 n i h left h0 h2 (w64_succ (by have : lim = 2147483648 := rfl; omega)) with h4 | ⟨r, h4, h5, h6, h7⟩
        · exact .inl h4
        · rw [h7]
          rcases ih (i + 1) r h4 (by omega) (by omega) (by omega) with h8 | ⟨q, h8, h9, h10, h11⟩
          · exact .inl h8
          · refine .inr ⟨q, h8, by omega, ?_, h11⟩
            rw [drop_at h]
            exact List.forall_mem_cons.2 ⟨h6, h10⟩
      · have : i = xs.length := by omega
        subst this
        exact .inr ⟨left, h0, Int.le_refl _, by simp, h3 _ _⟩
  simpa using key n 0 left h0 h1' (by omega) (by omega)

theorem sm_lim {n : Nat} (h : sm n) : n ≤ lim := by simp only [sm] at h; rw [lim_eq]; omega


def okR (m : Nat) (l : List Int) : Bool := l.all fun x => decide (-1 ≤ x) && decide (x < (m : Int))

def okN (m : Nat) (x : Nd) : Bool := decide (x.1.length ≤ 4) && (decide (x.2.1.length ≤ 4) && okR m x.1)

def okG (g : Gr) : Bool :=
  decide (g.1.length ≤ 200) && (decide (1 ≤ g.2.1.length) && (decide (g.2.1.length ≤ 3) && (g.1.all (okN g.1.length) && (g.2.1.all (fun r => decide (r.length ≤ 8) && okR g.1.length r) &&
    (decide (g.2.2.1.length ≤ 8) && (g.2.2.1.all (fun x => decide (0 ≤ x)) && okR g.1.length g.2.2.1))))))

theorem okG_iff {g : Gr} : okG g = true ↔ g.1.length ≤ 200 ∧ 1 ≤ g.2.1.length ∧ g.2.1.length ≤ 3 ∧ (∀ x ∈ g.1, x.1.length ≤ 4 ∧ x.2.1.length ≤ 4 ∧ okR g.1.length x.1 = true) ∧
    (∀ r ∈ g.2.1, r.length ≤ 8 ∧ okR g.1.length r = true) ∧ g.2.2.1.length ≤ 8 ∧ (∀ x ∈ g.2.2.1, 0 ≤ x) ∧ okR g.1.length g.2.2.1 = true := by
  simp only [okG, okN, Bool.and_eq_true, decide_eq_true_eq, List.all_eq_true]

theorem okR_iff {m : Nat} {l : List Int} : okR m l = true ↔ ∀ x ∈ l, -1 ≤ x ∧ x < (m : Int) := by
  simp only [okR, List.all_eq_true, Bool.and_eq_true, decide_eq_true_eq]


abbrev Mst := List Int × List Bool

/-- A reference is met. -/
def meet (st : Mst) (r : Int) : Mst := if 0 ≤ r ∧ st.2.getD r.toNat false = false then (st.1 ++ [r], st.2.set r.toNat true) else st

structure Met (m : Nat) (st : Mst) : Prop where
  len : st.2.length = m
  cnt : st.1.length + st.2.count false = m
  rng : ∀ r ∈ st.1, 0 ≤ r ∧ r < (m : Int)
  had : ∀ r : Int, 0 ≤ r → (st.2.getD r.toNat false = true ↔ r ∈ st.1)
  nd : st.1.Nodup

theorem count_set_true : ∀ {l : List Bool} {i : Nat}, i < l.length → l.getD i false = false → (l.set i true).count false + 1 = l.count false
  | [], _, h, _ => by simp at h
  | b :: l, 0, _, h => by simp at h; subst h; simp
  | b :: l, i + 1, h, h2 => by
    have ih := count_set_true (l := l) (i := i) (by simpa using h) (by simpa using h2)
    simp only [List.set_cons_succ, List.count_cons]
    omega

theorem Met.le {m : Nat} {st : Mst} (h : Met m st) : st.1.length ≤ m := by have := h.cnt; omega

theorem Met.meet {m : Nat} {st : Mst} (h : Met m st) {r : Int} (hr : r < (m : Int)) : Met m (meet st r) := by
  unfold Fl.meet
  split
  · rename_i hc
    have hl : r.toNat < st.2.length := by rw [h.len]; omega
    have hn : ¬ r ∈ st.1 := fun hm => by
      have := (h.had r hc.1).2 hm
      rw [hc.2] at this
      cases this
    refine ⟨by simp [h.len], ?_, ?_, ?_, ?_⟩
    · have := count_set_true hl hc.2
      have := h.cnt
      simp only [List.length_append, List.length_singleton]
      omega
    · intro x hx
      simp only [List.mem_append, List.mem_singleton] at hx
      rcases hx with hx | rfl
      · exact h.rng x hx
      · exact ⟨hc.1, hr⟩
    · intro x hx
      simp only [List.mem_append, List.mem_singleton]
      rw [← h.had x hx]
      simp only [List.getD_eq_getElem?_getD, List.getElem?_set]
      by_cases e : r.toNat = x.toNat
      · have : x = r := by omega
        subst this
        simp [hl]
      · have : ¬ x = r := fun e' => e (by rw [e'])
        simp [e, this]
    · rw [List.nodup_append]
      refine ⟨h.nd, by simp, ?_⟩
      intro a ha b hb e
      simp at hb
      subst hb
      subst e
      exact hn ha
  · exact h

theorem Met.meets {m : Nat} {l : List Int} : ∀ {st : Mst}, Met m st → (∀ r ∈ l, r < (m : Int)) → Met m (l.foldl Fl.meet st) := by
  induction l with
  | nil => intro st h _; exact h
  | cons r l ih => intro st h hl; exact ih (h.meet (hl r (by simp))) fun x hx => hl x (by simp [hx])

/-- Met is only more and more. -/
theorem meet_pre (st : Mst) (r : Int) : st.1 <+: (meet st r).1 := by
  unfold meet
  split
  · exact List.prefix_append _ _
  · exact List.prefix_refl _

theorem meets_pre {l : List Int} : ∀ {st : Mst}, st.1 <+: (l.foldl meet st).1 := by
  induction l with
  | nil => intro st; exact List.prefix_refl _
  | cons r l ih => intro st; exact (meet_pre st r).trans ih

theorem meet_mem {m : Nat} {st : Mst} (h : Met m st) {r : Int} (h0 : 0 ≤ r) : r ∈ (meet st r).1 := by
  unfold meet
  split
  · simp
  · rename_i hc
    exact (h.had r h0).1 (by
      cases hb : st.2.getD r.toNat false with
      | true => rfl
      | false => exact absurd ⟨h0, hb⟩ hc)

theorem meets_mem {m : Nat} {l : List Int} : ∀ {st : Mst}, Met m st → (∀ r ∈ l, r < (m : Int)) → ∀ r ∈ l, 0 ≤ r → r ∈ (l.foldl meet st).1 := by
  induction l with
  | nil => intro st _ _ r hr; simp at hr
  | cons x l ih =>
    intro st h hl r hr h0
    have h1 := h.meet (hl x (by simp))
    simp only [List.mem_cons] at hr
    rcases hr with rfl | hr
    · exact (meets_pre (l := l)).subset (meet_mem h h0)
    · exact ih h1 (fun y hy => hl y (by simp [hy])) r hr h0

theorem meet_sub {st : Mst} {r x : Int} (hx : x ∈ (meet st r).1) : x ∈ st.1 ∨ (x = r ∧ 0 ≤ r) := by
  unfold meet at hx
  split at hx
  · rename_i hc
    simp only [List.mem_append, List.mem_singleton] at hx
    rcases hx with hx | hx
    · exact .inl hx
    · exact .inr ⟨hx, hc.1⟩
  · exact .inl hx

theorem meets_sub {l : List Int} : ∀ {st : Mst} {x : Int}, x ∈ (l.foldl meet st).1 → x ∈ st.1 ∨ (x ∈ l ∧ 0 ≤ x) := by
  induction l with
  | nil => intro st x hx; exact .inl hx
  | cons r l ih =>
    intro st x hx
    rcases ih hx with h | ⟨h, h0⟩
    · rcases meet_sub h with h | ⟨rfl, h0⟩
      · exact .inl h
      · exact .inr ⟨by simp, h0⟩
    · exact .inr ⟨by simp [h], h0⟩

/-- What a node leads to. -/
def refsOf (g : Gr) (r : Int) : List Int := (g.1.getD r.toNat ([], [], ())).1

/-- The met are gone through. -/
def walk (R : Int → List Int) : Nat → Nat → Mst → Mst
  | 0, _, st => st
  | n + 1, i, st => if i < st.1.length then walk R n (i + 1) ((R (st.1.getD i 0)).foldl meet st) else st

def met0 (m : Nat) : Mst := ([], List.replicate m false)

theorem met0_ok (m : Nat) : Met m (met0 m) := by
  refine ⟨by simp [met0], by simp [met0], by simp [met0], ?_, by simp [met0]⟩
  intro r _
  simp only [met0, List.getD_eq_getElem?_getD, List.getElem?_replicate]
  split <;> simp

theorem walk_met {m : Nat} {R : Int → List Int} (hR : ∀ r, 0 ≤ r → r < (m : Int) → ∀ x ∈ R r, x < (m : Int)) : ∀ (n i : Nat) {st : Mst}, Met m st → Met m (walk R n i st)
  | 0, _, _, h => h
  | n + 1, i, st, h => by
    unfold walk
    split
    · rename_i hi
      refine walk_met hR n (i + 1) (h.meets ?_)
      rw [getD_lt hi]
      exact hR _ (h.rng _ (List.getElem_mem hi)).1 (h.rng _ (List.getElem_mem hi)).2
    · exact h

theorem walk_pre {R : Int → List Int} : ∀ (n i : Nat) {st : Mst}, st.1 <+: (walk R n i st).1
  | 0, _, st => List.prefix_refl _
  | n + 1, i, st => by
    unfold walk
    split
    · exact (meets_pre (l := R (st.1.getD i 0))).trans (walk_pre n (i + 1))
    · exact List.prefix_refl _

/-- What is behind the places that were gone through, was met. -/
theorem walk_closed {m : Nat} {R : Int → List Int} (hR : ∀ r, 0 ≤ r → r < (m : Int) → ∀ x ∈ R r, x < (m : Int)) : ∀ (n i : Nat) {st : Mst}, Met m st → m - i < n →
    (∀ j (hj : j < st.1.length), j < i → ∀ x ∈ R st.1[j], 0 ≤ x → x ∈ st.1) → ∀ r ∈ (walk R n i st).1, ∀ x ∈ R r, 0 ≤ x → x ∈ (walk R n i st).1
  | 0, _, _, _, h, _ => absurd h (Nat.not_lt_zero _)
  | n + 1, i, st, h, hn, hc => by
    unfold walk
    split
    · rename_i hi
      have hb : ∀ x ∈ R (st.1.getD i 0), x < (m : Int) := by
        rw [getD_lt hi]
        exact hR _ (h.rng _ (List.getElem_mem hi)).1 (h.rng _ (List.getElem_mem hi)).2
      have hle := h.le
      refine walk_closed hR n (i + 1) (h.meets hb) (by omega) ?_
      intro j hj hji x hx h0
      have hp := meets_pre (l := R (st.1.getD i 0)) (st := st)
      rcases Nat.lt_or_ge j i with hlt | hge
      · have hj' : j < st.1.length := by omega
        have e : ((R (st.1.getD i 0)).foldl meet st).1[j] = st.1[j] := (hp.getElem hj').symm
        rw [e] at hx
        exact hp.subset (hc j hj' hlt x hx h0)
      · have : j = i := by omega
        subst this
        have e : ((R (st.1.getD j 0)).foldl meet st).1[j] = st.1[j] := (hp.getElem hi).symm
        rw [e] at hx
        exact meets_mem h hb x (by rw [getD_lt hi]; exact hx) h0
    · rename_i hi
      intro r hr x hx h0
      obtain ⟨j, hj, rfl⟩ := List.getElem_of_mem hr
      exact hc j hj (by omega) x hx h0

/-- Whatever holds of the first ones and is handed on, holds of all. -/
theorem walk_ind {R : Int → List Int} {P : Int → Prop} (hP : ∀ r, P r → ∀ x ∈ R r, 0 ≤ x → P x) : ∀ (n i : Nat) {st : Mst}, (∀ r ∈ st.1, P r) → ∀ r ∈ (walk R n i st).1, P r
  | 0, _, _, h => h
  | n + 1, i, st, h => by
    unfold walk
    split
    · rename_i hi
      refine walk_ind hP n (i + 1) fun r hr => ?_
      rcases meets_sub hr with h1 | ⟨h1, h0⟩
      · exact h r h1
      · rw [getD_lt hi] at h1
        exact hP _ (h _ (List.getElem_mem hi)) r h1 h0
    · exact h

def begin0 (g : Gr) : Mst := g.2.2.1.foldl meet (g.2.1.foldl (fun s l => l.foldl meet s) (met0 g.1.length))

/-- The nodes that are reached, as they are met. -/
def order (g : Gr) : List Int := (walk (refsOf g) (g.1.length + 1) 0 (begin0 g)).1

theorem refs_rng {g : Gr} (h : okG g = true) (r : Int) : ∀ x ∈ refsOf g r, x < (g.1.length : Int) := by
  obtain ⟨_, _, _, h4, _⟩ := okG_iff.1 h
  intro x hx
  unfold refsOf at hx
  by_cases hr : r.toNat < g.1.length
  · rw [getD_lt hr] at hx
    exact (okR_iff.1 (h4 _ (List.getElem_mem hr)).2.2 x hx).2
  · rw [List.getD_eq_getElem?_getD, List.getElem?_eq_none (by omega)] at hx
    simp at hx

theorem roots_met {m : Nat} {ls : List (List Int)} : ∀ {st : Mst}, Met m st → (∀ l ∈ ls, ∀ x ∈ l, x < (m : Int)) → Met m (ls.foldl (fun s l => l.foldl meet s) st) := by
  induction ls with
  | nil => intro st h _; exact h
  | cons l ls ih => intro st h hl; exact ih (h.meets (hl l (by simp))) fun x hx => hl x (by simp [hx])

theorem roots_pre {ls : List (List Int)} : ∀ {st : Mst}, st.1 <+: (ls.foldl (fun s l => l.foldl meet s) st).1 := by
  induction ls with
  | nil => intro st; exact List.prefix_refl _
  | cons r l ih => intro st; exact meets_pre.trans ih

theorem roots_mem {m : Nat} {ls : List (List Int)} : ∀ {st : Mst}, Met m st → (∀ l ∈ ls, ∀ x ∈ l, x < (m : Int)) → ∀ l ∈ ls, ∀ r ∈ l, 0 ≤ r → r ∈ (ls.foldl (fun s l => l.foldl meet s) st).1 := by
  induction ls with
  | nil => intro st _ _ r hr; simp at hr
  | cons x ls ih =>
    intro st h hl l hm r hr h0
    have h1 := h.meets (hl x (by simp))
    simp only [List.mem_cons] at hm
    rcases hm with rfl | hm
    · exact (roots_pre (ls := ls)).subset (meets_mem h (hl l (by simp)) r hr h0)
    · exact ih h1 (fun y hy => hl y (by simp [hy])) l hm r hr h0

theorem roots_sub {ls : List (List Int)} : ∀ {st : Mst} {x : Int}, x ∈ (ls.foldl (fun s l => l.foldl meet s) st).1 → x ∈ st.1 ∨ ∃ l ∈ ls, x ∈ l ∧ 0 ≤ x := by
  induction ls with
  | nil => intro st x hx; exact .inl hx
  | cons r l ih =>
    intro st x hx
    rcases ih hx with h | ⟨l', h, h0⟩
    · rcases meets_sub h with h | h
      · exact .inl h
      · exact .inr ⟨r, by simp, h⟩
    · exact .inr ⟨l', by simp [h], h0⟩

theorem rootsrng {g : Gr} (h : okG g = true) : ∀ l ∈ g.2.1, ∀ x ∈ l, x < (g.1.length : Int) := fun l hl x hx => by
  obtain ⟨_, _, _, _, h5, _⟩ := okG_iff.1 h
  exact (okR_iff.1 (h5 l hl).2 x hx).2

theorem pinsrng {g : Gr} (h : okG g = true) : ∀ x ∈ g.2.2.1, x < (g.1.length : Int) := fun x hx => by
  obtain ⟨_, _, _, _, _, _, _, h8⟩ := okG_iff.1 h
  exact (okR_iff.1 h8 x hx).2

theorem begin0_ok {g : Gr} (h : okG g = true) : Met g.1.length (begin0 g) :=
  (roots_met (met0_ok _) (rootsrng h)).meets (pinsrng h)

theorem order_met {g : Gr} (h : okG g = true) : Met g.1.length (walk (refsOf g) (g.1.length + 1) 0 (begin0 g)) :=
  walk_met (fun r _ _ => refs_rng h r) _ _ (begin0_ok h)

theorem order_rng {g : Gr} (h : okG g = true) : ∀ r ∈ order g, 0 ≤ r ∧ r < (g.1.length : Int) := (order_met h).rng

theorem order_nodup {g : Gr} (h : okG g = true) : (order g).Nodup := (order_met h).nd

theorem order_le {g : Gr} (h : okG g = true) : (order g).length ≤ g.1.length := (order_met h).le

theorem order_closed {g : Gr} (h : okG g = true) : ∀ r ∈ order g, ∀ x ∈ refsOf g r, 0 ≤ x → x ∈ order g :=
  walk_closed (fun r _ _ => refs_rng h r) _ _ (begin0_ok h) (by omega) fun j _ hj => absurd hj (Nat.not_lt_zero _)

theorem order_roots {g : Gr} (h : okG g = true) : ∀ l ∈ g.2.1, ∀ x ∈ l, 0 ≤ x → x ∈ order g := fun l hl x hx h0 =>
  (walk_pre _ _).subset (meets_pre.subset (roots_mem (met0_ok _) (rootsrng h) l hl x hx h0))

theorem order_pins {g : Gr} (h : okG g = true) : ∀ x ∈ g.2.2.1, x ∈ order g := fun x hx => by
  obtain ⟨_, _, _, _, _, _, h7, _⟩ := okG_iff.1 h
  exact (walk_pre _ _).subset (meets_mem (roots_met (met0_ok _) (rootsrng h)) (pinsrng h) x hx (h7 x hx))

/-- The reached are the least that holds what is begun with and is closed. -/
theorem order_ind {g : Gr} {P : Int → Prop} (hr : ∀ l ∈ g.2.1, ∀ x ∈ l, 0 ≤ x → P x) (hp : ∀ x ∈ g.2.2.1, 0 ≤ x → P x) (hP : ∀ r, P r → ∀ x ∈ refsOf g r, 0 ≤ x → P x) : ∀ r ∈ order g, P r :=
  walk_ind hP _ _ fun r h => by
    rcases meets_sub h with h | ⟨h, h0⟩
    · rcases roots_sub h with h | ⟨l, hl, h, h0⟩
      · simp [met0] at h
      · exact hr l hl r h h0
    · exact hp r h h0


abbrev Opx := Int × Int × Int × Int × Int × Int × (Int × Int × Unit) × Unit
def shOk (s : Int × Int × Unit) : Bool := decide (0 ≤ s.1) && (decide (s.1 ≤ 4) && (decide (0 ≤ s.2.1) && decide (s.2.1 ≤ 4)))
def opOk (o : Opx) : Bool := decide (1 ≤ o.1) && (decide (o.1 ≤ 11) && (!(decide (o.1 = 1)) || shOk o.2.2.2.2.2.2.1))
/-- A place of a list. -/
def inB (i : Int) (n : Nat) : Prop := 0 ≤ i ∧ i < (n : Int)
instance (i : Int) (n : Nat) : Decidable (inB i n) := by unfold inB; infer_instance
/-- The code told ahead of an operation. -/
def beginC (o : Opx) (rs : List Int) (nil : Int) : Int :=
  if (o.1 = 8 ∧ rs.length = 0) ∨ (o.1 ≠ 1 ∧ o.1 ≠ 8 ∧ ¬ inB o.2.1 rs.length) ∨ ((o.1 = 3 ∨ o.1 = 6 ∨ o.1 = 7) ∧ ¬ inB o.2.2.1 rs.length) ∨ (o.1 = 7 ∧ ¬ inB o.2.2.2.1 rs.length) then 2
  else if o.1 ≠ 1 ∧ o.1 ≠ 6 ∧ o.1 ≠ 8 ∧ o.1 ≠ 9 ∧ rs.getD o.2.1.toNat 0 = nil then 3
  else if (o.1 = 1 ∨ o.1 = 2 ∨ o.1 = 9) ∧ rs.length = 8 then 5
  else 0
/-- The last place of a number. -/
def lastFrom : List Int → Int → Int → Int → Int
  | [], _, _, at' => at'
  | x :: l, a, i, at' => lastFrom l a (i + 1) (if x = a then i else at')
def lastP (l : List Int) (a : Int) : Int := lastFrom l a 0 (-1)

abbrev nd0 : Nd := ([], [], ())
/-- What an operation does when no code was told ahead. -/
def actG (g : Gr) (t : Int) (o : Opx) (rs : List Int) : Int × Int × Gr :=
  let ra := rs.getD o.2.1.toNat 0
  let rb := rs.getD o.2.2.1.toNat 0
  let rc := rs.getD o.2.2.2.1.toNat 0
  let n := g.1.getD ra.toNat nd0
  let f := o.2.2.2.2.1
  if o.1 = 1 then if g.1.length = 200 then (0, 6, g) else (0, 0, g.1 ++ [(List.replicate o.2.2.2.2.2.2.1.1.toNat (-1), List.replicate o.2.2.2.2.2.2.1.2.1.toNat 0, ())], g.2.1.set t.toNat (rs ++ [(g.1.length : Int)]), g.2.2.1, ())
  else if o.1 = 2 then if inB f n.1.length then (0, 0, g.1, g.2.1.set t.toNat (rs ++ [n.1.getD f.toNat 0]), g.2.2.1, ()) else (0, 4, g)
  else if o.1 = 3 then if inB f n.1.length then (0, 0, g.1.set ra.toNat (n.1.set f.toNat rb, n.2), g.2.1, g.2.2.1, ()) else (0, 4, g)
  else if o.1 = 4 then if inB f n.2.1.length then (0, 0, g.1.set ra.toNat (n.1, n.2.1.set f.toNat o.2.2.2.2.2.1, ()), g.2.1, g.2.2.1, ()) else (0, 4, g)
  else if o.1 = 5 then if inB f n.2.1.length then (n.2.1.getD f.toNat 0, 0, g) else (0, 4, g)
  else if o.1 = 6 then (if ra = rb then 1 else 0, 0, g)
  else if o.1 = 7 then if inB f n.1.length then (if n.1.getD f.toNat 0 = rb then (1, 0, g.1.set ra.toNat (n.1.set f.toNat rc, n.2), g.2.1, g.2.2.1, ()) else (0, 0, g)) else (0, 4, g)
  else if o.1 = 8 then (0, 0, g.1, g.2.1.set t.toNat (rs.take (rs.length - 1)), g.2.2.1, ())
  else if o.1 = 9 then (0, 0, g.1, g.2.1.set t.toNat (rs ++ [ra]), g.2.2.1, ())
  else if o.1 = 10 then if g.2.2.1.length = 8 then (0, 7, g) else (0, 0, g.1, g.2.1, g.2.2.1 ++ [ra], ())
  else if lastP g.2.2.1 ra < 0 then (0, 7, g) else (0, 0, g.1, g.2.1, g.2.2.1.take (lastP g.2.2.1 ra).toNat ++ g.2.2.1.drop ((lastP g.2.2.1 ra).toNat + 1), ())

/-- An operation on a graph: the answer, the code, the graph behind it. -/
def doG (g : Gr) (t : Int) (o : Opx) : Int × Int × Gr :=
  if okG g = true ∧ inB t g.2.1.length ∧ opOk o = true then
    (if beginC o (g.2.1.getD t.toNat []) (-1) = 0 then actG g t o (g.2.1.getD t.toNat []) else (0, beginC o (g.2.1.getD t.toNat []) (-1), g))
  else (0, 1, [], [], [], ())

theorem lastFrom_rng : ∀ (l : List Int) (a i at' : Int), -1 ≤ at' → at' < i → -1 ≤ lastFrom l a i at' ∧ lastFrom l a i at' < i + l.length
  | [], _, _, _, h, h' => by simp only [lastFrom, List.length_nil]; omega
  | x :: l, a, i, at', h, h' => by
    simp only [lastFrom]
    have := lastFrom_rng l a (i + 1) (if x = a then i else at') (by split <;> omega) (by split <;> omega)
    simp only [List.length_cons]
    omega

theorem opOk_kind {o : Opx} (h : opOk o = true) : 1 ≤ o.1 ∧ o.1 ≤ 11 := by
  simp only [opOk, Bool.and_eq_true, decide_eq_true_eq] at h
  exact ⟨h.1, h.2.1⟩

theorem kind_cases {k : Int} (h1 : 1 ≤ k) (h2 : k ≤ 11) : k = 1 ∨ k = 2 ∨ k = 3 ∨ k = 4 ∨ k = 5 ∨ k = 6 ∨ k = 7 ∨ k = 8 ∨ k = 9 ∨ k = 10 ∨ k = 11 := by omega

/-- It comes to an end, and what it comes to is so. -/
def Ret {α : Type} (o : Option α) (P : α → Prop) : Prop := ∃ r, o = some r ∧ P r

theorem Ret.pure {α : Type} {a : α} {P : α → Prop} (h : P a) : Ret (some a) P := ⟨a, rfl, h⟩
theorem Ret.bind {α β : Type} {o : Option α} {k : α → Option β} {P : β → Prop} (Q : α → Prop) (h : Ret o Q) (hk : ∀ r, Q r → Ret (k r) P) : Ret (o.bind k) P := by
  obtain ⟨r, e, hr⟩ := h
  rw [e]
  exact hk r hr
theorem Ret.bindE {α β : Type} {o : Option α} {k : α → Option β} {P : β → Prop} {r : α} (e : o = some r) (hk : Ret (k r) P) : Ret (o.bind k) P := by
  rw [e]; exact hk
theorem Ret.mono {α : Type} {o : Option α} {P Q : α → Prop} (h : Ret o P) (hm : ∀ r, P r → Q r) : Ret o Q := by
  obtain ⟨r, e, hr⟩ := h; exact ⟨r, e, hm r hr⟩
theorem Ret.bif {α : Type} {c : Bool} {a b : Option α} {P : α → Prop} (h1 : c = true → Ret a P) (h2 : c = false → Ret b P) : Ret (bif c then a else b) P := by
  cases c with
  | true => exact h1 rfl
  | false => exact h2 rfl
theorem Ret.dec {α : Type} {p : Prop} [Decidable p] {a b : Option α} {P : α → Prop} (h1 : p → Ret a P) (h2 : ¬ p → Ret b P) : Ret (_root_.cond (decide p) a b) P := by
  by_cases h : p
  · simpa [h] using h1 h
  · simpa [h] using h2 h
theorem Ret.guard {α : Type} {p : Prop} [Decidable p] {a : Option α} {P : α → Prop} (hp : p) (h : Ret a P) : Ret (_root_.cond (decide p) a none) P := by
  simpa [hp] using h
theorem Ret.guardN {α : Type} {p : Prop} [Decidable p] {a : Option α} {P : α → Prop} (hp : ¬ p) (h : Ret a P) : Ret (_root_.cond (decide p) none a) P := by
  simpa [hp] using h
theorem Ret.beq {α β : Type} [DecidableEq β] {x y : β} {a b : Option α} {P : α → Prop} (h1 : x = y → Ret a P) (h2 : ¬ x = y → Ret b P) : Ret (_root_.cond (x == y) a b) P := by
  rw [bif_beq]
  by_cases h : x = y
  · simpa [h] using h1 h
  · simpa [h] using h2 h
theorem obind_eq {α β : Type} {o : Option α} {r : α} {k : α → Option β} {z : Option β} (e : o = some r) (h : k r = z) : o.bind k = z := by
  rw [e]; exact h

section
variable {N : Nat}

theorem iShapeOk_ok (s : Int × Int × Unit) : FiShapeOk N (s, ()) = some (shOk s, ()) := by
  simp only [FiShapeOk, shOk, ge_iff_le]
  by_cases h1 : 0 ≤ s.1 <;> by_cases h2 : s.1 ≤ 4 <;> by_cases h3 : 0 ≤ s.2.1 <;> simp [h1, h2, h3]

theorem iOpOk_ok (o : Opx) : FiOpOk N (o, ()) = some (opOk o, ()) := by
  simp only [FiOpOk, opOk, iShapeOk_ok, ge_iff_le]
  by_cases h1 : 1 ≤ o.1 <;> by_cases h2 : o.1 ≤ 11 <;> by_cases h3 : o.1 = 1 <;> simp [h1, h2, h3]

theorem itruth_ok (b : Bool) : Fitruth N (b, ()) = some (if b = true then 1 else 0, ()) := by
  cases b <;> simp [Fitruth]

theorem iOp_field_ok {o : Opx} {r m : Nat} : FiOp_field N (o, (r : Int), (m : Int), ()) = some (if o.1 = 2 ∨ o.1 = 3 ∨ o.1 = 4 ∨ o.1 = 5 ∨ o.1 = 7 then decide (inB o.2.2.2.2.1 (if o.1 = 4 ∨ o.1 = 5 then m else r)) else true, ()) := by
  obtain ⟨k, A, B, C, F, V, S, ⟨⟩⟩ := o
  simp only [FiOp_field, inB, ge_iff_le]
  by_cases h1 : k = 2
  · by_cases h : 0 ≤ F <;> simp [h1, h]
  by_cases h2 : k = 3
  · by_cases h : 0 ≤ F <;> simp [h2, h]
  by_cases h3 : k = 4
  · by_cases h : 0 ≤ F <;> simp [h3, h]
  by_cases h4 : k = 5
  · by_cases h : 0 ≤ F <;> simp [h4, h]
  by_cases h5 : k = 7
  · by_cases h : 0 ≤ F <;> simp [h5, h]
  simp [h1, h2, h3, h4, h5]

variable (hN : lim < N)
include hN

theorem iOp_early_loop {rs hs : List Int} {nil : Int} {o : Opx} (hl : hs.length ≤ lim) : liOp_early_0 N N (rs, nil, o, (hs.length : Int), 0, hs, ()) =
    some (if (hs.all fun h => decide (inB h rs.length)) = true then .inl (rs, nil, o, ()) else .inr (2, ())) := by
  have key : ∀ n i, i ≤ hs.length → hs.length - i < n → liOp_early_0 N n (rs, nil, o, (hs.length : Int), (i : Int), hs, ()) =
      some (if ((hs.drop i).all fun h => decide (inB h rs.length)) = true then .inl (rs, nil, o, ()) else .inr (2, ())) := by
    intro n
    induction n with
    | zero => intro i _ h; exact absurd h (Nat.not_lt_zero _)
    | succ n ih =>
      intro i hi hn
      by_cases h : i < hs.length
      · have w1 : w64 ((i : Int) + 1) = ((i + 1 : Nat) : Int) := w64_succ (by have : lim = 2147483648 := rfl; omega)
        have := ih (i + 1) (by omega) (by omega)
        rw [drop_at h]
        simp only [List.all_cons]
        simp only [liOp_early_0, w1, Int.ofNat_lt, h, decide_true, cond_true, Int.natCast_nonneg, Int.toNat_natCast, getD_lt h]
        by_cases h1 : hs[i] < 0
        · have : ¬ inB hs[i] rs.length := by unfold inB; omega
          simp [h1, this]
        · by_cases h2 : hs[i] ≥ (rs.length : Int)
          · have : ¬ inB hs[i] rs.length := by unfold inB; omega
            simp only [h1, h2, this, decide_false, decide_true, cond_false, cond_true, Bool.false_and, Bool.false_eq_true, if_false]
          · have h3 : inB hs[i] rs.length := by unfold inB; omega
            simp only [h1, h2, h3, decide_false, decide_true, cond_false, Bool.true_and]
            exact this
      · have : i = hs.length := by omega
        subst this
        simp [liOp_early_0]
  simpa using key N 0 (by omega) (by omega)

theorem iOp_early_ok {o : Opx} {rs : List Int} {nil : Int} (h1 : 1 ≤ o.1) (h2 : o.1 ≤ 11) (hr : rs.length ≤ 8) : FiOp_early N (o, rs, nil, ()) = some (beginC o rs nil, ()) := by
  obtain ⟨k, A, B, C, F, V, S, ⟨⟩⟩ := o
  simp only at h1 h2
  have hlim : lim = 2147483648 := rfl
  have l8 : (8 ≤ rs.length) ↔ rs.length = 8 := by omega
  have key : ∀ {i : Int}, inB i rs.length → 0 ≤ i ∧ i.toNat < rs.length := fun h => by unfold inB at h; omega
  have pe := Classical.propComplete (rs.length = 8)
  have pe0 := Classical.propComplete (rs.length = 0)
  have e0 := iOp_early_loop hN (rs := rs) (hs := []) (nil := nil) (o := (k, A, B, C, F, V, S, ())) (by simp)
  have e1 := iOp_early_loop hN (rs := rs) (hs := [A]) (nil := nil) (o := (k, A, B, C, F, V, S, ())) (by simp [hlim])
  have e2 := iOp_early_loop hN (rs := rs) (hs := [A, B]) (nil := nil) (o := (k, A, B, C, F, V, S, ())) (by simp [hlim])
  have e3 := iOp_early_loop hN (rs := rs) (hs := [A, B, C]) (nil := nil) (o := (k, A, B, C, F, V, S, ())) (by simp [hlim])
  unfold FiOp_early
  dsimp only
  rcases kind_cases h1 h2 with h | h | h | h | h | h | h | h | h | h | h <;> subst h
  · simp only [FiOp_handles, show ((1 : Int) == 1) = true from rfl, cond_true, Option.bind_some, e0]
    rcases pe with e | e <;> simp [beginC, l8, e]
  · refine obind_eq (r := ([A], ())) (by simp [FiOp_handles]) ?_
    rw [e1]
    by_cases a : inB A rs.length
    · obtain ⟨a1, a2⟩ := key a
      rcases pe with e | e <;> by_cases n : rs[A.toNat] = nil <;> simp [beginC, l8, e, a, a1, a2, n]
    · simp [beginC, a]
  · refine obind_eq (r := ([A, B], ())) (by simp [FiOp_handles]) ?_
    rw [e2]
    by_cases a : inB A rs.length
    · obtain ⟨a1, a2⟩ := key a
      by_cases b : inB B rs.length
      · by_cases n : rs[A.toNat] = nil <;> simp [beginC, a, b, a1, a2, n]
      · simp [beginC, a, b]
    · simp [beginC, a]
  · refine obind_eq (r := ([A], ())) (by simp [FiOp_handles]) ?_
    rw [e1]
    by_cases a : inB A rs.length
    · obtain ⟨a1, a2⟩ := key a
      by_cases n : rs[A.toNat] = nil <;> simp [beginC, a, a1, a2, n]
    · simp [beginC, a]
  · refine obind_eq (r := ([A], ())) (by simp [FiOp_handles]) ?_
    rw [e1]
    by_cases a : inB A rs.length
    · obtain ⟨a1, a2⟩ := key a
      by_cases n : rs[A.toNat] = nil <;> simp [beginC, a, a1, a2, n]
    · simp [beginC, a]
  · refine obind_eq (r := ([A, B], ())) (by simp [FiOp_handles]) ?_
    rw [e2]
    by_cases a : inB A rs.length
    · obtain ⟨a1, a2⟩ := key a
      by_cases b : inB B rs.length
      · simp [beginC, a, b]
      · simp [beginC, a, b]
    · simp [beginC, a]
  · refine obind_eq (r := ([A, B, C], ())) (by simp [FiOp_handles]) ?_
    rw [e3]
    by_cases a : inB A rs.length
    · obtain ⟨a1, a2⟩ := key a
      by_cases b : inB B rs.length
      · by_cases c : inB C rs.length
        · by_cases n : rs[A.toNat] = nil <;> simp [beginC, a, b, c, a1, a2, n]
        · simp [beginC, a, b, c]
      · simp [beginC, a, b]
    · simp [beginC, a]
  · refine obind_eq (r := ([], ())) (by simp [FiOp_handles]) ?_
    have e0' : liOp_early_0 N N (rs, nil, (8, A, B, C, F, V, S, ()), (([] : List Int).length : Int), 0, [], ()) = _ := e0
    rw [e0']
    clear e0 e0' e1 e2 e3
    have z0 : (rs = []) ↔ rs.length = 0 := List.length_eq_zero_iff.symm
    rcases pe0 with e | e <;> simp [beginC, z0, e]
  · refine obind_eq (r := ([A], ())) (by simp [FiOp_handles]) ?_
    rw [e1]
    by_cases a : inB A rs.length
    · rcases pe with e | e <;> simp [beginC, l8, e, a]
    · simp [beginC, a]
  · refine obind_eq (r := ([A], ())) (by simp [FiOp_handles]) ?_
    rw [e1]
    by_cases a : inB A rs.length
    · obtain ⟨a1, a2⟩ := key a
      by_cases n : rs[A.toNat] = nil <;> simp [beginC, a, a1, a2, n]
    · simp [beginC, a]
  · refine obind_eq (r := ([A], ())) (by simp [FiOp_handles]) ?_
    rw [e1]
    by_cases a : inB A rs.length
    · obtain ⟨a1, a2⟩ := key a
      by_cases n : rs[A.toNat] = nil <;> simp [beginC, a, a1, a2, n]
    · simp [beginC, a]

theorem lastFrom_snoc {a : Int} : ∀ (l : List Int) (x i at' : Int), lastFrom (l ++ [x]) a i at' = if x = a then i + l.length else lastFrom l a i at'
  | [], x, i, at' => by simp [lastFrom]
  | y :: l, x, i, at' => by
    simp only [List.cons_append, lastFrom, lastFrom_snoc l, List.length_cons]
    split
    · omega
    · rfl

theorem ilastOf_ok {xs : List Int} {a : Int} (hl : xs.length ≤ lim) : FilastOf N (xs, a, ()) = some (lastP xs a, ()) := by
  have hlim : lim = 2147483648 := rfl
  have key : ∀ n i, i ≤ xs.length → i < n → lilastOf_0 N n (xs, a, (i : Int) - 1, ()) = some (if lastP (xs.take i) a < 0 then .inl () else .inr (lastP (xs.take i) a, ())) ∧ (lastP (xs.take i) a < 0 → lastP (xs.take i) a = -1) := by
    intro n
    induction n with
    | zero => intro i _ h; exact absurd h (Nat.not_lt_zero _)
    | succ n ih =>
      intro i hi hn
      cases i with
      | zero => simp [lilastOf_0, lastP, lastFrom]
      | succ i =>
        have hi' : i < xs.length := by omega
        have w1 : w64 ((i : Int) - 1) = (i : Int) - 1 := w64_id (by omega) (by omega)
        have e : ((i + 1 : Nat) : Int) - 1 = i := by omega
        obtain ⟨ih, ih2⟩ := ih i (by omega) (by omega)
        have ht : xs.take (i + 1) = xs.take i ++ [xs[i]] := (List.take_append_getElem hi').symm
        have hs : lastP (xs.take (i + 1)) a = if xs[i] = a then (i : Int) else lastP (xs.take i) a := by
          unfold lastP
          rw [ht, lastFrom_snoc hN]
          have : (xs.take i).length = i := by simp; omega
          rw [this]
          simp
        rw [hs, e]
        simp only [lilastOf_0, w1, ge_iff_le, Int.natCast_nonneg, decide_true, cond_true, Int.toNat_natCast, hi', getD_lt hi']
        by_cases h : xs[i] = a
        · have : ¬ ((i : Int) < 0) := by omega
          simp [h, this]
        · have hb : (xs[i] == a) = false := by simpa using h
          simp only [hb, cond_false, h, if_false]
          exact ⟨ih, ih2⟩
  obtain ⟨k1, k2⟩ := key N xs.length (by omega) (by omega)
  rw [List.take_length] at k1 k2
  have w1 : w64 ((xs.length : Int) - 1) = (xs.length : Int) - 1 := w64_id (by omega) (by omega)
  simp only [FilastOf, w1, k1, Option.bind_some]
  by_cases h : lastP xs a < 0
  · simp [h, k2 h]
  · simp [h]
end

theorem lay_take {α : Type} {xs ys : List α} {p : Nat} (h : p ≤ xs.length) : (lay xs p ys).take (p + ys.length) = xs.take p ++ ys := by
  have h1 : (xs.take p ++ ys).length = p + ys.length := by simp; omega
  unfold lay
  rw [← h1, List.take_left]
theorem lay_take' {α : Type} {xs ys : List α} {p q : Nat} (h : p ≤ xs.length) (hq : q ≤ p) : (lay xs p ys).take q = xs.take q := by
  unfold lay
  rw [List.append_assoc, List.take_append_of_le_length (by simp; omega), List.take_take, Nat.min_eq_left hq]

section
variable {N : Nat}

theorem kDelete_ok {xs : List Int} {i : Nat} (hi : i < xs.length) : FkDelete_Sint_int N ((i : Int), ((i + 1 : Nat) : Int), xs, ()) = some (xs.take i ++ xs.drop (i + 1), ()) := by
  have e1 : (xs.drop (i + 1)).take (xs.length - (i + 1)) = xs.drop (i + 1) := List.take_of_length_le (by simp)
  have l1 : (xs.drop (i + 1)).length = xs.length - (i + 1) := by simp
  have hl : i + (xs.drop (i + 1)).length ≤ xs.length := by rw [l1]; omega
  have hlay : (lay xs i (xs.drop (i + 1))).length = xs.length := lay_len hl
  have hne : ((i : Int) == ((i + 1 : Nat) : Int)) = false := by simp; omega
  have g1 : (i : Int) ≤ ((i + 1 : Nat) : Int) := by omega
  have g2 : ((i + 1 : Nat) : Int) ≤ (xs.length : Int) := by omega
  have g3 : (i : Int) ≤ (xs.length : Int) := by omega
  have g4 : ((i + (xs.drop (i + 1)).length : Nat) : Int) ≤ (xs.length : Int) := by omega
  have z0 : (0 : Int).toNat = 0 := rfl
  unfold FkDelete_Sint_int
  dsimp only
  simp only [Int.natCast_nonneg, decide_true, cond_true, g1, g2, g3, Int.le_refl, hne, cond_false, Int.toNat_natCast, z0, Nat.sub_zero, e1, hl, hlay, g4]
  rw [lay_take' (by rw [hlay]; exact hl) (Nat.le_refl _), lay_take (by omega)]

theorem Mul_one {n : Int} (h0 : 0 ≤ n) (h4 : n ≤ 4) : Fmath_bits_Mul N (1, n, ()) = some (0, n, ()) := by
  have : n = 0 ∨ n = 1 ∨ n = 2 ∨ n = 3 ∨ n = 4 := by omega
  rcases this with rfl | rfl | rfl | rfl | rfl <;> rfl

variable (hN : lim < N)
include hN

theorem inone_ok {n : Int} (h0 : 0 ≤ n) (h4 : n ≤ 4) : Finone N (n, ()) = some (List.replicate n.toNat (-1), ()) := by
  have hlim : lim = 2147483648 := rfl
  obtain ⟨M, rfl⟩ : ∃ M, N = M + 6 := ⟨N - 6, by omega⟩
  have hw : IntKind.wrap .u64 (1 : Int) = 1 := rfl
  have hu : IntKind.wrap .u64 n = n := by
    have : n = 0 ∨ n = 1 ∨ n = 2 ∨ n = 3 ∨ n = 4 := by omega
    rcases this with rfl | rfl | rfl | rfl | rfl <;> rfl
  have hs : w64 n = n := w64_id (by omega) (by omega)
  have hn : ¬ n < 0 := by omega
  have hm := Mul_one (N := M + 6) h0 h4
  have hb : ¬ n > 9223372036854775807 := by omega
  have hl : n.toNat ≤ lim := by omega
  simp only [Finone, FkRepeat_Sint_int, hn, decide_false, cond_false, Option.bind_some, List.length_singleton, Int.natCast_one, hw, hu, hm, hb, hs, h0, decide_true, cond_true, hl, show ¬ (0 : Int) > 0 by omega]
  have : n = 0 ∨ n = 1 ∨ n = 2 ∨ n = 3 ∨ n = 4 := by omega
  rcases this with rfl | rfl | rfl | rfl | rfl <;> rfl
end

section
variable {N : Nat} (hN : lim < N)
include hN

theorem kClone_ok {xs : List Int} (hl : xs.length ≤ lim) : FkClone_Sint_int N (xs, ()) = some (xs, ()) := by
  cases xs with
  | nil =>
    simp only [FkClone_Sint_int, List.isEmpty_nil, cond_true]
    refine anyOf_eq (by omega) fun i _ => ?_
    cases hi : (i == 0) <;> simp
  | cons x xs =>
    have hl' : xs.length + 1 ≤ lim := by simpa using hl
    simp [FkClone_Sint_int, hl']

end

section
variable {N : Nat} (hN : lim < N)
include hN

theorem iGraph_copy_ok {g : Gr} (hs : smG g) : FiGraph_copy N (g, ()) = some g := by
  obtain ⟨a1, a2, a3, a4, a5⟩ := hs
  have l1 := sm_lim a1
  have l3 := sm_lim a3
  have e1 := fun Q => (fold_loop (xs := g.1) (n := N) (fun s x => s ++ [x]) (fun i s => s.length = i)
    (L := fun n i s => liGraph_copy_0 N n (g, g.1, (g.1.length : Int), (i : Int), s, ([] : List (List Int)), Q, ())) (fin := fun s => (g, s, ([] : List (List Int)), Q, ())) l1
    (fun n i s h hw hI => by
      subst hI
      have hlim : s.length + 1 ≤ lim := by omega
      have hx := a2 _ (List.getElem_mem h)
      simp [liGraph_copy_0, h, hw, kClone_ok hN (sm_lim hx.1), kClone_ok hN (sm_lim hx.2), hlim])
    (fun n s hI => by simp [liGraph_copy_0]) (by omega) (s := []) rfl).1
  have e2 := fun S Q => (fold_loop (xs := g.2.1) (n := N) (fun s x => s ++ [x]) (fun i s => s.length = i)
    (L := fun n i s => liGraph_copy_2 N n (g.2.1, (g.2.1.length : Int), (i : Int), S, s, Q, ())) (fin := fun s => (S, s, Q, ())) l3
    (fun n i s h hw hI => by
      subst hI
      have hlim : s.length + 1 ≤ lim := by omega
      have hx := a4 _ (List.getElem_mem h)
      simp [liGraph_copy_2, h, hw, kClone_ok hN (sm_lim hx), hlim])
    (fun n s hI => by simp [liGraph_copy_2]) (by omega) (s := []) rfl).1
  have f1 := foldl_push (fun x : Nd => x) g.1 []
  have f2 := foldl_push (fun x : List Int => x) g.2.1 []
  simp only [Int.natCast_zero, f1, f2, List.nil_append, List.map_id'] at e1 e2
  simp [FiGraph_copy, kClone_ok hN (sm_lim a5), e1, e2]
end

section
variable {N : Nat} (hN : lim < N)
include hN

theorem leads_ok {g : Gr} {xs : List Int} {low : Int} (hl : xs.length ≤ lim) :
    FiGraph_leads N (g, xs, low, ()) = some (xs.all fun x => decide (low ≤ x) && decide (x < (g.1.length : Int)), ()) := by
  have hL := find_loop (xs := xs) (n := N) (fun x => decide (x < low) || decide (x ≥ (g.1.length : Int))) (L := fun n i => lkIndexFunc_Sint_int_iGraph_leads_1_0 N n (xs, low, g, (xs.length : Int), (i : Int), ()))
    (yes := fun i => .inr ((i : Int), ())) (no := .inl ()) hl
    (fun n i h hw hq => by
      simp at hq
      simp [lkIndexFunc_Sint_int_iGraph_leads_1_0, FiGraph_leads_1, h, hw, Int.not_lt.2 hq.1, Int.not_le.2 hq.2])
    (fun n i h hq => by
      by_cases h1 : xs[i] < low
      · simp [lkIndexFunc_Sint_int_iGraph_leads_1_0, FiGraph_leads_1, h, h1]
      · simp [h1] at hq
        simp [lkIndexFunc_Sint_int_iGraph_leads_1_0, FiGraph_leads_1, h, h1, hq])
    (fun n => by simp [lkIndexFunc_Sint_int_iGraph_leads_1_0]) (by omega)
  simp only [Int.natCast_zero] at hL
  simp only [FiGraph_leads, FkContainsFunc_Sint_int_iGraph_leads_1, FkIndexFunc_Sint_int_iGraph_leads_1, hL]
  cases hf : xs.findIdx? (fun x => decide (x < low) || decide (x ≥ (g.1.length : Int))) with
  | none =>
    have : (xs.all fun x => decide (low ≤ x) && decide (x < (g.1.length : Int))) = true := by
      rw [List.findIdx?_eq_none_iff] at hf
      rw [List.all_eq_true]
      intro x hx
      have := hf x hx
      simp at this ⊢
      omega
    simp [this]
  | some i =>
    have : (xs.all fun x => decide (low ≤ x) && decide (x < (g.1.length : Int))) = false := by
      rw [List.findIdx?_eq_some_iff_getElem] at hf
      obtain ⟨h, h1, _⟩ := hf
      rw [List.all_eq_false]
      refine ⟨_, List.getElem_mem h, ?_⟩
      simp at h1 ⊢
      omega
    simp [this]

theorem leads1_ok {g : Gr} {xs : List Int} (hl : xs.length ≤ lim) : FiGraph_leads N (g, xs, -1, ()) = some (okR g.1.length xs, ()) := leads_ok hN hl

theorem iGraphOk_ok {g : Gr} (hs : smG g) : FiGraphOk N (g, ()) = some (okG g, ()) := by
  obtain ⟨a1, a2, a3, a4, a5⟩ := hs
  have h1 := all_loop (xs := g.1) (n := N) (okN g.1.length) (L := fun n i => liGraphOk_0 N n (g, g.1, (g.1.length : Int), (i : Int), ())) (yes := .inl (g, ())) (no := .inr (false, ())) (sm_lim a1)
    (fun n i h hw hq => by
      simp [okN] at hq
      simp [liGraphOk_0, h, hw, leads1_ok hN (sm_lim (a2 _ (List.getElem_mem h)).1), hq, Nat.not_lt.2 hq.1, Nat.not_lt.2 hq.2.1]
      )
    (fun n i h hq => by
      simp only [liGraphOk_0, leads1_ok hN (sm_lim (a2 _ (List.getElem_mem h)).1), getD_lt h, Int.toNat_natCast]
      simp only [okN] at hq
      by_cases h1 : g.1[i].1.length ≤ 4 <;> by_cases h2 : g.1[i].2.1.length ≤ 4 <;> simp_all)
    (fun n => by simp [liGraphOk_0]) (by have := sm_lim a1; omega)
  have h2 := all_loop (xs := g.2.1) (n := N) (fun r => decide (r.length ≤ 8) && okR g.1.length r) (L := fun n i => liGraphOk_2 N n (g, g.2.1, (g.2.1.length : Int), (i : Int), ())) (yes := .inl ()) (no := .inr (false, ())) (sm_lim a3)
    (fun n i h hw hq => by
      simp at hq
      simp [liGraphOk_2, h, hw, leads1_ok hN (sm_lim (a4 _ (List.getElem_mem h))), hq, Nat.not_lt.2 hq.1])
    (fun n i h hq => by
      simp only [liGraphOk_2, leads1_ok hN (sm_lim (a4 _ (List.getElem_mem h))), getD_lt h, Int.toNat_natCast]
      by_cases h1 : g.2.1[i].length ≤ 8 <;> simp_all)
    (fun n => by simp [liGraphOk_2]) (by have := sm_lim a3; omega)
  simp only [Int.natCast_zero] at h1 h2
  simp only [FiGraphOk, okG]
  have hp : (g.2.2.1.all (fun x => decide (0 ≤ x)) && okR g.1.length g.2.2.1) = g.2.2.1.all fun x => decide (0 ≤ x) && decide (x < (g.1.length : Int)) := by
    rw [Bool.eq_iff_iff]
    simp only [okR, Bool.and_eq_true, List.all_eq_true, decide_eq_true_eq]
    constructor
    · rintro ⟨h1, h2⟩ x hx; exact ⟨h1 x hx, (h2 x hx).2⟩
    · intro h; exact ⟨fun x hx => (h x hx).1, fun x hx => ⟨by have := (h x hx).1; omega, (h x hx).2⟩⟩
  rw [hp]
  by_cases b1 : g.1.length ≤ 200
  · by_cases b2 : 1 ≤ g.2.1.length
    · by_cases b3 : g.2.1.length ≤ 3
      · by_cases b4 : g.2.2.1.length ≤ 8
        · simp only [gt_iff_lt, lit_lt200, lt_lit1, lit_lt3, lit_lt8, Nat.not_lt.2 b1, Nat.not_lt.2 b2, Nat.not_lt.2 b3, Nat.not_lt.2 b4, b1, b2, b3, b4, decide_true, decide_false, cond_false, Option.bind_some, leads_ok hN (sm_lim a5), bif_neg]
          cases g.2.2.1.all fun x => decide (0 ≤ x) && decide (x < (g.1.length : Int))
          · simp
          · simp only [cond_true, Option.bind_some, Sum.elim_inl, h1]
            cases g.1.all (okN g.1.length)
            · simp
            · simp only [cond_true, Option.bind_some, Sum.elim_inl, h2]
              cases g.2.1.all fun r => decide (r.length ≤ 8) && okR g.1.length r <;> simp
        · simp [Nat.not_lt.2 b1, Nat.not_lt.2 b2, Nat.not_lt.2 b3, Nat.not_le.1 b4, b4]
      · simp [Nat.not_lt.2 b1, Nat.not_lt.2 b2, Nat.not_le.1 b3, b3]
    · simp [Nat.not_lt.2 b1, Nat.not_le.1 b2, b2]
  · simp [Nat.not_le.1 b1, b1]

end

section
variable {N : Nat} (hN : lim < N)
include hN

theorem okG_small {g : Gr} (h : okG g = true) : smG g := by
  obtain ⟨h1, h2, h3, h4, h5, h6, h7, h8⟩ := okG_iff.1 h
  simp only [smG, smN, sm]
  refine ⟨by omega, fun x hx => ?_, by omega, fun x hx => ?_, by omega⟩
  · have := h4 x hx; omega
  · have := h5 x hx; omega

/-- One list of references, by the places. -/
theorem meets_loop {m : Nat} {xs : List Int} (hx : ∀ x ∈ xs, x < (m : Int)) (hm : m ≤ 200) (hl : xs.length ≤ lim) {ρ : Type} {L : Nat → Nat → Mst → Option ρ} {fin : Mst → ρ}
    (h1 : ∀ n i st (h : i < xs.length), w64 ((i : Int) + 1) = ((i + 1 : Nat) : Int) → Met m st → (0 ≤ xs[i] → xs[i].toNat < st.2.length) → st.1.length + 1 ≤ lim → L (n + 1) i st = L n (i + 1) (meet st xs[i]))
    (h3 : ∀ n st, Met m st → L (n + 1) xs.length st = some (fin st)) {st : Mst} (hst : Met m st) : L N 0 st = some (fin (xs.foldl meet st)) :=
  (fold_loop (xs := xs) (n := N) meet (fun _ st => Met m st) (L := L) (fin := fin) hl
    (fun n i st h hw hI => by
      have hr := hx _ (List.getElem_mem h)
      refine ⟨h1 n i st h hw hI (fun h0 => by have := hI.len; omega) ?_, hI.meet hr⟩
      have := hI.le; rw [lim_eq]; omega)
    (fun n st hI => h3 n st hI) (by omega) hst).1

theorem roots_loop {m : Nat} {ls : List (List Int)} (hx : ∀ l ∈ ls, ∀ x ∈ l, x < (m : Int)) (hl : ls.length ≤ lim) {ρ : Type} {L : Nat → Nat → Mst → Option ρ} {fin : Mst → ρ}
    (h1 : ∀ n i st (h : i < ls.length), w64 ((i : Int) + 1) = ((i + 1 : Nat) : Int) → Met m st → L (n + 1) i st = L n (i + 1) (ls[i].foldl meet st))
    (h3 : ∀ n st, Met m st → L (n + 1) ls.length st = some (fin st)) {st : Mst} (hst : Met m st) : L N 0 st = some (fin (ls.foldl (fun s l => l.foldl meet s) st)) :=
  (fold_loop (xs := ls) (n := N) (fun s l => l.foldl meet s) (fun _ st => Met m st) (L := L) (fin := fin) hl
    (fun n i st h hw hI => ⟨h1 n i st h hw hI, hI.meets (hx _ (List.getElem_mem h))⟩)
    (fun n st hI => h3 n st hI) (by omega) hst).1

theorem walk_loop {m : Nat} {R : Int → List Int} (hR : ∀ r, 0 ≤ r → r < (m : Int) → ∀ x ∈ R r, x < (m : Int)) (hm : m ≤ 200) {ρ : Type} {L : Nat → Nat → Mst → Option ρ} {fin : Mst → ρ}
    (h1 : ∀ n (i : Nat) st (h : i < st.1.length), w64 ((i : Int) + 1) = ((i + 1 : Nat) : Int) → Met m st → L (n + 1) i st = L n (i + 1) ((R st.1[i]).foldl meet st))
    (h3 : ∀ n i st, ¬ i < st.1.length → Met m st → L (n + 1) i st = some (fin st)) {st : Mst} (hst : Met m st) : L N 0 st = some (fin (walk R (m + 1) 0 st)) := by
  have key : ∀ n i st, Met m st → i ≤ st.1.length → m - i < n → L n i st = some (fin (walk R (m + 1 - i) i st)) := by
    intro n
    induction n with
    | zero => intro i st _ _ h; exact absurd h (Nat.not_lt_zero _)
    | succ n ih =>
      intro i st hI hi hn
      have hle := hI.le
      by_cases h : i < st.1.length
      · have e : m + 1 - i = (m + 1 - (i + 1)) + 1 := by omega
        rw [h1 n i st h (w64_succ (by omega)) hI, e]
        have hb := hI.meets (hR _ (hI.rng _ (List.getElem_mem h)).1 (hI.rng _ (List.getElem_mem h)).2)
        have hp := (meets_pre (l := R st.1[i]) (st := st)).length_le
        rw [ih (i + 1) _ hb (by omega) (by omega)]
        simp only [walk, h, if_true, getD_lt h]
      · rw [h3 n i st h hI]
        cases hk : m + 1 - i with
        | zero => rfl
        | succ k => simp only [walk, h, if_false]
  have := key N 0 st hst (by omega) (by rw [lim_eq] at hN; omega)
  simpa using this

end

theorem cguard {α : Type} {p : Prop} [Decidable p] {a z : Option α} (hp : p) (h : a = z) : (_root_.cond (decide p) a none) = z := by
  simpa [hp] using h

theorem begin_zero {o : Opx} {rs : List Int} {nil : Int} (h : beginC o rs nil = 0) : (o.1 = 8 → rs.length ≠ 0) ∧ (o.1 ≠ 1 → o.1 ≠ 8 → inB o.2.1 rs.length) ∧ (o.1 = 3 ∨ o.1 = 6 ∨ o.1 = 7 → inB o.2.2.1 rs.length) ∧ (o.1 = 7 → inB o.2.2.2.1 rs.length) ∧
    (o.1 ≠ 1 → o.1 ≠ 6 → o.1 ≠ 8 → o.1 ≠ 9 → rs.getD o.2.1.toNat 0 ≠ nil) ∧ (o.1 = 1 ∨ o.1 = 2 ∨ o.1 = 9 → rs.length ≠ 8) := by
  unfold beginC at h
  split at h
  · cases h
  · rename_i h1
    split at h
    · cases h
    · rename_i h2
      split at h
      · cases h
      · rename_i h3
        simp only [not_or, not_and, Decidable.not_not] at h1
        refine ⟨fun e => h1.1 e, fun e1 e2 => h1.2.1 e1 e2, fun e => h1.2.2.1 e, fun e => h1.2.2.2 e, fun e1 e2 e3 e4 e5 => h2 ⟨e1, e2, e3, e4, e5⟩, fun e1 e2 => h3 ⟨e1, e2⟩⟩

theorem inB_nat {i : Int} {n : Nat} (h : inB i n) : 0 ≤ i ∧ i.toNat < n := by unfold inB at h; omega
theorem inB_all {i : Int} {n : Nat} (h : inB i n) : 0 ≤ i ∧ i.toNat < n ∧ i < (n : Int) := by unfold inB at h; omega


section
variable {N : Nat} (hN : lim < N)
include hN

theorem iGraphDo_act {g : Gr} {t : Int} {o : Opx} (hs : smG g) (hg : okG g = true) (ht : inB t g.2.1.length) (ho : opOk o = true) (hz : beginC o (g.2.1.getD t.toNat []) (-1) = 0) :
    FiGraphDo N (g, t, o, ()) = some (actG g t o (g.2.1.getD t.toNat [])) := by
  have hlim : lim = 2147483648 := rfl
  obtain ⟨k1, k11⟩ := opOk_kind ho
  obtain ⟨t0, t1⟩ := inB_nat ht
  obtain ⟨z1, z2, z3, z4, z5, z6⟩ := begin_zero hz
  have hok := okG_iff.1 hg
  have hrs : okR g.1.length (g.2.1.getD t.toNat []) = true ∧ (g.2.1.getD t.toNat []).length ≤ 8 := by
    rw [getD_lt t1]
    have := hok.2.2.2.2.1 _ (List.getElem_mem t1)
    exact ⟨this.2, this.1⟩
  have hn1 : g.1.length ≤ 200 := hok.1
  have hp8 : g.2.2.1.length ≤ 8 := hok.2.2.2.2.2.1
  have t1' : ¬ t < 0 := by omega
  have t2' : ¬ t ≥ (g.2.1.length : Int) := by unfold inB at ht; omega
  unfold FiGraphDo
  dsimp only
  refine obind_eq (r := .inl (t, g, o, ())) (by simp only [iGraphOk_ok hN hs, hg, iOpOk_ok, ho, t1', t2', Option.bind_some, Bool.not_true, cond_false, decide_false]) ?_
  dsimp only [Sum.elim_inl]
  refine obind_eq (iGraph_copy_ok hN hs) (cguard t0 (cguard t1 (obind_eq (iOp_early_ok hN k1 k11 hrs.2) ?_)))
  dsimp only
  rw [hz]
  generalize hrse : g.2.1.getD t.toNat [] = rs at *
  have hra : ∀ {i : Int}, inB i rs.length → rs.getD i.toNat 0 ≠ -1 → 0 ≤ rs.getD i.toNat 0 ∧ (rs.getD i.toNat 0).toNat < g.1.length ∧ rs.getD i.toNat 0 < (g.1.length : Int) := by
    intro i hi hne
    obtain ⟨a, b⟩ := inB_nat hi
    rw [getD_lt b] at hne ⊢
    have := okR_iff.1 hrs.1 _ (List.getElem_mem b)
    omega
  have hrm : ∀ {i : Int}, inB i rs.length → -1 ≤ rs.getD i.toNat 0 ∧ (0 ≤ rs.getD i.toNat 0 → (rs.getD i.toNat 0).toNat < g.1.length) := by
    intro i hi
    obtain ⟨a, b⟩ := inB_nat hi
    rw [getD_lt b]
    have := okR_iff.1 hrs.1 _ (List.getElem_mem b)
    omega
  obtain ⟨k, A, B, C, F, V, ⟨R, M, ⟨⟩⟩, ⟨⟩⟩ := o
  simp only at k1 k11 z1 z2 z3 z4 z5 z6
  have hot : (Int.ofNat t.toNat).toNat = t.toNat := rfl
  simp only [show ((0 : Int) != 0) = false from rfl, cond_false]
  -- what is read first
  have first : ∀ {β : Type} {z : Option β} {K : _ → Option β}, (k ≠ 1 → k ≠ 8 → inB A rs.length) →
      K ((k, A, B, C, F, V, (R, M, ()), ()), Int.ofNat t.toNat, (if k ≠ 1 ∧ k ≠ 8 then rs.getD A.toNat 0 else -1), g.1, g.2.1, g.2.2.1, ()) = z →
      Option.bind (_root_.cond (k != 1) (_root_.cond (k != 8) (_root_.cond (decide (0 ≤ A)) (_root_.cond (decide (A.toNat < rs.length)) (some ((k, A, B, C, F, V, (R, M, ()), ()), Int.ofNat t.toNat, rs.getD A.toNat 0, g.1, g.2.1, g.2.2.1, ())) none) none)
        (some ((k, A, B, C, F, V, (R, M, ()), ()), Int.ofNat t.toNat, -1, g.1, g.2.1, g.2.2.1, ()))) (some ((k, A, B, C, F, V, (R, M, ()), ()), Int.ofNat t.toNat, -1, g.1, g.2.1, g.2.2.1, ()))) K = z := by
    intro β z K h hK
    refine obind_eq ?_ hK
    by_cases c1 : k = 1
    · subst c1; simp
    · by_cases c8 : k = 8
      · subst c8; simp
      · obtain ⟨a, b⟩ := inB_nat (h c1 c8)
        simp [-List.getD_eq_getElem?_getD, c1, c8, a, b]
  refine first z2 ?_
  clear first
  dsimp only
  simp only [hot, hrse]
  rcases kind_cases k1 k11 with h | h | h | h | h | h | h | h | h | h | h <;> subst h
  · -- new
    simp only [opOk, shOk, Bool.and_eq_true, decide_eq_true_eq, Bool.or_eq_true, Bool.not_eq_true', decide_eq_false_iff_not] at ho
    obtain ⟨r0, r4, m0, m4⟩ := (ho.2.2.resolve_left (by simp))
    have m4' : M.toNat ≤ lim := by rw [lim_eq]; omega
    have l200 : ((g.1.length : Int) = 200) ↔ g.1.length = 200 := by omega
    have hl1 : g.1.length + 1 ≤ lim := by rw [lim_eq]; omega
    have hl2 : rs.length + 1 ≤ lim := by rw [lim_eq]; omega
    rcases Classical.propComplete (g.1.length = 200) with e | e
    · simp [-List.getD_eq_getElem?_getD, l200, e, actG]
    · simp [-List.getD_eq_getElem?_getD, l200, e, actG, hl2, inone_ok hN r0 r4, m0, m4', hl1]
  · -- load
    obtain ⟨n1, n2, n3⟩ := hra (z2 (by omega) (by omega)) (z5 (by omega) (by omega) (by omega) (by omega))
    have hl2 : rs.length + 1 ≤ lim := by rw [lim_eq]; omega
    by_cases f : inB F (g.1.getD (rs.getD A.toNat 0).toNat nd0).1.length
    · obtain ⟨f1, f2, f3⟩ := inB_all f
      simp [-List.getD_eq_getElem?_getD, actG, n1, n2, iOp_field_ok, f, f1, f2, hl2]
    · simp [-List.getD_eq_getElem?_getD, actG, n1, n2, iOp_field_ok, f]
  · -- store
    obtain ⟨b1, b2, b3⟩ := inB_all (z3 (by omega))
    obtain ⟨n1, n2, n3⟩ := hra (z2 (by omega) (by omega)) (z5 (by omega) (by omega) (by omega) (by omega))
    by_cases f : inB F (g.1.getD (rs.getD A.toNat 0).toNat nd0).1.length
    · obtain ⟨f1, f2, f3⟩ := inB_all f
      simp [-List.getD_eq_getElem?_getD, actG, n1, n2, b1, b2, iOp_field_ok, f, f1, f2]
    · simp [-List.getD_eq_getElem?_getD, actG, n1, n2, iOp_field_ok, f]
  · -- put
    obtain ⟨n1, n2, n3⟩ := hra (z2 (by omega) (by omega)) (z5 (by omega) (by omega) (by omega) (by omega))
    by_cases f : inB F (g.1.getD (rs.getD A.toNat 0).toNat nd0).2.1.length
    · obtain ⟨f1, f2, f3⟩ := inB_all f
      simp [-List.getD_eq_getElem?_getD, actG, n1, n2, iOp_field_ok, f, f1, f2]
    · simp [-List.getD_eq_getElem?_getD, actG, n1, n2, iOp_field_ok, f]
  · -- get
    obtain ⟨n1, n2, n3⟩ := hra (z2 (by omega) (by omega)) (z5 (by omega) (by omega) (by omega) (by omega))
    by_cases f : inB F (g.1.getD (rs.getD A.toNat 0).toNat nd0).2.1.length
    · obtain ⟨f1, f2, f3⟩ := inB_all f
      simp [-List.getD_eq_getElem?_getD, actG, n1, n2, iOp_field_ok, f, f1, f2]
    · simp [-List.getD_eq_getElem?_getD, actG, n1, n2, iOp_field_ok, f]
  · -- same
    obtain ⟨b1, b2, b3⟩ := inB_all (z3 (by omega))
    obtain ⟨m1, m2⟩ := hrm (z2 (by omega) (by omega))
    by_cases e : 0 ≤ rs.getD A.toNat 0
    · have m2 := m2 e
      simp [-List.getD_eq_getElem?_getD, actG, e, m2, b1, b2, iOp_field_ok, itruth_ok]
    · simp [-List.getD_eq_getElem?_getD, actG, e, b1, b2, itruth_ok]
  · -- cas
    obtain ⟨b1, b2, b3⟩ := inB_all (z3 (by omega))
    obtain ⟨c1, c2, c3⟩ := inB_all (z4 (by omega))
    obtain ⟨n1, n2, n3⟩ := hra (z2 (by omega) (by omega)) (z5 (by omega) (by omega) (by omega) (by omega))
    by_cases f : inB F (g.1.getD (rs.getD A.toNat 0).toNat nd0).1.length
    · obtain ⟨f1, f2, f3⟩ := inB_all f
      by_cases e : (g.1.getD (rs.getD A.toNat 0).toNat nd0).1.getD F.toNat 0 = rs.getD B.toNat 0
      · simp [-List.getD_eq_getElem?_getD, actG, n1, n2, b1, b2, c1, c2, iOp_field_ok, f, f1, f2, e]
      · simp [-List.getD_eq_getElem?_getD, actG, n1, n2, b1, b2, c1, c2, iOp_field_ok, f, f1, f2, e]
    · simp [-List.getD_eq_getElem?_getD, actG, n1, n2, iOp_field_ok, f]
  · -- drop
    have hl := z1 rfl
    have hw : w64 ((rs.length : Int) - 1) = ((rs.length - 1 : Nat) : Int) := by rw [w64_id (by omega) (by omega)]; omega
    have h1 : ((rs.length - 1 : Nat) : Int) ≤ (rs.length : Int) := by omega
    simp [-List.getD_eq_getElem?_getD, actG, hw, h1]
  · -- dup
    obtain ⟨m1, m2⟩ := hrm (z2 (by omega) (by omega))
    have hl2 : rs.length + 1 ≤ lim := by rw [lim_eq]; omega
    by_cases e : 0 ≤ rs.getD A.toNat 0
    · have m2 := m2 e
      simp [-List.getD_eq_getElem?_getD, actG, e, m2, iOp_field_ok, hl2]
    · simp [-List.getD_eq_getElem?_getD, actG, e, hl2]
  · -- pin
    obtain ⟨n1, n2, n3⟩ := hra (z2 (by omega) (by omega)) (z5 (by omega) (by omega) (by omega) (by omega))
    have hl2 : g.2.2.1.length + 1 ≤ lim := by rw [lim_eq]; omega
    have l8 : ((g.2.2.1.length : Int) = 8) ↔ g.2.2.1.length = 8 := by omega
    rcases Classical.propComplete (g.2.2.1.length = 8) with e | e <;> simp [-List.getD_eq_getElem?_getD, actG, n1, n2, iOp_field_ok, l8, e, hl2]
  · -- unpin
    obtain ⟨n1, n2, n3⟩ := hra (z2 (by omega) (by omega)) (z5 (by omega) (by omega) (by omega) (by omega))
    have hl2 : g.2.2.1.length ≤ lim := by rw [lim_eq]; omega
    have hlo := ilastOf_ok hN (a := rs.getD A.toNat 0) hl2
    have hr := lastFrom_rng g.2.2.1 (rs.getD A.toNat 0) 0 (-1) (by omega) (by omega)
    have e0 : lastFrom g.2.2.1 (rs.getD A.toNat 0) 0 (-1) = lastP g.2.2.1 (rs.getD A.toNat 0) := rfl
    rw [e0] at hr
    by_cases e : lastP g.2.2.1 (rs.getD A.toNat 0) < 0
    · simp [-List.getD_eq_getElem?_getD, actG, n1, n2, iOp_field_ok, hlo, e]
    · obtain ⟨j, hj⟩ := Int.eq_ofNat_of_zero_le (Int.not_lt.1 e)
      have hjl : j < g.2.2.1.length := by omega
      have hw : w64 ((j : Int) + 1) = ((j + 1 : Nat) : Int) := w64_succ (by omega)
      rw [hj] at hlo e
      simp only [actG, hj]
      have hd := kDelete_ok (N := N) hjl
      simp only [Int.natCast_add, Int.natCast_one] at hd hw
      simp [-List.getD_eq_getElem?_getD, n1, n2, iOp_field_ok, hlo, e, hw, hd]

theorem iGraphDo_ok {g : Gr} {t : Int} {o : Opx} (hs : smG g) : FiGraphDo N (g, t, o, ()) = some (doG g t o) := by
  by_cases hc : okG g = true ∧ inB t g.2.1.length ∧ opOk o = true
  · obtain ⟨hg, ht, ho⟩ := hc
    by_cases hz : beginC o (g.2.1.getD t.toNat []) (-1) = 0
    · rw [iGraphDo_act hN hs hg ht ho hz]
      simp only [doG, hg, ht, ho, hz, and_self, if_true]
    · obtain ⟨k1, k11⟩ := opOk_kind ho
      obtain ⟨t0, t1⟩ := inB_nat ht
      have t1' : ¬ t < 0 := by omega
      have t2' : ¬ t ≥ (g.2.1.length : Int) := by unfold inB at ht; omega
      have hr8 : (g.2.1.getD t.toNat []).length ≤ 8 := by
        rw [getD_lt t1]
        exact ((okG_iff.1 hg).2.2.2.2.1 _ (List.getElem_mem t1)).1
      unfold FiGraphDo
      dsimp only
      refine obind_eq (r := .inl (t, g, o, ())) (by simp only [iGraphOk_ok hN hs, hg, iOpOk_ok, ho, t1', t2', Option.bind_some, Bool.not_true, cond_false, decide_false]) ?_
      dsimp only [Sum.elim_inl]
      refine obind_eq (iGraph_copy_ok hN hs) (cguard t0 (cguard t1 (obind_eq (iOp_early_ok hN k1 k11 hr8) ?_)))
      simp only [doG, hg, ht, ho, hz, and_self, if_true, if_false]
      generalize beginC o (g.2.1.getD t.toNat []) (-1) = c at hz ⊢
      simp [hz]
  · simp only [doG, hc, if_false]
    unfold FiGraphDo
    dsimp only
    cases hg : okG g with
    | false => simp [iGraphOk_ok hN hs, hg]
    | true =>
      by_cases h1 : t < 0
      · simp [iGraphOk_ok hN hs, hg, h1]
      · by_cases h2 : t ≥ (g.2.1.length : Int)
        · have h2' : (g.2.1.length : Int) ≤ t := h2
          simp [iGraphOk_ok hN hs, hg, h1, h2']
        · have ht : inB t g.2.1.length := by unfold inB; omega
          have ho : opOk o = false := by
            cases h : opOk o with
            | false => rfl
            | true => exact absurd ⟨hg, ht, h⟩ hc
          have h2' : ¬ (g.2.1.length : Int) ≤ t := h2
          simp [iGraphOk_ok hN hs, hg, h1, h2', iOpOk_ok, ho]
end

section
variable {N : Nat} (hN : lim < N)
include hN

end

section
variable {N : Nat}

end

section
variable {N : Nat}

variable (hN : lim < N)
include hN

end

section
variable {N : Nat} (hN : lim < N)
include hN

end

section
variable {N : Nat} (hN : lim < N)
include hN

end

section
variable {N : Nat} (hN : lim < N)
include hN

end

theorem okR_mono {m m' : Nat} {l : List Int} (h : okR m l = true) (hm : m ≤ m') : okR m' l = true := by
  rw [okR_iff] at h ⊢
  intro x hx
  have := h x hx
  omega

theorem okR_push {m : Nat} {l : List Int} {x : Int} (h : okR m l = true) (h1 : -1 ≤ x) (h2 : x < (m : Int)) : okR m (l ++ [x]) = true := by
  rw [okR_iff] at h ⊢
  intro y hy
  simp only [List.mem_append, List.mem_singleton] at hy
  rcases hy with hy | rfl
  · exact h y hy
  · exact ⟨h1, h2⟩

theorem okR_set {m : Nat} {l : List Int} {x : Int} {i : Nat} (h : okR m l = true) (h1 : -1 ≤ x) (h2 : x < (m : Int)) : okR m (l.set i x) = true := by
  rw [okR_iff] at h ⊢
  intro y hy
  rcases List.mem_or_eq_of_mem_set hy with hy | rfl
  · exact h y hy
  · exact ⟨h1, h2⟩

theorem okR_sub {m : Nat} {l l' : List Int} (h : okR m l = true) (hs : ∀ x ∈ l', x ∈ l) : okR m l' = true := by
  rw [okR_iff] at h ⊢
  exact fun y hy => h y (hs y hy)

theorem okR_get {m : Nat} {l : List Int} {i : Nat} (h : okR m l = true) (hi : i < l.length) : -1 ≤ l.getD i 0 ∧ l.getD i 0 < (m : Int) := by
  rw [getD_lt hi]
  exact okR_iff.1 h _ (List.getElem_mem hi)

theorem inBn {i : Int} {n : Nat} (h : inB i n) : 0 ≤ i ∧ i.toNat < n := by unfold inB at h; omega

theorem beginZ {o : Opx} {rs : List Int} {nil : Int} (h : beginC o rs nil = 0) : (o.1 = 8 → rs.length ≠ 0) ∧ (o.1 ≠ 1 → o.1 ≠ 8 → inB o.2.1 rs.length) ∧ (o.1 = 3 ∨ o.1 = 6 ∨ o.1 = 7 → inB o.2.2.1 rs.length) ∧ (o.1 = 7 → inB o.2.2.2.1 rs.length) ∧
    (o.1 ≠ 1 → o.1 ≠ 6 → o.1 ≠ 8 → o.1 ≠ 9 → rs.getD o.2.1.toNat 0 ≠ nil) ∧ (o.1 = 1 ∨ o.1 = 2 ∨ o.1 = 9 → rs.length ≠ 8) := by
  unfold beginC at h
  split at h
  · cases h
  · rename_i h1
    split at h
    · cases h
    · rename_i h2
      split at h
      · cases h
      · rename_i h3
        simp only [not_or, not_and, Decidable.not_not] at h1
        refine ⟨fun e => h1.1 e, fun e1 e2 => h1.2.1 e1 e2, fun e => h1.2.2.1 e, fun e => h1.2.2.2 e, fun e1 e2 e3 e4 e5 => h2 ⟨e1, e2, e3, e4, e5⟩, fun e1 e2 => h3 ⟨e1, e2⟩⟩

/-- A graph with other roots of a thread. -/
theorem okG_roots {g : Gr} {t : Int} {l : List Int} (h : okG g = true) (hl : l.length ≤ 8) (hr : okR g.1.length l = true) : okG (g.1, g.2.1.set t.toNat l, g.2.2.1, ()) = true := by
  obtain ⟨h1, h2, h3, h4, h5, h6, h7, h8⟩ := okG_iff.1 h
  refine okG_iff.2 ⟨h1, by simpa using h2, by simpa using h3, h4, fun r hm => ?_, h6, h7, h8⟩
  rcases List.mem_or_eq_of_mem_set hm with hm | rfl
  · exact h5 r hm
  · exact ⟨hl, hr⟩

/-- A graph with another node. -/
theorem okG_node {g : Gr} {i : Nat} {n : Nd} (h : okG g = true) (hn : n.1.length ≤ 4 ∧ n.2.1.length ≤ 4 ∧ okR g.1.length n.1 = true) : okG (g.1.set i n, g.2.1, g.2.2.1, ()) = true := by
  obtain ⟨h1, h2, h3, h4, h5, h6, h7, h8⟩ := okG_iff.1 h
  refine okG_iff.2 ⟨by simpa using h1, h2, h3, fun x hm => ?_, by simpa using h5, h6, h7, by simpa using h8⟩
  simp only [List.length_set]
  rcases List.mem_or_eq_of_mem_set hm with hm | rfl
  · exact h4 x hm
  · exact hn

theorem actG_ok {g : Gr} {t : Int} {o : Opx} (hg : okG g = true) (ht : inB t g.2.1.length) (ho : opOk o = true) (hz : beginC o (g.2.1.getD t.toNat []) (-1) = 0) : okG (actG g t o (g.2.1.getD t.toNat [])).2.2 = true := by
  obtain ⟨k1, k11⟩ := opOk_kind ho
  obtain ⟨t0, t1⟩ := inBn ht
  obtain ⟨z1, z2, z3, z4, z5, z6⟩ := beginZ hz
  have hok := okG_iff.1 hg
  have hrs : okR g.1.length (g.2.1.getD t.toNat []) = true ∧ (g.2.1.getD t.toNat []).length ≤ 8 := by
    rw [getD_lt t1]
    have := hok.2.2.2.2.1 _ (List.getElem_mem t1)
    exact ⟨this.2, this.1⟩
  generalize hrse : g.2.1.getD t.toNat [] = rs at *
  have hra : ∀ {i : Int}, inB i rs.length → -1 ≤ rs.getD i.toNat 0 ∧ rs.getD i.toNat 0 < (g.1.length : Int) := fun hi => okR_get hrs.1 (inBn hi).2
  have hnode : ∀ {i : Int}, inB i rs.length → rs.getD i.toNat 0 ≠ -1 → (g.1.getD (rs.getD i.toNat 0).toNat nd0).1.length ≤ 4 ∧ (g.1.getD (rs.getD i.toNat 0).toNat nd0).2.1.length ≤ 4 ∧ okR g.1.length (g.1.getD (rs.getD i.toNat 0).toNat nd0).1 = true := by
    intro i hi hne
    have := hra hi
    have hlt : (rs.getD i.toNat 0).toNat < g.1.length := by omega
    rw [getD_lt hlt]
    exact hok.2.2.2.1 _ (List.getElem_mem hlt)
  obtain ⟨k, A, B, C, F, V, ⟨R, M, ⟨⟩⟩, ⟨⟩⟩ := o
  simp only at k1 k11 z1 z2 z3 z4 z5 z6
  unfold actG
  dsimp only
  rcases kind_cases k1 k11 with h | h | h | h | h | h | h | h | h | h | h <;> subst h <;> simp only [Int.reduceEq, ↓reduceIte]
  · simp only [opOk, shOk, Bool.and_eq_true, decide_eq_true_eq, Bool.or_eq_true, Bool.not_eq_true', decide_eq_false_iff_not] at ho
    obtain ⟨r0, r4, m0, m4⟩ := ho.2.2.resolve_left (by simp)
    split
    · exact hg
    · rename_i hne
      have z6 := z6 (.inl rfl)
      obtain ⟨h1, h2, h3, h4, h5, h6, h7, h8⟩ := hok
      refine okG_iff.2 ⟨by simp; omega, by simpa using h2, by simpa using h3, fun x hm => ?_, fun r hm => ?_, h6, h7, okR_mono h8 (by simp)⟩
      · simp only [List.mem_append, List.mem_singleton] at hm
        rcases hm with hm | rfl
        · exact ⟨(h4 x hm).1, (h4 x hm).2.1, okR_mono (h4 x hm).2.2 (by simp)⟩
        · refine ⟨by simp; omega, by simp; omega, okR_iff.2 fun y hy => ?_⟩
          have := List.eq_of_mem_replicate hy
          subst this
          simp only [List.length_append, List.length_singleton]
          omega
      · rcases List.mem_or_eq_of_mem_set hm with hm | rfl
        · exact ⟨(h5 r hm).1, okR_mono (h5 r hm).2 (by simp)⟩
        · refine ⟨by simp; omega, okR_push (okR_mono hrs.1 (by simp)) (by omega) (by simp only [List.length_append, List.length_singleton]; omega)⟩
  · have hA := z2 (by omega) (by omega)
    have hn := hnode hA (z5 (by omega) (by omega) (by omega) (by omega))
    have z6 := z6 (.inr (.inl rfl))
    split
    · rename_i hF
      have := okR_get hn.2.2 (inBn hF).2
      exact okG_roots hg (by simp; omega) (okR_push hrs.1 this.1 this.2)
    · exact hg
  · have hA := z2 (by omega) (by omega)
    have hn := hnode hA (z5 (by omega) (by omega) (by omega) (by omega))
    have hB := hra (z3 (by omega))
    split
    · exact okG_node hg ⟨by simpa using hn.1, hn.2.1, okR_set hn.2.2 hB.1 hB.2⟩
    · exact hg
  · have hA := z2 (by omega) (by omega)
    have hn := hnode hA (z5 (by omega) (by omega) (by omega) (by omega))
    split
    · exact okG_node hg ⟨hn.1, by simpa using hn.2.1, hn.2.2⟩
    · exact hg
  · split <;> exact hg
  · exact hg
  · have hA := z2 (by omega) (by omega)
    have hn := hnode hA (z5 (by omega) (by omega) (by omega) (by omega))
    have hC := hra (z4 (by omega))
    split
    · split
      · exact okG_node hg ⟨by simpa using hn.1, hn.2.1, okR_set hn.2.2 hC.1 hC.2⟩
      · exact hg
    · exact hg
  · exact okG_roots hg (by simp; omega) (okR_sub hrs.1 fun x hx => List.mem_of_mem_take hx)
  · have hA := hra (z2 (by omega) (by omega))
    have z6 := z6 (.inr (.inr rfl))
    exact okG_roots hg (by simp; omega) (okR_push hrs.1 hA.1 hA.2)
  · have hA := z2 (by omega) (by omega)
    have hAr := hra hA
    have hne := z5 (by omega) (by omega) (by omega) (by omega)
    split
    · exact hg
    · obtain ⟨h1, h2, h3, h4, h5, h6, h7, h8⟩ := hok
      refine okG_iff.2 ⟨h1, h2, h3, h4, h5, by simp; omega, fun x hx => ?_, okR_push h8 hAr.1 hAr.2⟩
      simp only [List.mem_append, List.mem_singleton] at hx
      rcases hx with hx | rfl
      · exact h7 x hx
      · omega
  · split
    · exact hg
    · obtain ⟨h1, h2, h3, h4, h5, h6, h7, h8⟩ := hok
      have hsub : ∀ x ∈ g.2.2.1.take (lastP g.2.2.1 (rs.getD A.toNat 0)).toNat ++ g.2.2.1.drop ((lastP g.2.2.1 (rs.getD A.toNat 0)).toNat + 1), x ∈ g.2.2.1 := by
        intro x hx
        rcases List.mem_append.1 hx with hx | hx
        · exact List.mem_of_mem_take hx
        · exact List.mem_of_mem_drop hx
      exact okG_iff.2 ⟨h1, h2, h3, h4, h5, by simp; omega, fun x hx => h7 x (hsub x hx), okR_sub h8 hsub⟩

theorem doG_ok {g : Gr} {t : Int} {o : Opx} (h : (doG g t o).2.1 ≠ 1) : okG g = true ∧ okG (doG g t o).2.2 = true := by
  unfold doG at h ⊢
  split
  · rename_i hc
    refine ⟨hc.1, ?_⟩
    split
    · rename_i hz; exact actG_ok hc.1 hc.2.1 hc.2.2 hz
    · exact hc.1
  · rename_i hc; simp [hc] at h

theorem actG_len {g : Gr} {t : Int} {o : Opx} {rs : List Int} : g.1.length ≤ (actG g t o rs).2.2.1.length ∧ (actG g t o rs).2.2.2.1.length = g.2.1.length := by
  by_cases h1 : o.1 = 1
  · simp only [actG, h1, Int.reduceEq, ↓reduceIte]
    split <;> simp
  by_cases h2 : o.1 = 2
  · simp only [actG, h2, Int.reduceEq, ↓reduceIte]
    split <;> simp
  by_cases h3 : o.1 = 3
  · simp only [actG, h3, Int.reduceEq, ↓reduceIte]
    split <;> simp
  by_cases h4 : o.1 = 4
  · simp only [actG, h4, Int.reduceEq, ↓reduceIte]
    split <;> simp
  by_cases h5 : o.1 = 5
  · simp only [actG, h5, Int.reduceEq, ↓reduceIte]
    split <;> simp
  by_cases h6 : o.1 = 6
  · simp only [actG, h6, Int.reduceEq, ↓reduceIte]
    simp
  by_cases h7 : o.1 = 7
  · simp only [actG, h7, Int.reduceEq, ↓reduceIte]
    (repeat' split) <;> simp
  by_cases h8 : o.1 = 8
  · simp only [actG, h8, Int.reduceEq, ↓reduceIte]
    simp
  by_cases h9 : o.1 = 9
  · simp only [actG, h9, Int.reduceEq, ↓reduceIte]
    simp
  by_cases h10 : o.1 = 10
  · simp only [actG, h10, Int.reduceEq, ↓reduceIte]
    split <;> simp
  simp only [actG, h1, h2, h3, h4, h5, h6, h7, h8, h9, h10, if_false]
  split <;> simp

theorem doG_len {g : Gr} {t : Int} {o : Opx} (h : (doG g t o).2.1 ≠ 1) : g.1.length ≤ (doG g t o).2.2.1.length ∧ (doG g t o).2.2.2.1.length = g.2.1.length := by
  unfold doG at h ⊢
  split
  · split
    · exact actG_len
    · exact ⟨Nat.le_refl _, rfl⟩
  · rename_i hc; simp [hc] at h

section
variable {N : Nat} (hN : lim < N)
include hN

theorem doG_smG {g : Gr} {t : Int} {o : Opx} : smG (doG g t o).2.2 := by
  unfold doG
  split
  · rename_i hc
    split
    · rename_i hz; exact okG_small hN (actG_ok hc.1 hc.2.1 hc.2.2 hz)
    · exact okG_small hN hc.1
  · exact ⟨by simp [sm], by simp, by simp [sm], by simp, by simp [sm]⟩
end

theorem wf_u8 {n : Int} (h : (Lit.int .u8 n).wf = true) : 0 ≤ n ∧ n < 256 := by
  simp only [Lit.wf, IntKind.min, IntKind.max, IntKind.signed, IntKind.bits] at h
  simp at h
  omega
theorem wf_i64 {n : Int} (h : (Lit.int .i64 n).wf = true) : -9223372036854775808 ≤ n ∧ n < 9223372036854775808 := by
  simp only [Lit.wf, IntKind.min, IntKind.max, IntKind.signed, IntKind.bits] at h
  simp at h
  omega

/-- Rows of at most so many elements. -/
def lnT : (t : Ty) → t.den → Prop
  | .pair a b, x => lnT a x.1 ∧ lnT b x.2
  | .sl t, xs => xs.length ≤ 1048576 ∧ ∀ x ∈ xs, lnT t x
  | .fz t, x => lnT t x
  | _, _ => True

/-- Marks, one element behind the other. -/
def mkS {α : Type} (f : Int → α → Int × α) : Int → List α → Int × List α
  | k, [] => (k, [])
  | k, x :: r => ((mkS f (f k x).1 r).1, (f k x).2 :: (mkS f (f k x).1 r).2)

/-- Marks in an element. -/
def markE : (t : Ty) → Int → t.den → Int × t.den
  | .int _, k, _ => (k + 1, k)
  | .bool, k, _ => (k + 1, Int.tmod k 3 == 0)
  | .pair a b, k, x => ((markE b (markE a k x.1).1 x.2).1, ((markE a k x.1).2, (markE b (markE a k x.1).1 x.2).2))
  | .sl t, k, xs => mkS (markE t) k xs
  | .fz t, k, x => markE t k x
  | .str, k, x => (k, x)
  | .unit, k, x => (k, x)
  | .mp _, k, x => (k, x)
  | .hnd _, k, x => (k, x)

/-- So many marks at most. -/
def bndT : Ty → Int
  | .int _ | .bool => 1
  | .pair a b => bndT a + bndT b
  | .sl t => 1048576 * bndT t
  | .fz t => bndT t
  | _ => 0

theorem bndT_nn : ∀ t : Ty, 0 ≤ bndT t
  | .int _ | .bool => by simp [bndT]
  | .pair a b => by have := bndT_nn a; have := bndT_nn b; simp only [bndT]; omega
  | .sl t => by have := bndT_nn t; simp only [bndT]; omega
  | .fz t => by have := bndT_nn t; simp only [bndT]; omega
  | .str | .unit | .mp _ | .hnd _ => by simp [bndT]

theorem mkS_rng {α : Type} {f : Int → α → Int × α} {P : α → Prop} {B : Int} (hB : ∀ k x, P x → k ≤ (f k x).1 ∧ (f k x).1 ≤ k + B) : ∀ {xs : List α} (k : Int), (∀ x ∈ xs, P x) → k ≤ (mkS f k xs).1 ∧ (mkS f k xs).1 ≤ k + B * xs.length
  | [], k, _ => by simp [mkS]
  | x :: r, k, h => by
    have h1 := hB k x (h x (by simp))
    have h2 := mkS_rng hB (xs := r) (f k x).1 fun y hy => h y (by simp [hy])
    simp only [mkS, List.length_cons, Int.natCast_add, Int.natCast_one, Int.mul_add, Int.mul_one]
    omega

theorem mkS_len {α : Type} {f : Int → α → Int × α} : ∀ {xs : List α} (k : Int), (mkS f k xs).2.length = xs.length
  | [], _ => rfl
  | x :: r, k => by simp [mkS, mkS_len]

theorem markE_rng : ∀ {t : Ty} {x : t.den} (k : Int), lnT t x → k ≤ (markE t k x).1 ∧ (markE t k x).1 ≤ k + bndT t
  | .int _, _, _, _ | .bool, _, _, _ => by simp only [markE, bndT]; omega
  | .pair a b, x, k, h => by
    have h1 := markE_rng (t := a) (x := x.1) k h.1
    have h2 := markE_rng (t := b) (x := x.2) (markE a k x.1).1 h.2
    simp only [markE, bndT]; omega
  | .sl t, xs, k, h => by
    have h1 := mkS_rng (f := markE t) (P := lnT t) (B := bndT t) (fun k x hx => markE_rng k hx) (xs := xs) k h.2
    have h2 : bndT t * (xs.length : Int) ≤ bndT t * 1048576 := Int.mul_le_mul_of_nonneg_left (by have := h.1; omega) (bndT_nn t)
    simp only [markE, bndT]; omega
  | .fz t, x, k, h => markE_rng (t := t) (x := x) k h
  | .str, _, _, _ | .unit, _, _, _ | .mp _, _, _, _ | .hnd _, _, _, _ => by simp only [markE, bndT]; omega

/-- Marking goes element by element. -/
theorem mark_loop {α ρ : Type} {f : Int → α → Int × α} {P : α → Prop} {B : Int} {xs : List α} {L : Nat → Int → Nat → List α → Option ρ} {fin : Int → List α → ρ} (hl : xs.length ≤ lim) (hx : ∀ x ∈ xs, P x) (b0 : 0 ≤ B)
    (hB : ∀ k x, P x → k ≤ (f k x).1 ∧ (f k x).1 ≤ k + B)
    (h1 : ∀ n k i (s : List α) (h : i < s.length), P s[i] → 0 ≤ k → k + B ≤ 4611686018427387904 → w64 ((i : Int) + 1) = ((i + 1 : Nat) : Int) → L (n + 1) k i s = L n (f k s[i]).1 (i + 1) (s.set i (f k s[i]).2))
    (h3 : ∀ n k s, L (n + 1) k s.length s = some (fin k s)) {n : Nat} (hn : xs.length < n) {k : Int} (h0 : 0 ≤ k) (hk : k + B * xs.length ≤ 4611686018427387904) : L n k 0 xs = some (fin (mkS f k xs).1 (mkS f k xs).2) := by
  have key : ∀ (ys pre : List α) (n : Nat) (k : Int), (∀ x ∈ ys, P x) → pre.length + ys.length ≤ lim → ys.length < n → 0 ≤ k → k + B * ys.length ≤ 4611686018427387904 →
      L n k pre.length (pre ++ ys) = some (fin (mkS f k ys).1 (pre ++ (mkS f k ys).2)) := by
    intro ys
    induction ys with
    | nil =>
      intro pre n k _ _ hn _ _
      obtain ⟨n, rfl⟩ : ∃ n', n = n' + 1 := ⟨n - 1, by simp at hn; omega⟩
      have := h3 n k pre
      simpa [mkS] using this
    | cons y ys ih =>
      intro pre n k hy hl hn h0 hk
      obtain ⟨n, rfl⟩ : ∃ n', n = n' + 1 := ⟨n - 1, by simp at hn; omega⟩
      have hlim : lim = 2147483648 := rfl
      simp only [List.length_cons, Int.natCast_add, Int.natCast_one, Int.mul_add, Int.mul_one] at hl hn hk
      have b1 : 0 ≤ B * (ys.length : Int) := Int.mul_nonneg b0 (by omega)
      have hlt : pre.length < (pre ++ y :: ys).length := by simp
      have hg : (pre ++ y :: ys)[pre.length] = y := by simp
      have hPy := hy y (by simp)
      have h4 := hB k y hPy
      have := h1 n k pre.length (pre ++ y :: ys) hlt (by rw [hg]; exact hPy) h0 (by omega) (w64_succ (by omega))
      rw [this, hg]
      have e : (pre ++ y :: ys).set pre.length (f k y).2 = (pre ++ [(f k y).2]) ++ ys := by simp
      have := ih (pre ++ [(f k y).2]) n (f k y).1 (fun x hx => hy x (by simp [hx])) (by simp; omega) (by omega) (by omega) (by omega)
      simp only [List.length_append, List.length_singleton] at this
      rw [e, this]
      simp [mkS]
  have := key xs [] n k hx (by simpa using hl) hn h0 hk
  simpa using this

/-- What was marked is held. -/
theorem held_loop {α ρ : Type} {f : Int → α → Int × α} {P : α → Prop} {B : Int} {xs : List α} {L : Nat → List α → Int → Nat → Option ρ} {fin : Int → ρ} (hl : xs.length ≤ lim) (hx : ∀ x ∈ xs, P x) (b0 : 0 ≤ B)
    (hB : ∀ k x, P x → k ≤ (f k x).1 ∧ (f k x).1 ≤ k + B)
    (h1 : ∀ n k i (s : List α) (h : i < s.length) x, s[i] = (f k x).2 → P x → 0 ≤ k → k + B ≤ 4611686018427387904 → w64 ((i : Int) + 1) = ((i + 1 : Nat) : Int) → L (n + 1) s k i = L n s (f k x).1 (i + 1))
    (h3 : ∀ n k s, L (n + 1) s k s.length = some (fin k)) {n : Nat} (hn : xs.length < n) {k : Int} (h0 : 0 ≤ k) (hk : k + B * xs.length ≤ 4611686018427387904) : L n (mkS f k xs).2 k 0 = some (fin (mkS f k xs).1) := by
  have key : ∀ (ys pre : List α) (n : Nat) (k : Int), (∀ x ∈ ys, P x) → pre.length + ys.length ≤ lim → ys.length < n → 0 ≤ k → k + B * ys.length ≤ 4611686018427387904 →
      L n (pre ++ (mkS f k ys).2) k pre.length = some (fin (mkS f k ys).1) := by
    intro ys
    induction ys with
    | nil =>
      intro pre n k _ _ hn _ _
      obtain ⟨n, rfl⟩ : ∃ n', n = n' + 1 := ⟨n - 1, by simp at hn; omega⟩
      have := h3 n k pre
      simpa [mkS] using this
    | cons y ys ih =>
      intro pre n k hy hl hn h0 hk
      obtain ⟨n, rfl⟩ : ∃ n', n = n' + 1 := ⟨n - 1, by simp at hn; omega⟩
      have hlim : lim = 2147483648 := rfl
      simp only [List.length_cons, Int.natCast_add, Int.natCast_one, Int.mul_add, Int.mul_one] at hl hn hk
      have b1 : 0 ≤ B * (ys.length : Int) := Int.mul_nonneg b0 (by omega)
      have hPy := hy y (by simp)
      have h4 := hB k y hPy
      simp only [mkS]
      generalize hq : (mkS f (f k y).1 ys).2 = q
      have hlt : pre.length < (pre ++ (f k y).2 :: q).length := by simp
      have hg : (pre ++ (f k y).2 :: q)[pre.length] = (f k y).2 := by simp
      rw [h1 n k pre.length _ hlt y hg hPy h0 (by omega) (w64_succ (by omega))]
      have := ih (pre ++ [(f k y).2]) n (f k y).1 (fun x hx => hy x (by simp [hx])) (by simp; omega) (by omega) (by omega) (by omega)
      rw [hq] at this
      simp only [List.length_append, List.length_singleton, List.append_assoc, List.cons_append, List.nil_append] at this
      exact this
  have := key xs [] n k hx (by simpa using hl) hn h0 hk
  simpa using this

theorem getD_set_i {α : Type} {l : List α} {i : Nat} {x d : α} (h : i < l.length) : (l.set i x).getD i d = x := by
  rw [getD_lt (by simpa using h)]; exact List.getElem_set_self _

theorem ne_step {α : Type} [DecidableEq α] {a b : α} {c : Bool} : (_root_.cond (a != b) (some (false, ())) (some (c, ())) : Option (Bool × Unit)) = some (decide (a = b) && c, ()) := by
  by_cases h : a = b <;> simp [h]
theorem not_step {d c : Bool} : (_root_.cond (!d) (some (false, ())) (some (c, ())) : Option (Bool × Unit)) = some (d && c, ()) := by
  cases d <;> rfl
theorem bool_beq {a b : Bool} : (a == b) = decide (a = b) := by cases a <;> cases b <;> rfl

/-- A row's size. -/
theorem sz_loop {α : Type} {xs : List α} (P : α → Prop) {L : Nat → Nat → Int → Option ((Int × Unit) ⊕ (Int × Unit))} {N : Nat} (hN : lim < N) {left : Int} (hx : (xs.length : Int) ≤ 9223372036854775807) (h0 : 0 ≤ left) (h1' : left ≤ 1048576)
    (h1 : ∀ n i (h : i < xs.length) (left : Int), 0 ≤ left → left ≤ 1048576 → w64 ((i : Int) + 1) = ((i + 1 : Nat) : Int) →
      L (n + 1) i left = some (.inr (-1, ())) ∨ ∃ r, 0 ≤ r ∧ r ≤ left ∧ P xs[i] ∧ L (n + 1) i left = L n (i + 1) r)
    (h3 : ∀ n left, L (n + 1) xs.length left = some (.inl (left, ()))) :
    ∃ r : Int, (_root_.cond (decide (w64 (left - (xs.length : Int)) < 0)) (some ((-1 : Int), ())) ((L N 0 (w64 (left - (xs.length : Int)))).bind fun o => Sum.elim (fun o => some (o.1, ())) (fun o => some (o.1, ())) o) : Option (Int × Unit)) = some (r, ()) ∧
      (r < 0 ∨ (0 ≤ r ∧ r ≤ left ∧ xs.length ≤ 1048576 ∧ ∀ x ∈ xs, P x)) := by
  rw [w64_id (by omega) (by omega)]
  by_cases h : left - (xs.length : Int) < 0
  · exact ⟨-1, by simp [h], by simp⟩
  · simp only [h, decide_false, cond_false]
    have hlim : lim = 2147483648 := rfl
    rcases size_loop (xs := xs) (n := N) P (by omega) h1 h3 (by omega) (left := left - xs.length) (by omega) (by omega) with hL | ⟨r, h2, h3, h4, hL⟩
    · exact ⟨-1, by rw [hL]; rfl, by simp⟩
    · exact ⟨r, by rw [hL]; rfl, .inr ⟨h2, by omega, by omega, h4⟩⟩

abbrev tIntS : Ty := (.sl (.int .i64))
abbrev tBoolS : Ty := (.sl .bool)
abbrev tShape : Ty := (.pair (.int .i64) (.pair (.int .i64) .unit))
abbrev tOp : Ty := (.pair (.int .i64) (.pair (.int .i64) (.pair (.int .i64) (.pair (.int .i64) (.pair (.int .i64) (.pair (.int .i64) (.pair (.pair (.int .i64) (.pair (.int .i64) .unit)) .unit)))))))
abbrev tOpS : Ty := (.sl (.pair (.int .i64) (.pair (.int .i64) (.pair (.int .i64) (.pair (.int .i64) (.pair (.int .i64) (.pair (.int .i64) (.pair (.pair (.int .i64) (.pair (.int .i64) .unit)) .unit))))))))
abbrev tOpSS : Ty := (.sl (.sl (.pair (.int .i64) (.pair (.int .i64) (.pair (.int .i64) (.pair (.int .i64) (.pair (.int .i64) (.pair (.int .i64) (.pair (.pair (.int .i64) (.pair (.int .i64) .unit)) .unit)))))))))
abbrev tEvent : Ty := (.pair (.int .i64) (.pair (.int .i64) (.pair (.int .i64) (.pair (.int .i64) .unit))))
abbrev tEventS : Ty := (.sl (.pair (.int .i64) (.pair (.int .i64) (.pair (.int .i64) (.pair (.int .i64) .unit)))))
abbrev tRegion : Ty := (.pair (.int .i64) (.pair (.int .i64) (.pair (.int .i64) (.pair (.int .i64) (.pair (.int .i64) .unit)))))
abbrev tRegionS : Ty := (.sl (.pair (.int .i64) (.pair (.int .i64) (.pair (.int .i64) (.pair (.int .i64) (.pair (.int .i64) .unit))))))
abbrev tThread : Ty := (.pair (.sl (.int .i64)) (.pair (.int .i64) (.pair .bool (.pair (.int .i64) .unit))))
abbrev tThreadS : Ty := (.sl (.pair (.sl (.int .i64)) (.pair (.int .i64) (.pair .bool (.pair (.int .i64) .unit)))))
abbrev tState : Ty := (.pair (.sl (.int .i64)) (.pair (.sl (.pair (.int .i64) (.pair (.int .i64) (.pair (.int .i64) (.pair (.int .i64) (.pair (.int .i64) .unit)))))) (.pair (.sl .bool) (.pair (.int .i64) (.pair .bool (.pair .bool (.pair .bool (.pair (.int .i64) (.pair (.sl (.pair (.sl (.int .i64)) (.pair (.int .i64) (.pair .bool (.pair (.int .i64) .unit))))) (.pair (.sl (.int .i64)) (.pair (.sl (.int .i64)) (.pair (.int .i64) (.pair (.int .i64) .unit)))))))))))))
abbrev tConfig : Ty := (.pair (.int .i64) (.pair (.int .i64) (.pair (.int .i64) .unit)))
abbrev tCall : Ty := (.pair (.int .i64) (.pair (.int .i64) (.pair (.int .i64) (.pair (.int .i64) (.pair (.int .i64) (.pair (.int .i64) .unit))))))
abbrev tCallS : Ty := (.sl (.pair (.int .i64) (.pair (.int .i64) (.pair (.int .i64) (.pair (.int .i64) (.pair (.int .i64) (.pair (.int .i64) .unit)))))))
abbrev tNode : Ty := (.pair (.sl (.int .i64)) (.pair (.sl (.int .i64)) .unit))
abbrev tNodeS : Ty := (.sl (.pair (.sl (.int .i64)) (.pair (.sl (.int .i64)) .unit)))
abbrev tIntSS : Ty := (.sl (.sl (.int .i64)))
abbrev tGraph : Ty := (.pair (.sl (.pair (.sl (.int .i64)) (.pair (.sl (.int .i64)) .unit))) (.pair (.sl (.sl (.int .i64))) (.pair (.sl (.int .i64)) .unit)))
instance decOp_6 : DecidableEq ((Int × Int × Unit) × Unit) := @instDecidableEqProd _ _ inferInstance inferInstance
instance decOp_5 : DecidableEq (Int × ((Int × Int × Unit) × Unit)) := @instDecidableEqProd _ _ inferInstance decOp_6
instance decOp_4 : DecidableEq (Int × (Int × (Int × Int × Unit) × Unit)) := @instDecidableEqProd _ _ inferInstance decOp_5
instance decOp_3 : DecidableEq (Int × (Int × Int × (Int × Int × Unit) × Unit)) := @instDecidableEqProd _ _ inferInstance decOp_4
instance decOp_2 : DecidableEq (Int × (Int × Int × Int × (Int × Int × Unit) × Unit)) := @instDecidableEqProd _ _ inferInstance decOp_3
instance decOp_1 : DecidableEq (Int × (Int × Int × Int × Int × (Int × Int × Unit) × Unit)) := @instDecidableEqProd _ _ inferInstance decOp_2
instance decOp_0 : DecidableEq (Int × (Int × Int × Int × Int × Int × (Int × Int × Unit) × Unit)) := @instDecidableEqProd _ _ inferInstance decOp_1
instance decRegion_4 : DecidableEq (Int × Unit) := @instDecidableEqProd _ _ inferInstance inferInstance
instance decRegion_3 : DecidableEq (Int × (Int × Unit)) := @instDecidableEqProd _ _ inferInstance decRegion_4
instance decRegion_2 : DecidableEq (Int × (Int × Int × Unit)) := @instDecidableEqProd _ _ inferInstance decRegion_3
instance decRegion_1 : DecidableEq (Int × (Int × Int × Int × Unit)) := @instDecidableEqProd _ _ inferInstance decRegion_2
instance decRegion_0 : DecidableEq (Int × (Int × Int × Int × Int × Unit)) := @instDecidableEqProd _ _ inferInstance decRegion_1
instance decState_12 : DecidableEq (Int × Unit) := @instDecidableEqProd _ _ inferInstance inferInstance
instance decState_11 : DecidableEq (Int × (Int × Unit)) := @instDecidableEqProd _ _ inferInstance decState_12
instance decState_10 : DecidableEq ((List Int) × (Int × Int × Unit)) := @instDecidableEqProd _ _ inferInstance decState_11
instance decState_9 : DecidableEq ((List Int) × ((List Int) × Int × Int × Unit)) := @instDecidableEqProd _ _ inferInstance decState_10
instance decState_8 : DecidableEq ((List ((List Int) × Int × Bool × Int × Unit)) × ((List Int) × (List Int) × Int × Int × Unit)) := @instDecidableEqProd _ _ inferInstance decState_9
instance decState_7 : DecidableEq (Int × ((List ((List Int) × Int × Bool × Int × Unit)) × (List Int) × (List Int) × Int × Int × Unit)) := @instDecidableEqProd _ _ inferInstance decState_8
instance decState_6 : DecidableEq (Bool × (Int × (List ((List Int) × Int × Bool × Int × Unit)) × (List Int) × (List Int) × Int × Int × Unit)) := @instDecidableEqProd _ _ inferInstance decState_7
instance decState_5 : DecidableEq (Bool × (Bool × Int × (List ((List Int) × Int × Bool × Int × Unit)) × (List Int) × (List Int) × Int × Int × Unit)) := @instDecidableEqProd _ _ inferInstance decState_6
instance decState_4 : DecidableEq (Bool × (Bool × Bool × Int × (List ((List Int) × Int × Bool × Int × Unit)) × (List Int) × (List Int) × Int × Int × Unit)) := @instDecidableEqProd _ _ inferInstance decState_5
instance decState_3 : DecidableEq (Int × (Bool × Bool × Bool × Int × (List ((List Int) × Int × Bool × Int × Unit)) × (List Int) × (List Int) × Int × Int × Unit)) := @instDecidableEqProd _ _ inferInstance decState_4
instance decState_2 : DecidableEq ((List Bool) × (Int × Bool × Bool × Bool × Int × (List ((List Int) × Int × Bool × Int × Unit)) × (List Int) × (List Int) × Int × Int × Unit)) := @instDecidableEqProd _ _ inferInstance decState_3
instance decState_1 : DecidableEq ((List (Int × Int × Int × Int × Int × Unit)) × ((List Bool) × Int × Bool × Bool × Bool × Int × (List ((List Int) × Int × Bool × Int × Unit)) × (List Int) × (List Int) × Int × Int × Unit)) := @instDecidableEqProd _ _ inferInstance decState_2
instance decState_0 : DecidableEq ((List Int) × ((List (Int × Int × Int × Int × Int × Unit)) × (List Bool) × Int × Bool × Bool × Bool × Int × (List ((List Int) × Int × Bool × Int × Unit)) × (List Int) × (List Int) × Int × Int × Unit)) := @instDecidableEqProd _ _ inferInstance decState_1
instance decCall_5 : DecidableEq (Int × Unit) := @instDecidableEqProd _ _ inferInstance inferInstance
instance decCall_4 : DecidableEq (Int × (Int × Unit)) := @instDecidableEqProd _ _ inferInstance decCall_5
instance decCall_3 : DecidableEq (Int × (Int × Int × Unit)) := @instDecidableEqProd _ _ inferInstance decCall_4
instance decCall_2 : DecidableEq (Int × (Int × Int × Int × Unit)) := @instDecidableEqProd _ _ inferInstance decCall_3
instance decCall_1 : DecidableEq (Int × (Int × Int × Int × Int × Unit)) := @instDecidableEqProd _ _ inferInstance decCall_2
instance decCall_0 : DecidableEq (Int × (Int × Int × Int × Int × Int × Unit)) := @instDecidableEqProd _ _ inferInstance decCall_1

abbrev Cfx := Int × Int × Int × Unit
def confOk (c : Cfx) : Bool := decide (3 ≤ c.1) && (decide (c.1 ≤ 12) && (decide (1 ≤ c.2.1) && (decide (c.2.1 ≤ 3) && (decide (0 ≤ c.2.2.1) && decide (c.2.2.1 ≤ 100)))))

theorem sConfigOk_ok {N : Nat} {c : Cfx} : FsConfigOk N (c, ()) = some (confOk c, ()) := by
  obtain ⟨a, b, d, ⟨⟩⟩ := c
  unfold FsConfigOk confOk
  dsimp only
  by_cases h1 : 3 ≤ a <;> by_cases h2 : a ≤ 12 <;> by_cases h3 : 1 ≤ b <;> by_cases h4 : b ≤ 3 <;> by_cases h5 : 0 ≤ d <;> simp [h1, h2, h3, h4, h5]
theorem iConfigOk_ok {N : Nat} {c : Cfx} : FiConfigOk N (c, ()) = some (confOk c, ()) := by
  obtain ⟨a, b, d, ⟨⟩⟩ := c
  unfold FiConfigOk confOk
  dsimp only
  by_cases h1 : 3 ≤ a <;> by_cases h2 : a ≤ 12 <;> by_cases h3 : 1 ≤ b <;> by_cases h4 : b ≤ 3 <;> by_cases h5 : 0 ≤ d <;> simp [h1, h2, h3, h4, h5]

theorem confOk_iff {c : Cfx} : confOk c = true ↔ 3 ≤ c.1 ∧ c.1 ≤ 12 ∧ 1 ≤ c.2.1 ∧ c.2.1 ≤ 3 ∧ 0 ≤ c.2.2.1 ∧ c.2.2.1 ≤ 100 := by
  simp only [confOk, Bool.and_eq_true, decide_eq_true_eq]

abbrev Evx := Int × Int × Int × Int × Unit
def progsOkB (c : Cfx) (ps : List (List Opx)) : Bool := confOk c && (decide ((ps.length : Int) = c.2.1) && ps.all fun p => decide (p.length ≤ 40))

/-- What events play, from a graph on. -/
def playS (T : Int) (ps : List (List Opx)) : List Evx → Gr → List Evx → Option (Gr × List Evx)
  | [], g, out => some (g, out)
  | e :: r, g, out =>
    if e.1 < 0 ∨ e.1 ≥ T ∨ e.2.1 < 0 ∨ e.2.1 ≥ ((ps.getD e.1.toNat []).length : Int) then none
    else if e.2.2.2.1 = 6 then playS T ps r g (out ++ [(e.1, e.2.1, 0, 6, ())])
    else
      let d := doG g e.1 ((ps.getD e.1.toNat []).getD e.2.1.toNat (0, 0, 0, 0, 0, 0, (0, 0, ()), ()))
      playS T ps r (if d.2.1 = 1 then g else d.2.2) (out ++ [(e.1, e.2.1, d.1, d.2.1, ())])

def graph0 (T : Int) : Gr := ([(List.replicate 4 (-1), List.replicate 2 0, ())], List.replicate T.toNat [0], [], ())

section
variable {N : Nat} (hN : lim < N)
include hN

theorem sStoryOk_ok {c : Cfx} {ps : List (List Opx)} (hl : ps.length ≤ 1048576) : FsStoryOk N (c, ps, [], ()) = some (progsOkB c ps, ()) := by
  have hlim : lim = 2147483648 := rfl
  have hL := all_loop (xs := ps) (n := N) (fun p => decide (p.length ≤ 40)) (L := fun n i => lsStoryOk_0 N n (ps, (i : Int), ())) (yes := .inl ()) (no := .inr (false, ())) (by omega)
    (fun n i h hw hq => by
      have : ¬ ((ps[i].length : Int) > 40) := by simp at hq; omega
      simp [lsStoryOk_0, h, hw, this])
    (fun n i h hq => by
      have : ((ps[i].length : Int) > 40) := by simp at hq; omega
      simp [lsStoryOk_0, h, this])
    (fun n => by simp [lsStoryOk_0]) (by omega)
  simp only [Int.natCast_zero] at hL
  unfold FsStoryOk progsOkB
  simp only [sConfigOk_ok, Option.bind_some]
  cases hc : confOk c with
  | false => simp
  | true =>
    by_cases h2 : (ps.length : Int) = c.2.1
    · simp only [h2, bif_bne, if_true, Bool.not_true, cond_false, decide_true, Bool.true_and, List.length_nil, Option.bind_some, Sum.elim_inl, hL]
      simp only [show decide (((0 : Nat) : Int) > 4000) = false from rfl, cond_false, Option.bind_some, Sum.elim_inl, hL]
      cases (ps.all fun p => decide (p.length ≤ 40)) <;> rfl
    · simp [h2]

theorem iprogsOk_ok {c : Cfx} {ps : List (List Opx)} (hl : ps.length ≤ 1048576) : FiprogsOk N (c, ps, ()) = some (progsOkB c ps, ()) := by
  have hlim : lim = 2147483648 := rfl
  have hL := find_loop (xs := ps) (n := N) (fun p => decide ((p.length : Int) > 40)) (L := fun n i => lkIndexFunc_SSOp_SOp_iprogsOk_1_0 N n (ps, (ps.length : Int), (i : Int), ())) (yes := fun i => .inr ((i : Int), ())) (no := .inl ()) (by omega)
    (fun n i h hw hq => by simp only [lkIndexFunc_SSOp_SOp_iprogsOk_1_0, FiprogsOk_1, Int.ofNat_lt, h, decide_true, cond_true, Int.natCast_nonneg, Int.toNat_natCast, getD_lt h, Option.bind_some, hq, cond_false, hw])
    (fun n i h hq => by simp only [lkIndexFunc_SSOp_SOp_iprogsOk_1_0, FiprogsOk_1, Int.ofNat_lt, h, decide_true, cond_true, Int.natCast_nonneg, Int.toNat_natCast, getD_lt h, Option.bind_some, hq])
    (fun n => by simp [lkIndexFunc_SSOp_SOp_iprogsOk_1_0]) (by omega)
  simp only [Int.natCast_zero] at hL
  have hC : FkContainsFunc_SSOp_SOp_iprogsOk_1 N (ps, ()) = some (!(ps.all fun p => decide (p.length ≤ 40)), ()) := by
    simp only [FkContainsFunc_SSOp_SOp_iprogsOk_1, FkIndexFunc_SSOp_SOp_iprogsOk_1, hL, Option.bind_some]
    cases hf : ps.findIdx? (fun p => decide ((p.length : Int) > 40)) with
    | none =>
      have : ps.all (fun p => decide (p.length ≤ 40)) = true := by
        rw [List.findIdx?_eq_none_iff] at hf
        rw [List.all_eq_true]
        intro p hp
        have := hf p hp
        simp at this ⊢
        omega
      simp [this]
    | some i =>
      obtain ⟨hi, h1, _⟩ := List.findIdx?_eq_some_iff_getElem.1 hf
      have : ps.all (fun p => decide (p.length ≤ 40)) = false := by
        rw [List.all_eq_false]
        exact ⟨ps[i], List.getElem_mem hi, by simp at h1 ⊢; omega⟩
      simp [this]
  unfold FiprogsOk progsOkB
  simp only [iConfigOk_ok, Option.bind_some, hC]
  cases hc : confOk c with
  | false => simp
  | true =>
    by_cases h2 : (ps.length : Int) = c.2.1 <;> simp [h2]

theorem iGraphNew_ok {T : Int} (h1 : 1 ≤ T) (h3 : T ≤ 3) : FiGraphNew N (T, ()) = some (true, (graph0 T).1, (graph0 T).2.1, ()) := by
  have hlim : lim = 2147483648 := rfl
  obtain ⟨m, hm⟩ : ∃ m, N = m + 6 := ⟨N - 6, by omega⟩
  have a2 : ∀ n ns, liGraphNew_0 N (n + 6) (T, 0, ns, [], ()) = some (ns, List.replicate T.toNat [0], ()) := by
    intro n ns
    have : T = 1 ∨ T = 2 ∨ T = 3 := by omega
    rcases this with rfl | rfl | rfl <;> simp [liGraphNew_0, hlim, w64_id, List.replicate]
  have e2 := fun ns => a2 m ns
  simp only [← hm] at e2
  have h1' : ¬ T < 1 := by omega
  have h3' : ¬ T > 3 := by omega
  unfold FiGraphNew
  simp only [h1', h3', decide_false, cond_false, Option.bind_some, Sum.elim_inl, inone_ok hN (show (0 : Int) ≤ 4 by omega) (show (4 : Int) ≤ 4 by omega)]
  simp [hlim, e2, graph0, List.replicate]
end

abbrev Clx := Int × Int × Int × Int × Int × Int × Unit
abbrev Hst := List Int × List Int
def clx0 : Clx := (0, 0, 0, 0, 0, 0, ())

/-- The next call of a history is in order. -/
def hc (T : Int) (ps : List (List Opx)) (prev : Option Int) (st : Hst) (x : Clx) : Prop :=
  0 ≤ x.1 ∧ x.1 < T ∧ x.2.1 = st.1.getD x.1.toNat 0 ∧ x.2.1 < ((ps.getD x.1.toNat []).length : Int) ∧ 0 ≤ st.2.getD x.1.toNat 0 ∧ st.2.getD x.1.toNat 0 ≤ x.2.2.1 ∧
    (∀ p, prev = some p → p < x.2.2.1) ∧ ((x.2.2.2.1 = -1 ∧ x.2.2.2.2.1 = 0 ∧ x.2.2.2.2.2.1 = 0) ∨ x.2.2.1 ≤ x.2.2.2.1)

def hu (st : Hst) (x : Clx) : Hst := (st.1.set x.1.toNat (x.2.1 + 1), st.2.set x.1.toNat (if x.2.2.2.1 = -1 then -1 else w64 (x.2.2.2.1 + 1)))

open Classical in
noncomputable def hrun (T : Int) (ps : List (List Opx)) : List Clx → Option Int → Hst → Bool
  | [], _, _ => true
  | x :: r, prev, st => if hc T ps prev st x then hrun T ps r (some x.2.2.1) (hu st x) else false

theorem hrun_yes {T : Int} {ps : List (List Opx)} {x : Clx} {r : List Clx} {prev : Option Int} {st : Hst} (h : hc T ps prev st x) : hrun T ps (x :: r) prev st = hrun T ps r (some x.2.2.1) (hu st x) := by
  rw [hrun, if_pos h]
theorem hrun_no {T : Int} {ps : List (List Opx)} {x : Clx} {r : List Clx} {prev : Option Int} {st : Hst} (h : ¬ hc T ps prev st x) : hrun T ps (x :: r) prev st = false := by
  rw [hrun, if_neg h]

def prevS (h : List Clx) (i : Nat) : Option Int := if i = 0 then none else some (h.getD (i - 1) clx0).2.2.1

theorem prevS_succ {h : List Clx} {i : Nat} (hi : i < h.length) : prevS h (i + 1) = some h[i].2.2.1 := by
  simp [prevS, getD_lt hi, -List.getD_eq_getElem?_getD]

/-- What a history in order is made of. -/
def goodC (T : Int) (ps : List (List Opx)) (x : Clx) : Prop :=
  0 ≤ x.1 ∧ x.1 < T ∧ 0 ≤ x.2.1 ∧ x.2.1 < ((ps.getD x.1.toNat []).length : Int) ∧ 0 ≤ x.2.2.1 ∧ ((x.2.2.2.1 = -1 ∧ x.2.2.2.2.2.1 = 0) ∨ x.2.2.1 ≤ x.2.2.2.1)

structure HstOk (T : Int) (st : Hst) : Prop where
  l1 : (st.1.length : Int) = T
  l2 : (st.2.length : Int) = T
  nn : ∀ k, 0 ≤ st.1.getD k 0

theorem getD_setC {α : Type} {l : List α} {i k : Nat} {x d : α} : (l.set i x).getD k d = if i = k ∧ i < l.length then x else l.getD k d := by
  simp only [List.getD_eq_getElem?_getD, List.getElem?_set]
  by_cases h : i = k
  · subst h
    by_cases h2 : i < l.length
    · simp [h2]
    · simp [h2]
  · simp [h]

theorem HstOk.hu {T : Int} {ps : List (List Opx)} {prev : Option Int} {st : Hst} {x : Clx} (h : HstOk T st) (hx : hc T ps prev st x) : HstOk T (hu st x) := by
  refine ⟨by simpa [Fl.hu] using h.l1, by simpa [Fl.hu] using h.l2, fun k => ?_⟩
  simp only [Fl.hu, getD_setC]
  have := h.nn k
  have := h.nn x.1.toNat
  have := hx.2.2.1
  split <;> omega

theorem hrun_good {T : Int} {ps : List (List Opx)} : ∀ {h : List Clx} {prev : Option Int} {st : Hst}, HstOk T st → hrun T ps h prev st = true → ∀ x ∈ h, goodC T ps x
  | [], _, _, _, _, x, hx => by simp at hx
  | y :: r, prev, st, hs, hr, x, hx => by
    by_cases hy : hc T ps prev st y
    · rw [hrun_yes hy] at hr
      rcases List.mem_cons.1 hx with rfl | hx
      · have := hs.nn x.1.toNat
        obtain ⟨a1, a2, a3, a4, a5, a6, a7, a8⟩ := hy
        refine ⟨a1, a2, by omega, a4, by omega, ?_⟩
        rcases a8 with a8 | a8
        · exact .inl ⟨a8.1, a8.2.2⟩
        · exact .inr a8
      · exact hrun_good (hs.hu hy) hr x hx
    · rw [hrun_no hy] at hr; cases hr

def hst0 (T : Int) : Hst := (List.replicate T.toNat 0, List.replicate T.toNat 0)
theorem hst0_ok {T : Int} (h : 0 ≤ T) : HstOk T (hst0 T) := by
  refine ⟨by simp [hst0]; omega, by simp [hst0]; omega, fun k => ?_⟩
  simp only [hst0, List.getD_eq_getElem?_getD, List.getElem?_replicate]
  split <;> simp

noncomputable def histOk (c : Cfx) (ps : List (List Opx)) (h : List Clx) : Bool := progsOkB c ps && hrun c.2.1 ps h none (hst0 c.2.1)

theorem progs_T {c : Cfx} {ps : List (List Opx)} (h : progsOkB c ps = true) : (ps.length : Int) = c.2.1 ∧ 1 ≤ c.2.1 ∧ c.2.1 ≤ 3 ∧ ∀ k, (ps.getD k []).length ≤ 40 := by
  simp only [progsOkB, Bool.and_eq_true, decide_eq_true_eq, List.all_eq_true] at h
  have hT := confOk_iff.1 h.1
  refine ⟨h.2.1, hT.2.2.1, hT.2.2.2.1, fun k => ?_⟩
  by_cases hk : k < ps.length
  · rw [getD_lt hk]; exact h.2.2 _ (List.getElem_mem hk)
  · rw [List.getD_eq_getElem?_getD, List.getElem?_eq_none (by omega)]; simp

def rngC (x : Clx) : Prop := x.2.2.1 < 9223372036854775808 ∧ x.2.2.2.1 < 9223372036854775808

def cntS (F : List Int → Int) (ls : List Int) : Nat → Nat → Int
  | _, 0 => 0
  | i, k + 1 => (if 0 < ls.getD i 0 then F (ls.set i (ls.getD i 0 - 1)) else 0) + cntS F ls (i + 1) k

def cntF : Nat → List Int → Int
  | 0, _ => 0
  | m + 1, ls => if cntS (cntF m) ls 0 ls.length = 0 then 1 else cntS (cntF m) ls 0 ls.length

def meas (ls : List Int) : Nat := (ls.map Int.toNat).sum

theorem meas_set : ∀ {ls : List Int} {i : Nat}, i < ls.length → 0 < ls.getD i 0 → meas (ls.set i (ls.getD i 0 - 1)) + 1 = meas ls
  | [], _, h, _ => by simp at h
  | x :: l, 0, _, h => by
    simp only [List.getD_cons_zero] at h
    simp only [List.getD_cons_zero, List.set_cons_zero, meas, List.map_cons, List.sum_cons]
    omega
  | x :: l, i + 1, h, h2 => by
    have ih := meas_set (ls := l) (i := i) (by simpa using h) (by simpa using h2)
    simp only [List.getD_cons_succ, List.set_cons_succ, meas, List.map_cons, List.sum_cons] at ih ⊢
    omega

theorem cntS_rng {F : List Int → Int} {ls : List Int} {B : Int} (hB : ∀ l, l.length = ls.length → 0 ≤ F l ∧ F l ≤ B) (hb : 0 ≤ B) : ∀ (k i : Nat), 0 ≤ cntS F ls i k ∧ cntS F ls i k ≤ (k : Int) * B
  | 0, _ => by simp [cntS]
  | k + 1, i => by
    have ih := cntS_rng hB hb k (i + 1)
    have h1 := hB (ls.set i (ls.getD i 0 - 1)) (by simp)
    simp only [cntS, Int.natCast_add, Int.natCast_one, Int.add_mul, Int.one_mul]
    split <;> omega

theorem pow4 (m : Nat) : (1 : Int) ≤ 4 ^ m := by
  induction m with
  | zero => simp
  | succ m ih => rw [Int.pow_succ]; omega

theorem cntF_rng : ∀ {m : Nat} {ls : List Int}, ls.length ≤ 3 → 0 ≤ cntF m ls ∧ cntF m ls ≤ 4 ^ m
  | 0, _, _ => by simp [cntF]
  | m + 1, ls, h => by
    have hp := pow4 m
    have h1 := cntS_rng (F := cntF m) (ls := ls) (B := 4 ^ m) (fun l hl => cntF_rng (by omega)) (by omega) ls.length 0
    have h2 : (ls.length : Int) * 4 ^ m ≤ 3 * 4 ^ m := Int.mul_le_mul_of_nonneg_right (by omega) (by omega)
    simp only [cntF, Int.pow_succ]
    split <;> omega

theorem cntF_pos {m : Nat} {ls : List Int} (h : ls.length ≤ 3) : 1 ≤ cntF (m + 1) ls := by
  have h1 := cntS_rng (F := cntF m) (ls := ls) (B := 4 ^ m) (fun l hl => cntF_rng (by omega)) (by have := pow4 m; omega) ls.length 0
  simp only [cntF]
  split <;> omega

def noneS (ls : List Int) : Nat → Nat → Bool
  | _, 0 => true
  | i, k + 1 => !decide (0 < ls.getD i 0) && noneS ls (i + 1) k

theorem meas_pos : ∀ {ls : List Int} {i : Nat}, 0 < ls.getD i 0 → 1 ≤ meas ls
  | [], _, h => by simp at h
  | x :: l, 0, h => by simp only [List.getD_cons_zero] at h; simp only [meas, List.map_cons, List.sum_cons]; omega
  | x :: l, i + 1, h => by
    have := meas_pos (ls := l) (i := i) (by simpa using h)
    simp only [meas, List.map_cons, List.sum_cons] at this ⊢
    omega

theorem cntS_zero {ls : List Int} (h : ls.length ≤ 3) : ∀ (k i : Nat), cntS (cntF (meas ls)) ls i k = 0 ↔ noneS ls i k = true
  | 0, _ => by simp [cntS, noneS]
  | k + 1, i => by
    have ih := cntS_zero h k (i + 1)
    have h1 := cntS_rng (F := cntF (meas ls)) (ls := ls) (B := 4 ^ (meas ls)) (fun l hl => cntF_rng (by omega)) (by have := pow4 (meas ls); omega) k (i + 1)
    simp only [cntS, noneS, Bool.and_eq_true, Bool.not_eq_true', decide_eq_false_iff_not, ← ih]
    by_cases hp : 0 < ls.getD i 0
    · obtain ⟨m, hm⟩ : ∃ m, meas ls = m + 1 := ⟨meas ls - 1, by have := meas_pos hp; omega⟩
      have h2 := cntF_pos (m := m) (ls := ls.set i (ls.getD i 0 - 1)) (by simpa using h)
      rw [← hm] at h2
      simp only [hp, if_true, not_true, false_and, iff_false]
      omega
    · simp only [hp, if_false, not_false_iff, true_and, Int.zero_add]

section
variable {N : Nat} (hN : lim < N)
include hN

omit hN in
theorem sCount_loop {ls : List Int} (hl : ls.length ≤ 3) (hb : ∀ k, 0 ≤ ls.getD k 0 ∧ ls.getD k 0 ≤ 1000) {P : Int} (hP : P = 4 ^ meas ls) {f : _ → _}
    (hf : ∀ i, i < ls.length → 0 < ls.getD i 0 → f (ls.set i (ls.getD i 0 - 1), ()) = some (cntF (meas ls) (ls.set i (ls.getD i 0 - 1)), ls.set i (ls.getD i 0 - 1), ())) :
    ∀ (k n i : Nat) (acc : Int), i + k = ls.length → k < n → 0 ≤ acc → acc + (k : Int) * P ≤ 1099511627776 → lsl19Count_0 N f n (acc, (i : Int), ls, ()) = some (acc + cntS (cntF (meas ls)) ls i k, ls, ())
  | 0, n, i, acc, hi, hn, h0, h1 => by
    obtain ⟨n, rfl⟩ : ∃ k, n = k + 1 := ⟨n - 1, by omega⟩
    have : ¬ (i : Int) < ls.length := by omega
    simp only [lsl19Count_0, this, decide_false, cond_false, cntS, Int.add_zero]
  | k + 1, n, i, acc, hi, hn, h0, h1 => by
    obtain ⟨n, rfl⟩ : ∃ k, n = k + 1 := ⟨n - 1, by omega⟩
    have hlt : i < ls.length := by omega
    have hw : w64 ((i : Int) + 1) = ((i + 1 : Nat) : Int) := w64_succ (by omega)
    have hbi := hb i
    have hP0 : 1 ≤ P := hP ▸ pow4 _
    rw [Int.natCast_add, Int.natCast_one, Int.add_mul, Int.one_mul] at h1
    have hk0 : 0 ≤ (k : Int) * P := Int.mul_nonneg (by omega) (by omega)
    simp only [lsl19Count_0, Int.ofNat_lt, hlt, decide_true, cond_true, Int.natCast_nonneg, Int.toNat_natCast, cntS]
    by_cases hp : 0 < ls.getD i 0
    · have hF := cntF_rng (m := meas ls) (ls := ls.set i (ls.getD i 0 - 1)) (by simpa using hl)
      rw [← hP] at hF
      have w1 : w64 (ls.getD i 0 - 1) = ls.getD i 0 - 1 := w64_id (by omega) (by omega)
      have hlt2 : i < (ls.set i (ls.getD i 0 - 1)).length := by simpa using hlt
      have g1 : (ls.set i (ls.getD i 0 - 1)).getD i 0 = ls.getD i 0 - 1 := by rw [getD_lt hlt2, List.getElem_set_self]
      have w2 : w64 (ls.getD i 0 - 1 + 1) = ls.getD i 0 := by rw [w64_id (by omega) (by omega)]; omega
      have hback : (ls.set i (ls.getD i 0 - 1)).set i (ls.getD i 0) = ls := by rw [List.set_set, getD_lt hlt]; exact List.set_getElem_self _
      have w3 : w64 (acc + cntF (meas ls) (ls.set i (ls.getD i 0 - 1))) = acc + cntF (meas ls) (ls.set i (ls.getD i 0 - 1)) := w64_id (by omega) (by omega)
      have hp' : ls.getD i 0 > 0 := hp
      simp only [hp', decide_true, cond_true, w1, hf i hlt hp, Option.bind_some, hlt2, g1, w2, hback, w3, hw, hp, if_true]
      rw [sCount_loop hl hb hP hf k n (i + 1) _ (by omega) (by omega) (by omega) (by omega)]
      congr 2; omega
    · have hp' : ¬ ls.getD i 0 > 0 := hp
      simp only [hp', decide_false, cond_false, hw, hp, if_false, Int.zero_add]
      rw [sCount_loop hl hb hP hf k n (i + 1) _ (by omega) (by omega) h0 (by omega)]

theorem sCount_ok : ∀ (m : Nat) {ls : List Int}, ls.length ≤ 3 → (∀ k, 0 ≤ ls.getD k 0 ∧ ls.getD k 0 ≤ 1000) → meas ls < m → meas ls ≤ 7 → Fsl19Count N m (ls, ()) = some (cntF (meas ls + 1) ls, ls, ())
  | 0, _, _, _, h, _ => absurd h (Nat.not_lt_zero _)
  | m + 1, ls, hl, hb, hm, h7 => by
    have hlen : ls.length < N := by rw [lim_eq] at hN; omega
    have hP : (4 : Int) ^ meas ls ≤ 4 ^ 7 := by
      have : ∀ d, (4 : Int) ^ (meas ls) ≤ 4 ^ (meas ls + d) := by
        intro d
        induction d with
        | zero => exact Int.le_refl _
        | succ d ih => rw [← Nat.add_assoc, Int.pow_succ]; have := pow4 (meas ls + d); omega
      have := this (7 - meas ls)
      rwa [show meas ls + (7 - meas ls) = 7 by omega] at this
    have hL := sCount_loop (N := N) hl hb rfl (f := fun x_ => Fsl19Count N m x_) (fun i hi hp => by
      have hc := meas_set hi hp
      have := sCount_ok m (ls := ls.set i (ls.getD i 0 - 1)) (by simpa using hl) (fun k => by
        have h1 := hb k
        have h2 := hb i
        by_cases e : i = k
        · subst e; rw [getD_lt (by simpa using hi), List.getElem_set_self]; omega
        · rw [List.getD_eq_getElem?_getD, List.getElem?_set_ne e, ← List.getD_eq_getElem?_getD]; exact h1) (by omega) (by omega)
      rw [hc] at this
      exact this) ls.length N 0 0 (by omega) hlen (by omega) (by
        have h3 : (ls.length : Int) * 4 ^ meas ls ≤ 3 * 4 ^ 7 := Int.le_trans (Int.mul_le_mul_of_nonneg_right (show (ls.length : Int) ≤ 3 by omega) (by have := pow4 (meas ls); omega)) (by omega)
        have : (3 : Int) * 4 ^ 7 = 49152 := by decide
        omega)
    simp only [Int.natCast_zero, Int.zero_add] at hL
    simp only [Fsl19Count, hL, Option.bind_some, bif_beq, cntF]
    split <;> rfl
end

/-- What is left of every program. -/
def restL (ps : List (List Opx)) (pos : List Int) : List Int := List.zipWith (fun p q => (p.length : Int) - q) ps pos

theorem restL_len {ps : List (List Opx)} {pos : List Int} (h : pos.length = ps.length) : (restL ps pos).length = ps.length := by simp [restL, h]

theorem restL_get {ps : List (List Opx)} {pos : List Int} (h : pos.length = ps.length) {i : Nat} (hi : i < ps.length) : (restL ps pos).getD i 0 = (ps[i].length : Int) - pos.getD i 0 := by
  rw [getD_lt (by rw [restL_len h]; exact hi), getD_lt (show i < pos.length by omega)]
  simp [restL]

theorem restL_set {ps : List (List Opx)} {pos : List Int} (h : pos.length = ps.length) {i : Nat} (hi : i < ps.length) : restL ps (pos.set i (pos.getD i 0 + 1)) = (restL ps pos).set i ((restL ps pos).getD i 0 - 1) := by
  apply List.ext_getElem (by simp [restL, h])
  intro j h1 h2
  have hj : j < ps.length := by simp [restL, h] at h1; omega
  by_cases e : i = j
  · subst e
    rw [List.getElem_set_self, restL_get h hi]
    simp only [restL, List.getElem_zipWith, List.getElem_set_self]
    omega
  · rw [List.getElem_set_ne e]
    simp only [restL, List.getElem_zipWith, List.getElem_set_ne e]

section
variable {N : Nat} (hN : lim < N)
include hN

omit hN in
theorem iCount_loop {ps : List (List Opx)} (hps : ps.length ≤ 3) (h40 : ∀ p ∈ ps, p.length ≤ 40) {pos : List Int} (hl : pos.length = ps.length) (hb : ∀ i (hi : i < ps.length), 0 ≤ pos.getD i 0 ∧ pos.getD i 0 ≤ (ps[i].length : Int)) {g : Gr} (hg : smG g) {P : Int} (hP : P = 4 ^ meas (restL ps pos)) (hN : lim < N) {f : _ → _}
    (hf : ∀ (g' : Gr) (i : Nat) (cnt : Int), i < ps.length → smG g' → 0 < (restL ps pos).getD i 0 → 0 ≤ cnt → cnt + P ≤ 1099511627776 → f (g', ps, pos.set i (pos.getD i 0 + 1), ps, cnt, ()) = some (pos.set i (pos.getD i 0 + 1), ps, cnt + cntF (meas (restL ps pos)) ((restL ps pos).set i ((restL ps pos).getD i 0 - 1)), ())) :
    ∀ (k n i : Nat) (ad : Bool) (cnt : Int), i + k = ps.length → k < n → 0 ≤ cnt → cnt + (k : Int) * P ≤ 1099511627776 →
      limerged_1_imerged_1_iAllCount_1_0 N f n (g, ad, ps, (ps.length : Int), (i : Int), pos, ps, cnt, ()) = some (g, ad && noneS (restL ps pos) i k, cnt + cntS (cntF (meas (restL ps pos))) (restL ps pos) i k, pos, ps, ())
  | 0, n, i, ad, cnt, hi, hn, h0, h1 => by
    obtain ⟨n, rfl⟩ : ∃ k, n = k + 1 := ⟨n - 1, by omega⟩
    have : ¬ (i : Int) < ps.length := by omega
    simp only [limerged_1_imerged_1_iAllCount_1_0, this, decide_false, cond_false, cntS, noneS, Int.add_zero, Bool.and_true]
  | k + 1, n, i, ad, cnt, hi, hn, h0, h1 => by
    obtain ⟨n, rfl⟩ : ∃ k, n = k + 1 := ⟨n - 1, by omega⟩
    have hlt : i < ps.length := by omega
    have hlp : i < pos.length := by omega
    have hw : w64 ((i : Int) + 1) = ((i + 1 : Nat) : Int) := w64_succ (by omega)
    have hbi := hb i hlt
    have hr := restL_get hl hlt
    have h4 := h40 _ (List.getElem_mem hlt)
    have hP0 : 1 ≤ P := hP ▸ pow4 _
    rw [Int.natCast_add, Int.natCast_one, Int.add_mul, Int.one_mul] at h1
    have hk0 : 0 ≤ (k : Int) * P := Int.mul_nonneg (by omega) (by omega)
    have ih := fun ad cnt => iCount_loop hps h40 hl hb hg hP hN hf k n (i + 1) ad cnt (by omega) (by omega)
    simp only [limerged_1_imerged_1_iAllCount_1_0, Int.ofNat_lt, hlt, hlp, decide_true, cond_true, Int.natCast_nonneg, Int.toNat_natCast, getD_lt hlt, cntS, noneS]
    by_cases he : pos.getD i 0 = (ps[i].length : Int)
    · have hp : ¬ 0 < (restL ps pos).getD i 0 := by omega
      simp only [he, bif_beq, if_true, hp, if_false, hw, decide_false, Bool.not_false, Bool.true_and, Int.zero_add]
      exact ih ad cnt h0 (by omega)
    · have hp : 0 < (restL ps pos).getD i 0 := by omega
      have hk : (pos.getD i 0).toNat < ps[i].length := by omega
      have ed := iGraphDo_ok hN (g := g) (t := (i : Int)) (o := ps[i].getD (pos.getD i 0).toNat (0, 0, 0, 0, 0, 0, (0, 0, ()), ())) hg
      have sd := doG_smG hN (g := g) (t := (i : Int)) (o := ps[i].getD (pos.getD i 0).toNat (0, 0, 0, 0, 0, 0, (0, 0, ()), ()))
      generalize doG g (i : Int) (ps[i].getD (pos.getD i 0).toNat (0, 0, 0, 0, 0, 0, (0, 0, ()), ())) = dd at ed sd
      have w1 : w64 (pos.getD i 0 + 1) = pos.getD i 0 + 1 := w64_id (by omega) (by omega)
      have hlt2 : i < (pos.set i (pos.getD i 0 + 1)).length := by simpa using hlp
      have g1 : (pos.set i (pos.getD i 0 + 1)).getD i 0 = pos.getD i 0 + 1 := by rw [getD_lt hlt2, List.getElem_set_self]
      have w2 : w64 (pos.getD i 0 + 1 - 1) = pos.getD i 0 := by rw [w64_id (by omega) (by omega)]; omega
      have hback : (pos.set i (pos.getD i 0 + 1)).set i (pos.getD i 0) = pos := by rw [List.set_set, getD_lt hlp]; exact List.set_getElem_self _
      have hF := cntF_rng (m := meas (restL ps pos)) (ls := (restL ps pos).set i ((restL ps pos).getD i 0 - 1)) (by simp [restL_len hl]; omega)
      rw [← hP] at hF
      have hfin := ih false (cnt + cntF (meas (restL ps pos)) ((restL ps pos).set i ((restL ps pos).getD i 0 - 1))) (by omega) (by omega)
      simp only [he, bif_beq, if_false, hbi.1, hk, decide_true, cond_true, ed, Option.bind_some, bif_bne]
      by_cases c1 : dd.2.1 = 1
      · have hff := hf g i cnt hlt hg hp h0 (by omega)
        simp only [c1, if_true, Option.bind_some, Int.natCast_nonneg, Int.toNat_natCast, hlp, decide_true, cond_true, w1, hff, hlt2, g1, w2, hback, hw, hp, Bool.not_true, Bool.false_and, Bool.and_false]
        rw [hfin]; simp only [Bool.false_and]; congr 4; omega
      · have hff := hf dd.2.2 i cnt hlt sd hp h0 (by omega)
        simp only [c1, if_false, if_true, Option.bind_some, Int.natCast_nonneg, Int.toNat_natCast, hlp, decide_true, cond_true, w1, hff, hlt2, g1, w2, hback, hw, hp, Bool.not_true, Bool.false_and, Bool.and_false]
        rw [hfin]; simp only [Bool.false_and]; congr 4; omega

theorem iCount_ok {ps : List (List Opx)} (hps : ps.length ≤ 3) (h40 : ∀ p ∈ ps, p.length ≤ 40) : ∀ (m : Nat) {pos : List Int} {g : Gr} {cnt : Int}, pos.length = ps.length → (∀ i (hi : i < ps.length), 0 ≤ pos.getD i 0 ∧ pos.getD i 0 ≤ (ps[i].length : Int)) → smG g →
    meas (restL ps pos) < m → 0 ≤ cnt → cnt + 4 ^ (meas (restL ps pos) + 1) ≤ 1099511627776 → Fimerged_1_imerged_1_iAllCount_1 N m (g, ps, pos, ps, cnt, ()) = some (pos, ps, cnt + cntF (meas (restL ps pos) + 1) (restL ps pos), ())
  | 0, _, _, _, _, _, _, h, _, _ => absurd h (Nat.not_lt_zero _)
  | m + 1, pos, g, cnt, hl, hb, hg, hm, h0, h1 => by
    have hp := pow4 (meas (restL ps pos))
    rw [Int.pow_succ] at h1
    have hL := iCount_loop (N := N) hps h40 hl hb hg rfl hN (f := fun x_ => Fimerged_1_imerged_1_iAllCount_1 N m x_) (fun g' i cnt' hi hg' hr hc0 hc1 => by
      have hrl := restL_len hl
      have hms := meas_set (ls := restL ps pos) (i := i) (by omega) hr
      have hgi := restL_get hl hi
      have hbi := hb i hi
      rw [← restL_set hl hi] at hms
      have := iCount_ok hps h40 m (pos := pos.set i (pos.getD i 0 + 1)) (g := g') (cnt := cnt') (by simpa using hl) (fun j hj => by
        have h2 := hb j hj
        by_cases e : i = j
        · subst e; rw [getD_lt (by simp; omega), List.getElem_set_self]; omega
        · rw [List.getD_eq_getElem?_getD, List.getElem?_set_ne e, ← List.getD_eq_getElem?_getD]; exact h2) hg' (by omega) hc0 (by rw [hms]; exact hc1)
      rw [hms, restL_set hl hi] at this
      exact this) ps.length N 0 true cnt (by omega) (by rw [lim_eq] at hN; omega) h0 (by
        have : (ps.length : Int) * 4 ^ meas (restL ps pos) ≤ 3 * 4 ^ meas (restL ps pos) := Int.mul_le_mul_of_nonneg_right (by omega) (by omega)
        omega)
    have hz := cntS_zero (ls := restL ps pos) (by rw [restL_len hl]; exact hps) (restL ps pos).length 0
    have hrng := cntF_rng (m := meas (restL ps pos) + 1) (ls := restL ps pos) (by rw [restL_len hl]; exact hps)
    rw [restL_len hl] at hz
    simp only [Int.natCast_zero, Bool.true_and] at hL
    simp only [Fimerged_1_imerged_1_iAllCount_1, hL, Option.bind_some, cntF, restL_len hl]
    cases hn : noneS (restL ps pos) 0 ps.length with
    | true =>
      have hs := hz.2 hn
      have hw : w64 (cnt + 1) = cnt + 1 := w64_id (by omega) (by omega)
      simp only [cond_true, hs, Int.add_zero, FiAllCount_1, hw, Option.bind_some, if_true]
    | false =>
      have hs : ¬ cntS (cntF (meas (restL ps pos))) (restL ps pos) 0 ps.length = 0 := fun h => by rw [hz.1 h] at hn; cases hn
      simp only [cond_false, hs, if_false]
end

section
variable {N : Nat} (hN : lim < N)
include hN

omit hN in
theorem growOp_ok {n : Int} (h0 : 0 ≤ n) (h1 : n ≤ 1000000) : FkGrow_SOp_Op N (n, ()) = some ([], ()) := by
  have hw : w64 (n - w64 (0 - 0)) = n := by
    have : w64 (0 - 0) = 0 := w64_id (by omega) (by omega)
    rw [this]; rw [w64_id (by omega) (by omega)]; omega
  have hw' : w64 (n - w64 0) = n := hw
  have h2 : ¬ n < 0 := by omega
  have h3 : n ≤ (lim : Int) := by rw [lim_eq]; omega
  have h5 : 0 ≤ max n 0 := by omega
  by_cases h4 : n > 0
  · simp [FkGrow_SOp_Op, h2, hw', h4, h0, h3, h5]
  · simp [FkGrow_SOp_Op, h2, hw', h4]

theorem concatOp_ok {ls : List (List Opx)} (hl : ls.length ≤ 8) (hx : ∀ l ∈ ls, l.length ≤ 1000) : FkConcat_SOp_Op N (ls, ()) = some (ls.flatten, ()) := by
  obtain ⟨e, h⟩ := fold_loop (xs := ls) (n := N) (fun (s : Int) l => s + l.length) (fun i s => 0 ≤ s ∧ s ≤ 1000 * (i : Int)) (L := fun n i s => lkConcat_SOp_Op_0 N n (ls, s, ls, (ls.length : Int), (i : Int), ())) (fin := fun s => (ls, s, ()))
    (by rw [lim_eq]; omega)
    (fun n i s hi hw hI => by
      have := hx _ (List.getElem_mem hi)
      have hw2 : w64 (s + (ls[i].length : Int)) = s + ls[i].length := w64_id (by omega) (by omega)
      have h2 : ¬ s + (ls[i].length : Int) < 0 := by omega
      refine ⟨?_, by omega, by omega⟩
      simp [lkConcat_SOp_Op_0, hi, hw, hw2, h2])
    (fun n s hI => by simp [lkConcat_SOp_Op_0]) (by rw [lim_eq] at hN; omega) (s := 0) (by simp)
  have e2 := (fold_loop (xs := ls) (n := N) (fun (s : List Opx) l => s ++ l) (fun i s => s.length ≤ 1000 * i) (L := fun n i s => lkConcat_SOp_Op_2 N n (ls, (ls.length : Int), (i : Int), s, ())) (fin := fun s => (s, ()))
    (by rw [lim_eq]; omega)
    (fun n i s hi hw hI => by
      have := hx _ (List.getElem_mem hi)
      have hlim : s.length + ls[i].length ≤ lim := by rw [lim_eq]; omega
      refine ⟨?_, by rw [List.length_append]; omega⟩
      simp [lkConcat_SOp_Op_2, hi, hw, hlim])
    (fun n s hI => by simp [lkConcat_SOp_Op_2]) (by rw [lim_eq] at hN; omega) (s := []) (by simp)).1
  have ef : ∀ (ls : List (List Opx)) (s : List Opx), ls.foldl (fun s l => s ++ l) s = s ++ ls.flatten := by
    intro ls
    induction ls with
    | nil => intro s; simp
    | cons l ls ih => intro s; rw [List.foldl_cons, ih]; simp
  rw [ef] at e2
  generalize ls.foldl (fun (s : Int) l => s + l.length) 0 = t at e h
  simp only [Int.natCast_zero] at e e2
  simp [FkConcat_SOp_Op, e, growOp_ok (N := N) h.1 (by omega), e2]

end

section
variable {N : Nat} (hN : lim < N)
include hN

theorem wszOpS_ok {xs : (List (Int × Int × Int × Int × Int × Int × (Int × Int × Unit) × Unit))} {left : Int} (hx : Wf tOpS xs) (h0 : 0 ≤ left) (h1 : left ≤ 1048576) : ∃ r, FvszOpS N (xs, left, ()) = some (r, ()) ∧ (r < 0 ∨ (0 ≤ r ∧ r ≤ left ∧ lnT tOpS xs)) := by
  have hx1 := hx.1
  simp only [maxLen] at hx1
  simp only [FvszOpS]
  rw [w64_id (by omega) (by omega)]
  by_cases h : left - (xs.length : Int) < 0
  · simp [h]
  · refine ⟨left - (xs.length : Int), by simp [h], .inr ⟨by omega, by omega, by omega, fun x _ => ?_⟩⟩
    simp [lnT]
end

section
variable {N : Nat} (hN : lim < N)
include hN

theorem wszOpSS_ok {xs : (List (List (Int × Int × Int × Int × Int × Int × (Int × Int × Unit) × Unit)))} {left : Int} (hx : Wf tOpSS xs) (h0 : 0 ≤ left) (h1 : left ≤ 1048576) : ∃ r, FvszOpSS N (xs, left, ()) = some (r, ()) ∧ (r < 0 ∨ (0 ≤ r ∧ r ≤ left ∧ lnT tOpSS xs)) := by
  have := sz_loop (xs := xs) (lnT tOpS) (L := fun n i l => lvszOpSS_0 N n (xs, l, (i : Int), ())) hN (by have := hx.1; simp only [maxLen] at this; omega) h0 h1
    (fun n i h left h0 h1 hw => by
      obtain ⟨r1, e1, h2⟩ := wszOpS_ok hN (hx.2 xs[i] (List.getElem_mem h)) h0 h1
      simp only [lvszOpSS_0, Int.ofNat_lt, h, decide_true, cond_true, Int.natCast_nonneg, Int.toNat_natCast, getD_lt h, e1, Option.bind_some, hw]
      rcases h2 with h2 | ⟨h2, h3, h4⟩
      · left; simp [h2]
      · right; exact ⟨r1, h2, h3, h4, by simp [Int.not_lt.2 h2]⟩)
    (fun n left => by simp [lvszOpSS_0])
  simp only [Int.natCast_zero] at this
  exact this
end

section
variable {N : Nat} (hN : lim < N)
include hN

theorem wtoShape_ok {x : (Int × Int × Unit)} (hx : lnT tShape x) : FvtoShape N (x, ()) = some (x.1, x.2.1, ()) := by
  simp [FvtoShape]
end

section
variable {N : Nat} (hN : lim < N)
include hN

theorem wtoOp_ok {x : (Int × Int × Int × Int × Int × Int × (Int × Int × Unit) × Unit)} (hx : lnT tOp x) : FvtoOp N (x, ()) = some (x.1, x.2.1, x.2.2.1, x.2.2.2.1, x.2.2.2.2.1, x.2.2.2.2.2.1, x.2.2.2.2.2.2.1.1, x.2.2.2.2.2.2.1.2.1, ()) := by
  simp [FvtoOp, wtoShape_ok hN hx.2.2.2.2.2.2.1]
end

section
variable {N : Nat} (hN : lim < N)
include hN

theorem wtoOpS_ok {xs : (List (Int × Int × Int × Int × Int × Int × (Int × Int × Unit) × Unit))} (hx : lnT tOpS xs) : FvtoOpS N (xs, ()) = some (xs, ()) := by
  have hlim : lim = 2147483648 := rfl
  have hl : xs.length ≤ lim := by have := hx.1; omega
  have hL := fill_loop (xs := xs) (n := N) id (L := fun n i s => lvtoOpS_0 N n (xs, (i : Int), s, ())) (fin := fun s => (s, ())) hl
    (fun n i s h hw hs => by
      have hs' : i < s.length := by omega
      simp [lvtoOpS_0, h, hs', hw, wtoOp_ok hN (hx.2 xs[i] (List.getElem_mem h))])
    (fun n s hs => by simp [lvtoOpS_0]) (by omega) (s := List.replicate xs.length ((0 : Int), (0 : Int), (0 : Int), (0 : Int), (0 : Int), (0 : Int), ((0 : Int), (0 : Int), ()), ())) (by simp)
  simp only [Int.natCast_zero] at hL
  simp [FvtoOpS, hL, hl]
end

section
variable {N : Nat} (hN : lim < N)
include hN

theorem wtoOpSS_ok {xs : (List (List (Int × Int × Int × Int × Int × Int × (Int × Int × Unit) × Unit)))} (hx : lnT tOpSS xs) : FvtoOpSS N (xs, ()) = some (xs, ()) := by
  have hlim : lim = 2147483648 := rfl
  have hl : xs.length ≤ lim := by have := hx.1; omega
  have hL := fill_loop (xs := xs) (n := N) id (L := fun n i s => lvtoOpSS_0 N n (xs, (i : Int), s, ())) (fin := fun s => (s, ())) hl
    (fun n i s h hw hs => by
      have hs' : i < s.length := by omega
      simp [lvtoOpSS_0, h, hs', hw, wtoOpS_ok hN (hx.2 xs[i] (List.getElem_mem h))])
    (fun n s hs => by simp [lvtoOpSS_0]) (by omega) (s := List.replicate xs.length ([] : (List (Int × Int × Int × Int × Int × Int × (Int × Int × Unit) × Unit)))) (by simp)
  simp only [Int.natCast_zero] at hL
  simp [FvtoOpSS, hL, hl]
end

section
variable {N : Nat} (hN : lim < N)
include hN

theorem wtoConfig_ok {x : (Int × Int × Int × Unit)} (hx : lnT tConfig x) : FvtoConfig N (x, ()) = some (x.1, x.2.1, x.2.2.1, ()) := by
  simp [FvtoConfig]
end

section
variable {N : Nat} (hN : lim < N)
include hN

theorem weqShape_ok {x y : (Int × Int × Unit)} (hx : lnT tShape x) : FveqShape N (x, y, ()) = some (decide (x = y), ()) := by
  obtain ⟨xa, xb, ⟨⟩⟩ := x
  obtain ⟨ya, yb, ⟨⟩⟩ := y
  simp only [FveqShape, Option.bind_some, ne_step, not_step, bool_beq]
  simp only [Prod.mk.injEq, Bool.decide_and, and_true, Bool.and_true, decide_true]
end

section
variable {N : Nat} (hN : lim < N)
include hN

theorem weqOp_ok {x y : (Int × Int × Int × Int × Int × Int × (Int × Int × Unit) × Unit)} (hx : lnT tOp x) : FveqOp N (x, y, ()) = some (decide (x = y), ()) := by
  obtain ⟨xa, xb, xc, xd, xe, xf, ⟨xga, xgb, ⟨⟩⟩, ⟨⟩⟩ := x
  obtain ⟨ya, yb, yc, yd, ye, yf, ⟨yga, ygb, ⟨⟩⟩, ⟨⟩⟩ := y
  simp only [FveqOp, Option.bind_some, weqShape_ok hN hx.2.2.2.2.2.2.1, ne_step, not_step, bool_beq]
  simp only [Prod.mk.injEq, Bool.decide_and, and_true, Bool.and_true, decide_true]
end

section
variable {N : Nat} (hN : lim < N)
include hN

theorem weqOpS_ok {xs ys : (List (Int × Int × Int × Int × Int × Int × (Int × Int × Unit) × Unit))} (hx : lnT tOpS xs) : FveqOpS N (xs, ys, ()) = some (decide (xs = ys), ()) := by
  have hlim : lim = 2147483648 := rfl
  have hl : xs.length ≤ lim := by have := hx.1; omega
  by_cases hlen : xs.length = ys.length
  · have hL := eq_loop (xs := xs) (ys := ys) (n := N) (L := fun n i => lveqOpS_0 N n (xs, ys, (i : Int), ())) (yes := .inl ()) (no := .inr (false, ())) hl hlen
      (fun n i h1 h2 hw hq => by
        have e := weqOp_ok hN (y := ys[i]) (hx.2 _ (List.getElem_mem h1))
        rw [decide_eq_true hq] at e
        simp [lveqOpS_0, h1, h2, hw, e])
      (fun n i h1 h2 hq => by simp [lveqOpS_0, h1, h2, hq, weqOp_ok hN (y := ys[i]) (hx.2 _ (List.getElem_mem h1))])
      (fun n => by simp [lveqOpS_0, hlen]) (by omega)
    simp only [Int.natCast_zero] at hL
    rcases Decidable.em (xs = ys) with rfl | h
    · simp [FveqOpS, hL]
    · simp [FveqOpS, hL, h, hlen]
  · have h : xs ≠ ys := fun h => hlen (by rw [h])
    have h2 : (xs.length : Int) ≠ ys.length := by omega
    simp [FveqOpS, h, h2]
end

section
variable {N : Nat} (hN : lim < N)
include hN

theorem weqOpSS_ok {xs ys : (List (List (Int × Int × Int × Int × Int × Int × (Int × Int × Unit) × Unit)))} (hx : lnT tOpSS xs) : FveqOpSS N (xs, ys, ()) = some (decide (xs = ys), ()) := by
  have hlim : lim = 2147483648 := rfl
  have hl : xs.length ≤ lim := by have := hx.1; omega
  by_cases hlen : xs.length = ys.length
  · have hL := eq_loop (xs := xs) (ys := ys) (n := N) (L := fun n i => lveqOpSS_0 N n (xs, ys, (i : Int), ())) (yes := .inl ()) (no := .inr (false, ())) hl hlen
      (fun n i h1 h2 hw hq => by
        have e := weqOpS_ok hN (ys := ys[i]) (hx.2 _ (List.getElem_mem h1))
        rw [decide_eq_true hq] at e
        simp [lveqOpSS_0, h1, h2, hw, e])
      (fun n i h1 h2 hq => by simp [lveqOpSS_0, h1, h2, hq, weqOpS_ok hN (ys := ys[i]) (hx.2 _ (List.getElem_mem h1))])
      (fun n => by simp [lveqOpSS_0, hlen]) (by omega)
    simp only [Int.natCast_zero] at hL
    rcases Decidable.em (xs = ys) with rfl | h
    · simp [FveqOpSS, hL]
    · simp [FveqOpSS, hL, h, hlen]
  · have h : xs ≠ ys := fun h => hlen (by rw [h])
    have h2 : (xs.length : Int) ≠ ys.length := by omega
    simp [FveqOpSS, h, h2]
end

def lens (ps : List (List Opx)) : List Int := ps.map fun p => (p.length : Int)
def totL (ps : List (List Opx)) : Nat := (ps.map List.length).sum

theorem lens_meas : ∀ {ps : List (List Opx)}, meas (lens ps) = totL ps
  | [] => rfl
  | p :: ps => by
    have := lens_meas (ps := ps)
    simp only [meas, lens, totL, List.map_cons, List.sum_cons] at this ⊢
    omega

theorem tot_fold : ∀ (xs : List (List Opx)) (s : Int), xs.foldl (fun (s : Int) p => s + p.length) s = s + (totL xs : Int)
  | [], s => by simp [totL]
  | p :: xs, s => by
    rw [List.foldl_cons, tot_fold xs]
    simp only [totL, List.map_cons, List.sum_cons]; omega

noncomputable def allCount (c : Cfx) (ps : List (List Opx)) : Int := if progsOkB c ps = true ∧ totL ps ≤ 7 then cntF (totL ps + 1) (lens ps) else 0

section
variable {N : Nat} (hN : lim < N)
include hN

theorem sl19Ok_ok {c : Cfx} {ps : List (List Opx)} (hl : ps.length ≤ 1048576) : Fsl19Ok N (c, ps, ()) = some (progsOkB c ps && decide (totL ps ≤ 7), ()) := by
  unfold Fsl19Ok
  simp only [sStoryOk_ok hN hl, Option.bind_some]
  cases hc : progsOkB c ps with
  | false => rfl
  | true =>
    obtain ⟨hp, hT1, hT3, h40⟩ := progs_T hc
    have e := (fold_loop (xs := ps) (n := N) (fun (s : Int) p => s + p.length) (fun i s => 0 ≤ s ∧ s ≤ 40 * (i : Int)) (L := fun n i s => lsl19Ok_0 N n (ps, s, (i : Int), ())) (fin := fun s => (s, ())) (by rw [lim_eq]; omega)
      (fun n i s hi hw hI => by
        have h4 := h40 i
        rw [getD_lt hi] at h4
        have hws : w64 (s + (ps[i].length : Int)) = s + ps[i].length := w64_id (by omega) (by omega)
        refine ⟨?_, by omega, by omega⟩
        simp only [lsl19Ok_0, Int.ofNat_lt, hi, decide_true, cond_true, Int.natCast_nonneg, Int.toNat_natCast, getD_lt hi, hws, hw])
      (fun n s hI => by simp only [lsl19Ok_0, Int.lt_irrefl, decide_false, cond_false]) (by rw [lim_eq] at hN; omega) (s := 0) (by simp)).1
    rw [tot_fold, Int.zero_add] at e
    simp only [Int.natCast_zero] at e
    simp only [Bool.not_true, cond_false, e, Option.bind_some, Bool.true_and]
    congr 2
    exact decide_eq_decide.2 (by omega)

omit hN in
theorem pow_small {m : Nat} (h : m ≤ 7) : (4 : Int) ^ (m + 1) ≤ 65536 := by
  have : m = 0 ∨ m = 1 ∨ m = 2 ∨ m = 3 ∨ m = 4 ∨ m = 5 ∨ m = 6 ∨ m = 7 := by omega
  rcases this with rfl | rfl | rfl | rfl | rfl | rfl | rfl | rfl <;> decide

omit hN in
theorem lens_get {ps : List (List Opx)} {k : Nat} : (lens ps).getD k 0 = ((ps.getD k []).length : Int) := by
  simp only [lens, List.getD_eq_getElem?_getD, List.getElem?_map]
  cases ps[k]? <;> rfl

theorem sAllCount_ok {c : Cfx} {ps : List (List Opx)} (hl : ps.length ≤ 1048576) : FsAllCount N (c, ps, ()) = some (allCount c ps, ()) := by
  have hlim : lim = 2147483648 := rfl
  unfold FsAllCount allCount
  simp only [sl19Ok_ok hN hl, Option.bind_some]
  by_cases h : progsOkB c ps = true ∧ totL ps ≤ 7
  · obtain ⟨hc, h7⟩ := h
    obtain ⟨hp, hT1, hT3, h40⟩ := progs_T hc
    have e := (fold_loop (xs := ps) (n := N) (fun (s : List Int) (p : List Opx) => s ++ [(p.length : Int)]) (fun i s => s.length = i) (L := fun n i s => lsAllCount_0 N n (ps, (i : Int), s, ())) (fin := fun s => (s, ())) (by omega)
      (fun n i s hi hw hI => by
        have hi' : (i : Int) < (ps.length : Int) := by omega
        have l1 : s.length + [((ps[i].length : Int))].length ≤ lim := by simp only [List.length_singleton]; omega
        refine ⟨?_, by simp [hI]⟩
        simp only [lsAllCount_0, hi', hi, decide_true, cond_true, Int.natCast_nonneg, Int.toNat_natCast, getD_lt hi, l1, hw])
      (fun n s hI => by simp [lsAllCount_0]) (by omega) (s := []) (by simp)).1
    have ef : ∀ (xs : List (List Opx)) (s : List Int), xs.foldl (fun (s : List Int) (p : List Opx) => s ++ [(p.length : Int)]) s = s ++ lens xs := by
      intro xs
      induction xs with
      | nil => intro s; simp [lens]
      | cons x xs ih => intro s; rw [List.foldl_cons, ih]; simp [lens]
    rw [ef, List.nil_append] at e
    simp only [Int.natCast_zero] at e
    have e2 := sCount_ok hN N (ls := lens ps) (by simp [lens]; omega) (fun k => by
      rw [lens_get]
      have := h40 k
      omega) (by rw [lens_meas]; omega) (by rw [lens_meas]; exact h7)
    rw [lens_meas] at e2
    simp only [hc, h7, decide_true, Bool.and_self, Bool.not_true, cond_false, e, Option.bind_some, e2, and_self, if_true]
  · have hb : (progsOkB c ps && decide (totL ps ≤ 7)) = false := by
      cases hq : (progsOkB c ps && decide (totL ps ≤ 7)) with
      | false => rfl
      | true => simp only [Bool.and_eq_true, decide_eq_true_eq] at hq; exact absurd hq h
    simp only [hb, Bool.not_false, cond_true, if_neg h]

omit hN in
theorem graph0_smC {T : Int} (h : T ≤ 3) : smG (graph0 T) := by
  refine ⟨by simp [graph0, sm], ?_, by simp [graph0, sm]; omega, ?_, by simp [graph0, sm]⟩
  · intro x hx
    simp only [graph0, List.mem_singleton] at hx
    subst hx
    simp [smN, sm]
  · intro x hx
    have := List.eq_of_mem_replicate hx
    subst this
    simp [sm]

omit hN in
theorem restL_zero : ∀ (ps : List (List Opx)), restL ps (List.replicate ps.length 0) = lens ps
  | [] => rfl
  | p :: ps => by
    have := restL_zero ps
    simp only [restL, lens, List.length_cons, List.replicate_succ, List.zipWith_cons_cons, List.map_cons, Int.sub_zero] at this ⊢
    rw [this]

omit hN in
theorem flatO_len : ∀ (ps : List (List Opx)), ps.flatten.length = totL ps
  | [] => rfl
  | p :: ps => by
    have := flatO_len ps
    simp only [totL, List.flatten_cons, List.length_append, List.map_cons, List.sum_cons] at this ⊢
    omega

theorem iAllCount_ok {c : Cfx} {ps : List (List Opx)} (hl : ps.length ≤ 1048576) : FiAllCount N (c, ps, ()) = some (allCount c ps, ()) := by
  have hlim : lim = 2147483648 := rfl
  unfold FiAllCount Fimerged_iAllCount_1 allCount
  simp only [iprogsOk_ok hN hl, Option.bind_some]
  cases hc : progsOkB c ps with
  | false => simp
  | true =>
    obtain ⟨hp, hT1, hT3, h40⟩ := progs_T hc
    have hx : ∀ l ∈ ps, l.length ≤ 40 := by
      intro l hl
      obtain ⟨k, hk, rfl⟩ := List.getElem_of_mem hl
      have := h40 k
      rwa [getD_lt hk] at this
    have hfl := flatO_len ps
    simp only [Bool.not_true, cond_false, concatOp_ok hN (ls := ps) (by omega) (fun l hl => by have := hx l hl; omega), Option.bind_some, hfl]
    by_cases h7 : totL ps ≤ 7
    · have n7 : ¬ ((totL ps : Nat) : Int) > 7 := by omega
      have hl2 : ps.length ≤ lim := by omega
      have hz : ∀ k, (List.replicate ps.length (0 : Int)).getD k 0 = 0 := by
        intro k
        simp only [List.getD_eq_getElem?_getD, List.getElem?_replicate]
        split <;> rfl
      have e := iCount_ok hN (ps := ps) (by omega) hx N (pos := List.replicate ps.length 0) (g := graph0 c.2.1) (cnt := 0) (by simp) (fun i hi => by rw [hz]; omega) (graph0_smC hT3)
        (by rw [restL_zero, lens_meas]; omega) (by omega) (by rw [restL_zero, lens_meas]; have := pow_small h7; omega)
      rw [restL_zero, lens_meas] at e
      have eg : ((graph0 c.2.1).1, (graph0 c.2.1).2.1, ([] : List Int), ()) = graph0 c.2.1 := rfl
      simp only [n7, decide_false, cond_false, Option.bind_some, Sum.elim_inl, Int.natCast_nonneg, Int.toNat_natCast, hl2, decide_true, cond_true, iGraphNew_ok hN hT1 hT3, eg, e, h7, and_self, if_true, Int.zero_add]
    · have n7 : ((totL ps : Nat) : Int) > 7 := by omega
      simp only [n7, decide_true, cond_true, Option.bind_some, Sum.elim_inr, h7, and_false, if_false]

theorem FnExactAllCount_ok {c : Cfx} {ps : List (List Opx)} (h1 : Wf tOpSS ps) : FvFnExactAllCount N (c, ps, ()) = some (true, ()) := by
  unfold FvFnExactAllCount
  obtain ⟨r1, e1, h⟩ := wszOpSS_ok hN h1 (left := 1048576) (by omega) (by omega)
  simp only [e1, Option.bind_some]
  rcases h with h | ⟨c1, d1, l1⟩
  · simp only [h, decide_true, cond_true]
  have n1 : ¬ r1 < 0 := by omega
  have es := sAllCount_ok hN (c := c) (ps := ps) l1.1
  have ei := iAllCount_ok hN (c := c) (ps := ps) l1.1
  generalize allCount c ps = r at es ei
  obtain ⟨ca, cb, cc, ⟨⟩⟩ := c
  have t0 := wtoConfig_ok hN (x := (ca, cb, cc, ())) ⟨trivial, trivial, trivial, trivial⟩
  have t1 := wtoOpSS_ok hN l1
  have q3 := weqOpSS_ok hN (ys := ps) l1
  simp only [n1, t0, t1, es, ei, q3, decide_true, decide_false, Bool.not_true, cond_false, Option.bind_some, bif_bne, if_true]
end
end Go.Fl
