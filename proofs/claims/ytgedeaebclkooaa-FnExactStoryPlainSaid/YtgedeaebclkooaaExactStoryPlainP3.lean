/- Proved: for every input the law FnExactStoryPlain returns true and leaves its arguments as they were. Part 3: the functions that the law reaches, as plain functions, and plain laws about them; no conditions. -/
import Derived.Test.YtgedeaebclkooaaExactStoryPlainP2
set_option linter.all false
set_option linter.all false
set_option maxRecDepth 10000
namespace Go.Fl
open Go
/-- A law's inputs are at most so large. -/
abbrev sm (n : Nat) : Prop := n ≤ 1048576

abbrev Nd := List Int × List Int × Unit

abbrev Gr := List Nd × List (List Int) × List Int × Unit

def smN (x : Nd) : Prop := sm x.1.length ∧ sm x.2.1.length

def smG (g : Gr) : Prop := sm g.1.length ∧ (∀ x ∈ g.1, smN x) ∧ sm g.2.1.length ∧ (∀ x ∈ g.2.1, sm x.length) ∧ sm g.2.2.1.length

abbrev ml (n : Nat) : Prop := n ≤ 9223372036854775807

def mlN (x : Nd) : Prop := ml x.1.length ∧ ml x.2.1.length

def mlG (g : Gr) : Prop := ml g.1.length ∧ (∀ x ∈ g.1, mlN x) ∧ ml g.2.1.length ∧ (∀ x ∈ g.2.1, ml x.length) ∧ ml g.2.2.1.length

/-- A loop that tells what is left, or stops. -/
theorem size_loop {α : Type} {xs : List α} (P : α → Prop) {L : Nat → Nat → Int → Option ((Int × Unit) ⊕ (Int × Unit))} (hl : xs.length ≤ lim)
    (h1 : ∀ n i (h : i < xs.length) (left : Int), 0 ≤ left → left ≤ 1048576 → w64 ((i : Int) + 1) = ((i + 1 : Nat) : Int) →
      L (n + 1) i left = some (.inr (-1, ())) ∨ ∃ r, 0 ≤ r ∧ r ≤ left ∧ P xs[i] ∧ L (n + 1) i left = L n (i + 1) r)
    (h3 : ∀ n left, L (n + 1) xs.length left = some (.inl (left, ()))) {n : Nat} (hn : xs.length < n) {left : Int} (h0 : 0 ≤ left) (h1' : left ≤ 1048576) :
    L n 0 left = some (.inr (-1, ())) ∨ ∃ r, 0 ≤ r ∧ r ≤ left ∧ (∀ x ∈ xs, P x) ∧ L n 0 left = some (.inl (r, ())) := by
  have key : ∀ n i left, 0 ≤ left → left ≤ 1048576 → i ≤ xs.length → xs.length - i < n → L n i left = some (.inr (-1, ())) ∨ ∃ r, 0 ≤ r ∧ r ≤ left ∧ (∀ x ∈ xs.drop i, P x) ∧ L n i left = some (.inl (r, ())) := by
    intro n
    induction n with
    | zero => intro i left _ _ _ h; exact absurd h (Nat.not_lt_zero _)
    | succ n ih =>
      intro i left h0 h2 hi hn
      by_cases h : i < xs.length
      · rcases h1 n i h left h0 h2 (w64_succ (by have : lim = 2147483648 := rfl; omega)) with h4 | ⟨r, h4, h5, h6, h7⟩
        · exact .inl h4
        · rw [h7]
          rcases ih (i + 1) r h4 (by omega) (by omega) (by omega) with h8 | ⟨q, h8, h9, h10, h11⟩
          · exact .inl h8
          · refine .inr ⟨q, h8, by omega, ?_, h11⟩
            rw [drop_at h]
            exact List.forall_mem_cons.2 ⟨h6, h10⟩
      · have : i = xs.length := by omega
        subst this
        exact .inr ⟨left, h0, Int.le_refl _, by simp, h3 _ _⟩
  simpa using key n 0 left h0 h1' (by omega) (by omega)

theorem sm_lim {n : Nat} (h : sm n) : n ≤ lim := by simp only [sm] at h; rw [lim_eq]; omega

def okR (m : Nat) (l : List Int) : Bool := l.all fun x => decide (-1 ≤ x) && decide (x < (m : Int))

def okN (m : Nat) (x : Nd) : Bool := decide (x.1.length ≤ 4) && (decide (x.2.1.length ≤ 4) && okR m x.1)

def okG (g : Gr) : Bool :=
  decide (g.1.length ≤ 200) && (decide (1 ≤ g.2.1.length) && (decide (g.2.1.length ≤ 3) && (g.1.all (okN g.1.length) && (g.2.1.all (fun r => decide (r.length ≤ 8) && okR g.1.length r) &&
    (decide (g.2.2.1.length ≤ 8) && (g.2.2.1.all (fun x => decide (0 ≤ x)) && okR g.1.length g.2.2.1))))))

theorem okG_iff {g : Gr} : okG g = true ↔ g.1.length ≤ 200 ∧ 1 ≤ g.2.1.length ∧ g.2.1.length ≤ 3 ∧ (∀ x ∈ g.1, x.1.length ≤ 4 ∧ x.2.1.length ≤ 4 ∧ okR g.1.length x.1 = true) ∧
    (∀ r ∈ g.2.1, r.length ≤ 8 ∧ okR g.1.length r = true) ∧ g.2.2.1.length ≤ 8 ∧ (∀ x ∈ g.2.2.1, 0 ≤ x) ∧ okR g.1.length g.2.2.1 = true := by
  simp only [okG, okN, Bool.and_eq_true, decide_eq_true_eq, List.all_eq_true]

theorem okR_iff {m : Nat} {l : List Int} : okR m l = true ↔ ∀ x ∈ l, -1 ≤ x ∧ x < (m : Int) := by
  simp only [okR, List.all_eq_true, Bool.and_eq_true, decide_eq_true_eq]

abbrev Mst := List Int × List Bool

/-- A reference is met. -/
def meet (st : Mst) (r : Int) : Mst := if 0 ≤ r ∧ st.2.getD r.toNat false = false then (st.1 ++ [r], st.2.set r.toNat true) else st

structure Met (m : Nat) (st : Mst) : Prop where
  len : st.2.length = m
  cnt : st.1.length + st.2.count false = m
  rng : ∀ r ∈ st.1, 0 ≤ r ∧ r < (m : Int)
  had : ∀ r : Int, 0 ≤ r → (st.2.getD r.toNat false = true ↔ r ∈ st.1)
  nd : st.1.Nodup

theorem count_set_true : ∀ {l : List Bool} {i : Nat}, i < l.length → l.getD i false = false → (l.set i true).count false + 1 = l.count false
  | [], _, h, _ => by simp at h
  | b :: l, 0, _, h => by simp at h; subst h; simp
  | b :: l, i + 1, h, h2 => by
    have ih := count_set_true (l := l) (i := i) (by simpa using h) (by simpa using h2)
    simp only [List.set_cons_succ, List.count_cons]
    omega

theorem Met.le {m : Nat} {st : Mst} (h : Met m st) : st.1.length ≤ m := by have := h.cnt; omega

theorem Met.meet {m : Nat} {st : Mst} (h : Met m st) {r : Int} (hr : r < (m : Int)) : Met m (meet st r) := by
  unfold Fl.meet
  split
  · rename_i hc
    have hl : r.toNat < st.2.length := by rw [h.len]; omega
    have hn : ¬ r ∈ st.1 := fun hm => by
      have := (h.had r hc.1).2 hm
      rw [hc.2] at this
      cases this
    refine ⟨by simp [h.len], ?_, ?_, ?_, ?_⟩
    · have := count_set_true hl hc.2
      have := h.cnt
      simp only [List.length_append, List.length_singleton]
      omega
    · intro x hx
      simp only [List.mem_append, List.mem_singleton] at hx
      rcases hx with hx | rfl
      · exact h.rng x hx
      · exact ⟨hc.1, hr⟩
    · intro x hx
      simp only [List.mem_append, List.mem_singleton]
      rw [← h.had x hx]
      simp only [List.getD_eq_getElem?_getD, List.getElem?_set]
      by_cases e : r.toNat = x.toNat
      · have : x = r := by omega
        subst this
        simp [hl]
      · have : ¬ x = r := fun e' => e (by rw [e'])
        simp [e, this]
    · rw [List.nodup_append]
      refine ⟨h.nd, by simp, ?_⟩
      intro a ha b hb e
      simp at hb
      subst hb
      subst e
      exact hn ha
  · exact h

theorem Met.meets {m : Nat} {l : List Int} : ∀ {st : Mst}, Met m st → (∀ r ∈ l, r < (m : Int)) → Met m (l.foldl Fl.meet st) := by
  induction l with
  | nil => intro st h _; exact h
  | cons r l ih => intro st h hl; exact ih (h.meet (hl r (by simp))) fun x hx => hl x (by simp [hx])

/-- Met is only more and more. -/
theorem meet_pre (st : Mst) (r : Int) : st.1 <+: (meet st r).1 := by
  unfold meet
  split
  · exact List.prefix_append _ _
  · exact List.prefix_refl _

theorem meets_pre {l : List Int} : ∀ {st : Mst}, st.1 <+: (l.foldl meet st).1 := by
  induction l with
  | nil => intro st; exact List.prefix_refl _
  | cons r l ih => intro st; exact (meet_pre st r).trans ih

theorem meet_mem {m : Nat} {st : Mst} (h : Met m st) {r : Int} (h0 : 0 ≤ r) : r ∈ (meet st r).1 := by
  unfold meet
  split
  · simp
  · rename_i hc
    exact (h.had r h0).1 (by
      cases hb : st.2.getD r.toNat false with
      | true => rfl
      | false => exact absurd ⟨h0, hb⟩ hc)

theorem meets_mem {m : Nat} {l : List Int} : ∀ {st : Mst}, Met m st → (∀ r ∈ l, r < (m : Int)) → ∀ r ∈ l, 0 ≤ r → r ∈ (l.foldl meet st).1 := by
  induction l with
  | nil => intro st _ _ r hr; simp at hr
  | cons x l ih =>
    intro st h hl r hr h0
    have h1 := h.meet (hl x (by simp))
    simp only [List.mem_cons] at hr
    rcases hr with rfl | hr
    · exact (meets_pre (l := l)).subset (meet_mem h h0)
    · exact ih h1 (fun y hy => hl y (by simp [hy])) r hr h0

theorem meet_sub {st : Mst} {r x : Int} (hx : x ∈ (meet st r).1) : x ∈ st.1 ∨ (x = r ∧ 0 ≤ r) := by
  unfold meet at hx
  split at hx
  · rename_i hc
    simp only [List.mem_append, List.mem_singleton] at hx
    rcases hx with hx | hx
    · exact .inl hx
    · exact .inr ⟨hx, hc.1⟩
  · exact .inl hx

theorem meets_sub {l : List Int} : ∀ {st : Mst} {x : Int}, x ∈ (l.foldl meet st).1 → x ∈ st.1 ∨ (x ∈ l ∧ 0 ≤ x) := by
  induction l with
  | nil => intro st x hx; exact .inl hx
  | cons r l ih =>
    intro st x hx
    rcases ih hx with h | ⟨h, h0⟩
    · rcases meet_sub h with h | ⟨rfl, h0⟩
      · exact .inl h
      · exact .inr ⟨by simp, h0⟩
    · exact .inr ⟨by simp [h], h0⟩

/-- What a node leads to. -/
def refsOf (g : Gr) (r : Int) : List Int := (g.1.getD r.toNat ([], [], ())).1

/-- The met are gone through. -/
def walk (R : Int → List Int) : Nat → Nat → Mst → Mst
  | 0, _, st => st
  | n + 1, i, st => if i < st.1.length then walk R n (i + 1) ((R (st.1.getD i 0)).foldl meet st) else st

def met0 (m : Nat) : Mst := ([], List.replicate m false)

theorem met0_ok (m : Nat) : Met m (met0 m) := by
  refine ⟨by simp [met0], by simp [met0], by simp [met0], ?_, by simp [met0]⟩
  intro r _
  simp only [met0, List.getD_eq_getElem?_getD, List.getElem?_replicate]
  split <;> simp

theorem walk_met {m : Nat} {R : Int → List Int} (hR : ∀ r, 0 ≤ r → r < (m : Int) → ∀ x ∈ R r, x < (m : Int)) : ∀ (n i : Nat) {st : Mst}, Met m st → Met m (walk R n i st)
  | 0, _, _, h => h
  | n + 1, i, st, h => by
    unfold walk
    split
    · rename_i hi
      refine walk_met hR n (i + 1) (h.meets ?_)
      rw [getD_lt hi]
      exact hR _ (h.rng _ (List.getElem_mem hi)).1 (h.rng _ (List.getElem_mem hi)).2
    · exact h

theorem walk_pre {R : Int → List Int} : ∀ (n i : Nat) {st : Mst}, st.1 <+: (walk R n i st).1
  | 0, _, st => List.prefix_refl _
  | n + 1, i, st => by
    unfold walk
    split
    · exact (meets_pre (l := R (st.1.getD i 0))).trans (walk_pre n (i + 1))
    · exact List.prefix_refl _

/-- What is behind the places that were gone through, was met. -/
theorem walk_closed {m : Nat} {R : Int → List Int} (hR : ∀ r, 0 ≤ r → r < (m : Int) → ∀ x ∈ R r, x < (m : Int)) : ∀ (n i : Nat) {st : Mst}, Met m st → m - i < n →
    (∀ j (hj : j < st.1.length), j < i → ∀ x ∈ R st.1[j], 0 ≤ x → x ∈ st.1) → ∀ r ∈ (walk R n i st).1, ∀ x ∈ R r, 0 ≤ x → x ∈ (walk R n i st).1
  | 0, _, _, _, h, _ => absurd h (Nat.not_lt_zero _)
  | n + 1, i, st, h, hn, hc => by
    unfold walk
    split
    · rename_i hi
      have hb : ∀ x ∈ R (st.1.getD i 0), x < (m : Int) := by
        rw [getD_lt hi]
        exact hR _ (h.rng _ (List.getElem_mem hi)).1 (h.rng _ (List.getElem_mem hi)).2
      have hle := h.le
      refine walk_closed hR n (i + 1) (h.meets hb) (by omega) ?_
      intro j hj hji x hx h0
      have hp := meets_pre (l := R (st.1.getD i 0)) (st := st)
      rcases Nat.lt_or_ge j i with hlt | hge
      · have hj' : j < st.1.length := by omega
        have e : ((R (st.1.getD i 0)).foldl meet st).1[j] = st.1[j] := (hp.getElem hj').symm
        rw [e] at hx
        exact hp.subset (hc j hj' hlt x hx h0)
      · have : j = i := by omega
        subst this
        have e : ((R (st.1.getD j 0)).foldl meet st).1[j] = st.1[j] := (hp.getElem hi).symm
        rw [e] at hx
        exact meets_mem h hb x (by rw [getD_lt hi]; exact hx) h0
    · rename_i hi
      intro r hr x hx h0
      obtain ⟨j, hj, rfl⟩ := List.getElem_of_mem hr
      exact hc j hj (by omega) x hx h0

/-- Whatever holds of the first ones and is handed on, holds of all. -/
theorem walk_ind {R : Int → List Int} {P : Int → Prop} (hP : ∀ r, P r → ∀ x ∈ R r, 0 ≤ x → P x) : ∀ (n i : Nat) {st : Mst}, (∀ r ∈ st.1, P r) → ∀ r ∈ (walk R n i st).1, P r
  | 0, _, _, h => h
  | n + 1, i, st, h => by
    unfold walk
    split
    · rename_i hi
      refine walk_ind hP n (i + 1) fun r hr => ?_
      rcases meets_sub hr with h1 | ⟨h1, h0⟩
      · exact h r h1
      · rw [getD_lt hi] at h1
        exact hP _ (h _ (List.getElem_mem hi)) r h1 h0
    · exact h

def begin0 (g : Gr) : Mst := g.2.2.1.foldl meet (g.2.1.foldl (fun s l => l.foldl meet s) (met0 g.1.length))

/-- The nodes that are reached, as they are met. -/
def order (g : Gr) : List Int := (walk (refsOf g) (g.1.length + 1) 0 (begin0 g)).1

theorem refs_rng {g : Gr} (h : okG g = true) (r : Int) : ∀ x ∈ refsOf g r, x < (g.1.length : Int) := by
  obtain ⟨_, _, _, h4, _⟩ := okG_iff.1 h
  intro x hx
  unfold refsOf at hx
  by_cases hr : r.toNat < g.1.length
  · rw [getD_lt hr] at hx
    exact (okR_iff.1 (h4 _ (List.getElem_mem hr)).2.2 x hx).2
  · rw [List.getD_eq_getElem?_getD, List.getElem?_eq_none (by omega)] at hx
    simp at hx

theorem roots_met {m : Nat} {ls : List (List Int)} : ∀ {st : Mst}, Met m st → (∀ l ∈ ls, ∀ x ∈ l, x < (m : Int)) → Met m (ls.foldl (fun s l => l.foldl meet s) st) := by
  induction ls with
  | nil => intro st h _; exact h
  | cons l ls ih => intro st h hl; exact ih (h.meets (hl l (by simp))) fun x hx => hl x (by simp [hx])

theorem roots_pre {ls : List (List Int)} : ∀ {st : Mst}, st.1 <+: (ls.foldl (fun s l => l.foldl meet s) st).1 := by
  induction ls with
  | nil => intro st; exact List.prefix_refl _
  | cons r l ih => intro st; exact meets_pre.trans ih

theorem roots_mem {m : Nat} {ls : List (List Int)} : ∀ {st : Mst}, Met m st → (∀ l ∈ ls, ∀ x ∈ l, x < (m : Int)) → ∀ l ∈ ls, ∀ r ∈ l, 0 ≤ r → r ∈ (ls.foldl (fun s l => l.foldl meet s) st).1 := by
  induction ls with
  | nil => intro st _ _ r hr; simp at hr
  | cons x ls ih =>
    intro st h hl l hm r hr h0
    have h1 := h.meets (hl x (by simp))
    simp only [List.mem_cons] at hm
    rcases hm with rfl | hm
    · exact (roots_pre (ls := ls)).subset (meets_mem h (hl l (by simp)) r hr h0)
    · exact ih h1 (fun y hy => hl y (by simp [hy])) l hm r hr h0

theorem roots_sub {ls : List (List Int)} : ∀ {st : Mst} {x : Int}, x ∈ (ls.foldl (fun s l => l.foldl meet s) st).1 → x ∈ st.1 ∨ ∃ l ∈ ls, x ∈ l ∧ 0 ≤ x := by
  induction ls with
  | nil => intro st x hx; exact .inl hx
  | cons r l ih =>
    intro st x hx
    rcases ih hx with h | ⟨l', h, h0⟩
    · rcases meets_sub h with h | h
      · exact .inl h
      · exact .inr ⟨r, by simp, h⟩
    · exact .inr ⟨l', by simp [h], h0⟩

theorem rootsrng {g : Gr} (h : okG g = true) : ∀ l ∈ g.2.1, ∀ x ∈ l, x < (g.1.length : Int) := fun l hl x hx => by
  obtain ⟨_, _, _, _, h5, _⟩ := okG_iff.1 h
  exact (okR_iff.1 (h5 l hl).2 x hx).2

theorem pinsrng {g : Gr} (h : okG g = true) : ∀ x ∈ g.2.2.1, x < (g.1.length : Int) := fun x hx => by
  obtain ⟨_, _, _, _, _, _, _, h8⟩ := okG_iff.1 h
  exact (okR_iff.1 h8 x hx).2

theorem begin0_ok {g : Gr} (h : okG g = true) : Met g.1.length (begin0 g) :=
  (roots_met (met0_ok _) (rootsrng h)).meets (pinsrng h)

theorem order_met {g : Gr} (h : okG g = true) : Met g.1.length (walk (refsOf g) (g.1.length + 1) 0 (begin0 g)) :=
  walk_met (fun r _ _ => refs_rng h r) _ _ (begin0_ok h)

theorem order_rng {g : Gr} (h : okG g = true) : ∀ r ∈ order g, 0 ≤ r ∧ r < (g.1.length : Int) := (order_met h).rng

theorem order_nodup {g : Gr} (h : okG g = true) : (order g).Nodup := (order_met h).nd

theorem order_le {g : Gr} (h : okG g = true) : (order g).length ≤ g.1.length := (order_met h).le

theorem order_closed {g : Gr} (h : okG g = true) : ∀ r ∈ order g, ∀ x ∈ refsOf g r, 0 ≤ x → x ∈ order g :=
  walk_closed (fun r _ _ => refs_rng h r) _ _ (begin0_ok h) (by omega) fun j _ hj => absurd hj (Nat.not_lt_zero _)

theorem order_roots {g : Gr} (h : okG g = true) : ∀ l ∈ g.2.1, ∀ x ∈ l, 0 ≤ x → x ∈ order g := fun l hl x hx h0 =>
  (walk_pre _ _).subset (meets_pre.subset (roots_mem (met0_ok _) (rootsrng h) l hl x hx h0))

theorem order_pins {g : Gr} (h : okG g = true) : ∀ x ∈ g.2.2.1, x ∈ order g := fun x hx => by
  obtain ⟨_, _, _, _, _, _, h7, _⟩ := okG_iff.1 h
  exact (walk_pre _ _).subset (meets_mem (roots_met (met0_ok _) (rootsrng h)) (pinsrng h) x hx (h7 x hx))

/-- The reached are the least that holds what is begun with and is closed. -/
theorem order_ind {g : Gr} {P : Int → Prop} (hr : ∀ l ∈ g.2.1, ∀ x ∈ l, 0 ≤ x → P x) (hp : ∀ x ∈ g.2.2.1, 0 ≤ x → P x) (hP : ∀ r, P r → ∀ x ∈ refsOf g r, 0 ≤ x → P x) : ∀ r ∈ order g, P r :=
  walk_ind hP _ _ fun r h => by
    rcases meets_sub h with h | ⟨h, h0⟩
    · rcases roots_sub h with h | ⟨l, hl, h, h0⟩
      · simp [met0] at h
      · exact hr l hl r h h0
    · exact hp r h h0

abbrev Opx := Int × Int × Int × Int × Int × Int × (Int × Int × Unit) × Unit
def shOk (s : Int × Int × Unit) : Bool := decide (0 ≤ s.1) && (decide (s.1 ≤ 4) && (decide (0 ≤ s.2.1) && decide (s.2.1 ≤ 4)))
def opOk (o : Opx) : Bool := decide (1 ≤ o.1) && (decide (o.1 ≤ 11) && (!(decide (o.1 = 1)) || shOk o.2.2.2.2.2.2.1))
/-- A place of a list. -/
def inB (i : Int) (n : Nat) : Prop := 0 ≤ i ∧ i < (n : Int)
instance (i : Int) (n : Nat) : Decidable (inB i n) := by unfold inB; infer_instance
/-- The code told ahead of an operation. -/
def beginC (o : Opx) (rs : List Int) (nil : Int) : Int :=
  if (o.1 = 8 ∧ rs.length = 0) ∨ (o.1 ≠ 1 ∧ o.1 ≠ 8 ∧ ¬ inB o.2.1 rs.length) ∨ ((o.1 = 3 ∨ o.1 = 6 ∨ o.1 = 7) ∧ ¬ inB o.2.2.1 rs.length) ∨ (o.1 = 7 ∧ ¬ inB o.2.2.2.1 rs.length) then 2
  else if o.1 ≠ 1 ∧ o.1 ≠ 6 ∧ o.1 ≠ 8 ∧ o.1 ≠ 9 ∧ rs.getD o.2.1.toNat 0 = nil then 3
  else if (o.1 = 1 ∨ o.1 = 2 ∨ o.1 = 9) ∧ rs.length = 8 then 5
  else 0
/-- The last place of a number. -/
def lastFrom : List Int → Int → Int → Int → Int
  | [], _, _, at' => at'
  | x :: l, a, i, at' => lastFrom l a (i + 1) (if x = a then i else at')
def lastP (l : List Int) (a : Int) : Int := lastFrom l a 0 (-1)

abbrev nd0 : Nd := ([], [], ())
/-- What an operation does when no code was told ahead. -/
def actG (g : Gr) (t : Int) (o : Opx) (rs : List Int) : Int × Int × Gr :=
  let ra := rs.getD o.2.1.toNat 0
  let rb := rs.getD o.2.2.1.toNat 0
  let rc := rs.getD o.2.2.2.1.toNat 0
  let n := g.1.getD ra.toNat nd0
  let f := o.2.2.2.2.1
  if o.1 = 1 then if g.1.length = 200 then (0, 6, g) else (0, 0, g.1 ++ [(List.replicate o.2.2.2.2.2.2.1.1.toNat (-1), List.replicate o.2.2.2.2.2.2.1.2.1.toNat 0, ())], g.2.1.set t.toNat (rs ++ [(g.1.length : Int)]), g.2.2.1, ())
  else if o.1 = 2 then if inB f n.1.length then (0, 0, g.1, g.2.1.set t.toNat (rs ++ [n.1.getD f.toNat 0]), g.2.2.1, ()) else (0, 4, g)
  else if o.1 = 3 then if inB f n.1.length then (0, 0, g.1.set ra.toNat (n.1.set f.toNat rb, n.2), g.2.1, g.2.2.1, ()) else (0, 4, g)
  else if o.1 = 4 then if inB f n.2.1.length then (0, 0, g.1.set ra.toNat (n.1, n.2.1.set f.toNat o.2.2.2.2.2.1, ()), g.2.1, g.2.2.1, ()) else (0, 4, g)
  else if o.1 = 5 then if inB f n.2.1.length then (n.2.1.getD f.toNat 0, 0, g) else (0, 4, g)
  else if o.1 = 6 then (if ra = rb then 1 else 0, 0, g)
  else if o.1 = 7 then if inB f n.1.length then (if n.1.getD f.toNat 0 = rb then (1, 0, g.1.set ra.toNat (n.1.set f.toNat rc, n.2), g.2.1, g.2.2.1, ()) else (0, 0, g)) else (0, 4, g)
  else if o.1 = 8 then (0, 0, g.1, g.2.1.set t.toNat (rs.take (rs.length - 1)), g.2.2.1, ())
  else if o.1 = 9 then (0, 0, g.1, g.2.1.set t.toNat (rs ++ [ra]), g.2.2.1, ())
  else if o.1 = 10 then if g.2.2.1.length = 8 then (0, 7, g) else (0, 0, g.1, g.2.1, g.2.2.1 ++ [ra], ())
  else if lastP g.2.2.1 ra < 0 then (0, 7, g) else (0, 0, g.1, g.2.1, g.2.2.1.take (lastP g.2.2.1 ra).toNat ++ g.2.2.1.drop ((lastP g.2.2.1 ra).toNat + 1), ())

/-- An operation on a graph: the answer, the code, the graph behind it. -/
def doG (g : Gr) (t : Int) (o : Opx) : Int × Int × Gr :=
  if okG g = true ∧ inB t g.2.1.length ∧ opOk o = true then
    (if beginC o (g.2.1.getD t.toNat []) (-1) = 0 then actG g t o (g.2.1.getD t.toNat []) else (0, beginC o (g.2.1.getD t.toNat []) (-1), g))
  else (0, 1, [], [], [], ())

theorem lastFrom_rng : ∀ (l : List Int) (a i at' : Int), -1 ≤ at' → at' < i → -1 ≤ lastFrom l a i at' ∧ lastFrom l a i at' < i + l.length
  | [], _, _, _, h, h' => by simp only [lastFrom, List.length_nil]; omega
  | x :: l, a, i, at', h, h' => by
    simp only [lastFrom]
    have := lastFrom_rng l a (i + 1) (if x = a then i else at') (by split <;> omega) (by split <;> omega)
    simp only [List.length_cons]
    omega

theorem opOk_kind {o : Opx} (h : opOk o = true) : 1 ≤ o.1 ∧ o.1 ≤ 11 := by
  simp only [opOk, Bool.and_eq_true, decide_eq_true_eq] at h
  exact ⟨h.1, h.2.1⟩

theorem kind_cases {k : Int} (h1 : 1 ≤ k) (h2 : k ≤ 11) : k = 1 ∨ k = 2 ∨ k = 3 ∨ k = 4 ∨ k = 5 ∨ k = 6 ∨ k = 7 ∨ k = 8 ∨ k = 9 ∨ k = 10 ∨ k = 11 := by omega
/-- It comes to an end, and what it comes to is so. -/
def Ret {α : Type} (o : Option α) (P : α → Prop) : Prop := ∃ r, o = some r ∧ P r

theorem Ret.pure {α : Type} {a : α} {P : α → Prop} (h : P a) : Ret (some a) P := ⟨a, rfl, h⟩
theorem Ret.bind {α β : Type} {o : Option α} {k : α → Option β} {P : β → Prop} (Q : α → Prop) (h : Ret o Q) (hk : ∀ r, Q r → Ret (k r) P) : Ret (o.bind k) P := by
  obtain ⟨r, e, hr⟩ := h
  rw [e]
  exact hk r hr
theorem Ret.bindE {α β : Type} {o : Option α} {k : α → Option β} {P : β → Prop} {r : α} (e : o = some r) (hk : Ret (k r) P) : Ret (o.bind k) P := by
  rw [e]; exact hk
theorem Ret.mono {α : Type} {o : Option α} {P Q : α → Prop} (h : Ret o P) (hm : ∀ r, P r → Q r) : Ret o Q := by
  obtain ⟨r, e, hr⟩ := h; exact ⟨r, e, hm r hr⟩
theorem Ret.bif {α : Type} {c : Bool} {a b : Option α} {P : α → Prop} (h1 : c = true → Ret a P) (h2 : c = false → Ret b P) : Ret (bif c then a else b) P := by
  cases c with
  | true => exact h1 rfl
  | false => exact h2 rfl
theorem Ret.dec {α : Type} {p : Prop} [Decidable p] {a b : Option α} {P : α → Prop} (h1 : p → Ret a P) (h2 : ¬ p → Ret b P) : Ret (_root_.cond (decide p) a b) P := by
  by_cases h : p
  · simpa [h] using h1 h
  · simpa [h] using h2 h
theorem Ret.guard {α : Type} {p : Prop} [Decidable p] {a : Option α} {P : α → Prop} (hp : p) (h : Ret a P) : Ret (_root_.cond (decide p) a none) P := by
  simpa [hp] using h
theorem Ret.guardN {α : Type} {p : Prop} [Decidable p] {a : Option α} {P : α → Prop} (hp : ¬ p) (h : Ret a P) : Ret (_root_.cond (decide p) none a) P := by
  simpa [hp] using h
theorem Ret.beq {α β : Type} [DecidableEq β] {x y : β} {a b : Option α} {P : α → Prop} (h1 : x = y → Ret a P) (h2 : ¬ x = y → Ret b P) : Ret (_root_.cond (x == y) a b) P := by
  rw [bif_beq]
  by_cases h : x = y
  · simpa [h] using h1 h
  · simpa [h] using h2 h
theorem obind_eq {α β : Type} {o : Option α} {r : α} {k : α → Option β} {z : Option β} (e : o = some r) (h : k r = z) : o.bind k = z := by
  rw [e]; exact h
section
variable {N : Nat}

theorem iShapeOk_ok (s : Int × Int × Unit) : FiShapeOk N (s, ()) = some (shOk s, ()) := by
  simp only [FiShapeOk, shOk, ge_iff_le]
  by_cases h1 : 0 ≤ s.1 <;> by_cases h2 : s.1 ≤ 4 <;> by_cases h3 : 0 ≤ s.2.1 <;> simp [h1, h2, h3]

theorem iOpOk_ok (o : Opx) : FiOpOk N (o, ()) = some (opOk o, ()) := by
  simp only [FiOpOk, opOk, iShapeOk_ok, ge_iff_le]
  by_cases h1 : 1 ≤ o.1 <;> by_cases h2 : o.1 ≤ 11 <;> by_cases h3 : o.1 = 1 <;> simp [h1, h2, h3]

theorem itruth_ok (b : Bool) : Fitruth N (b, ()) = some (if b = true then 1 else 0, ()) := by
  cases b <;> simp [Fitruth]

theorem iOp_field_ok {o : Opx} {r m : Nat} : FiOp_field N (o, (r : Int), (m : Int), ()) = some (if o.1 = 2 ∨ o.1 = 3 ∨ o.1 = 4 ∨ o.1 = 5 ∨ o.1 = 7 then decide (inB o.2.2.2.2.1 (if o.1 = 4 ∨ o.1 = 5 then m else r)) else true, ()) := by
  obtain ⟨k, A, B, C, F, V, S, ⟨⟩⟩ := o
  simp only [FiOp_field, inB, ge_iff_le]
  by_cases h1 : k = 2
  · by_cases h : 0 ≤ F <;> simp [h1, h]
  by_cases h2 : k = 3
  · by_cases h : 0 ≤ F <;> simp [h2, h]
  by_cases h3 : k = 4
  · by_cases h : 0 ≤ F <;> simp [h3, h]
  by_cases h4 : k = 5
  · by_cases h : 0 ≤ F <;> simp [h4, h]
  by_cases h5 : k = 7
  · by_cases h : 0 ≤ F <;> simp [h5, h]
  simp [h1, h2, h3, h4, h5]

variable (hN : lim < N)
include hN

theorem iOp_early_loop {rs hs : List Int} {nil : Int} {o : Opx} (hl : hs.length ≤ lim) : liOp_early_0 N N (rs, nil, o, (hs.length : Int), 0, hs, ()) =
    some (if (hs.all fun h => decide (inB h rs.length)) = true then .inl (rs, nil, o, ()) else .inr (2, ())) := by
  have key : ∀ n i, i ≤ hs.length → hs.length - i < n → liOp_early_0 N n (rs, nil, o, (hs.length : Int), (i : Int), hs, ()) =
      some (if ((hs.drop i).all fun h => decide (inB h rs.length)) = true then .inl (rs, nil, o, ()) else .inr (2, ())) := by
    intro n
    induction n with
    | zero => intro i _ h; exact absurd h (Nat.not_lt_zero _)
    | succ n ih =>
      intro i hi hn
      by_cases h : i < hs.length
      · have w1 : w64 ((i : Int) + 1) = ((i + 1 : Nat) : Int) := w64_succ (by have : lim = 2147483648 := rfl; omega)
        have := ih (i + 1) (by omega) (by omega)
        rw [drop_at h]
        simp only [List.all_cons]
        simp only [liOp_early_0, w1, Int.ofNat_lt, h, decide_true, cond_true, Int.natCast_nonneg, Int.toNat_natCast, getD_lt h]
        by_cases h1 : hs[i] < 0
        · have : ¬ inB hs[i] rs.length := by unfold inB; omega
          simp [h1, this]
        · by_cases h2 : hs[i] ≥ (rs.length : Int)
          · have : ¬ inB hs[i] rs.length := by unfold inB; omega
            simp only [h1, h2, this, decide_false, decide_true, cond_false, cond_true, Bool.false_and, Bool.false_eq_true, if_false]
          · have h3 : inB hs[i] rs.length := by unfold inB; omega
            simp only [h1, h2, h3, decide_false, decide_true, cond_false, Bool.true_and]
            exact this
      · have : i = hs.length := by omega
        subst this
        simp [liOp_early_0]
  simpa using key N 0 (by omega) (by omega)

theorem iOp_early_ok {o : Opx} {rs : List Int} {nil : Int} (h1 : 1 ≤ o.1) (h2 : o.1 ≤ 11) (hr : rs.length ≤ 8) : FiOp_early N (o, rs, nil, ()) = some (beginC o rs nil, ()) := by
  obtain ⟨k, A, B, C, F, V, S, ⟨⟩⟩ := o
  simp only at h1 h2
  have hlim : lim = 2147483648 := rfl
  have l8 : (8 ≤ rs.length) ↔ rs.length = 8 := by omega
  have key : ∀ {i : Int}, inB i rs.length → 0 ≤ i ∧ i.toNat < rs.length := fun h => by unfold inB at h; omega
  have pe := Classical.propComplete (rs.length = 8)
  have pe0 := Classical.propComplete (rs.length = 0)
  have e0 := iOp_early_loop hN (rs := rs) (hs := []) (nil := nil) (o := (k, A, B, C, F, V, S, ())) (by simp)
  have e1 := iOp_early_loop hN (rs := rs) (hs := [A]) (nil := nil) (o := (k, A, B, C, F, V, S, ())) (by simp [hlim])
  have e2 := iOp_early_loop hN (rs := rs) (hs := [A, B]) (nil := nil) (o := (k, A, B, C, F, V, S, ())) (by simp [hlim])
  have e3 := iOp_early_loop hN (rs := rs) (hs := [A, B, C]) (nil := nil) (o := (k, A, B, C, F, V, S, ())) (by simp [hlim])
  unfold FiOp_early
  dsimp only
  rcases kind_cases h1 h2 with h | h | h | h | h | h | h | h | h | h | h <;> subst h
  · simp only [FiOp_handles, show ((1 : Int) == 1) = true from rfl, cond_true, Option.bind_some, e0]
    rcases pe with e | e <;> simp [beginC, l8, e]
  · refine obind_eq (r := ([A], ())) (by simp [FiOp_handles]) ?_
    rw [e1]
    by_cases a : inB A rs.length
    · obtain ⟨a1, a2⟩ := key a
      rcases pe with e | e <;> by_cases n : rs[A.toNat] = nil <;> simp [beginC, l8, e, a, a1, a2, n]
    · simp [beginC, a]
  · refine obind_eq (r := ([A, B], ())) (by simp [FiOp_handles]) ?_
    rw [e2]
    by_cases a : inB A rs.length
    · obtain ⟨a1, a2⟩ := key a
      by_cases b : inB B rs.length
      · by_cases n : rs[A.toNat] = nil <;> simp [beginC, a, b, a1, a2, n]
      · simp [beginC, a, b]
    · simp [beginC, a]
  · refine obind_eq (r := ([A], ())) (by simp [FiOp_handles]) ?_
    rw [e1]
    by_cases a : inB A rs.length
    · obtain ⟨a1, a2⟩ := key a
      by_cases n : rs[A.toNat] = nil <;> simp [beginC, a, a1, a2, n]
    · simp [beginC, a]
  · refine obind_eq (r := ([A], ())) (by simp [FiOp_handles]) ?_
    rw [e1]
    by_cases a : inB A rs.length
    · obtain ⟨a1, a2⟩ := key a
      by_cases n : rs[A.toNat] = nil <;> simp [beginC, a, a1, a2, n]
    · simp [beginC, a]
  · refine obind_eq (r := ([A, B], ())) (by simp [FiOp_handles]) ?_
    rw [e2]
    by_cases a : inB A rs.length
    · obtain ⟨a1, a2⟩ := key a
      by_cases b : inB B rs.length
      · simp [beginC, a, b]
      · simp [beginC, a, b]
    · simp [beginC, a]
  · refine obind_eq (r := ([A, B, C], ())) (by simp [FiOp_handles]) ?_
    rw [e3]
    by_cases a : inB A rs.length
    · obtain ⟨a1, a2⟩ := key a
      by_cases b : inB B rs.length
      · by_cases c : inB C rs.length
        · by_cases n : rs[A.toNat] = nil <;> simp [beginC, a, b, c, a1, a2, n]
        · simp [beginC, a, b, c]
      · simp [beginC, a, b]
    · simp [beginC, a]
  · refine obind_eq (r := ([], ())) (by simp [FiOp_handles]) ?_
    have e0' : liOp_early_0 N N (rs, nil, (8, A, B, C, F, V, S, ()), (([] : List Int).length : Int), 0, [], ()) = _ := e0
    rw [e0']
    clear e0 e0' e1 e2 e3
    have z0 : (rs = []) ↔ rs.length = 0 := List.length_eq_zero_iff.symm
    rcases pe0 with e | e <;> simp [beginC, z0, e]
  · refine obind_eq (r := ([A], ())) (by simp [FiOp_handles]) ?_
    rw [e1]
    by_cases a : inB A rs.length
    · rcases pe with e | e <;> simp [beginC, l8, e, a]
    · simp [beginC, a]
  · refine obind_eq (r := ([A], ())) (by simp [FiOp_handles]) ?_
    rw [e1]
    by_cases a : inB A rs.length
    · obtain ⟨a1, a2⟩ := key a
      by_cases n : rs[A.toNat] = nil <;> simp [beginC, a, a1, a2, n]
    · simp [beginC, a]
  · refine obind_eq (r := ([A], ())) (by simp [FiOp_handles]) ?_
    rw [e1]
    by_cases a : inB A rs.length
    · obtain ⟨a1, a2⟩ := key a
      by_cases n : rs[A.toNat] = nil <;> simp [beginC, a, a1, a2, n]
    · simp [beginC, a]

theorem lastFrom_snoc {a : Int} : ∀ (l : List Int) (x i at' : Int), lastFrom (l ++ [x]) a i at' = if x = a then i + l.length else lastFrom l a i at'
  | [], x, i, at' => by simp [lastFrom]
  | y :: l, x, i, at' => by
    simp only [List.cons_append, lastFrom, lastFrom_snoc l, List.length_cons]
    split
    · omega
    · rfl

theorem ilastOf_ok {xs : List Int} {a : Int} (hl : xs.length ≤ lim) : FilastOf N (xs, a, ()) = some (lastP xs a, ()) := by
  have hlim : lim = 2147483648 := rfl
  have key : ∀ n i, i ≤ xs.length → i < n → lilastOf_0 N n (xs, a, (i : Int) - 1, ()) = some (if lastP (xs.take i) a < 0 then .inl () else .inr (lastP (xs.take i) a, ())) ∧ (lastP (xs.take i) a < 0 → lastP (xs.take i) a = -1) := by
    intro n
    induction n with
    | zero => intro i _ h; exact absurd h (Nat.not_lt_zero _)
    | succ n ih =>
      intro i hi hn
      cases i with
      | zero => simp [lilastOf_0, lastP, lastFrom]
      | succ i =>
        have hi' : i < xs.length := by omega
        have w1 : w64 ((i : Int) - 1) = (i : Int) - 1 := w64_id (by omega) (by omega)
        have e : ((i + 1 : Nat) : Int) - 1 = i := by omega
        obtain ⟨ih, ih2⟩ := ih i (by omega) (by omega)
        have ht : xs.take (i + 1) = xs.take i ++ [xs[i]] := (List.take_append_getElem hi').symm
        have hs : lastP (xs.take (i + 1)) a = if xs[i] = a then (i : Int) else lastP (xs.take i) a := by
          unfold lastP
          rw [ht, lastFrom_snoc hN]
          have : (xs.take i).length = i := by simp; omega
          rw [this]
          simp
        rw [hs, e]
        simp only [lilastOf_0, w1, ge_iff_le, Int.natCast_nonneg, decide_true, cond_true, Int.toNat_natCast, hi', getD_lt hi']
        by_cases h : xs[i] = a
        · have : ¬ ((i : Int) < 0) := by omega
          simp [h, this]
        · have hb : (xs[i] == a) = false := by simpa using h
          simp only [hb, cond_false, h, if_false]
          exact ⟨ih, ih2⟩
  obtain ⟨k1, k2⟩ := key N xs.length (by omega) (by omega)
  rw [List.take_length] at k1 k2
  have w1 : w64 ((xs.length : Int) - 1) = (xs.length : Int) - 1 := w64_id (by omega) (by omega)
  simp only [FilastOf, w1, k1, Option.bind_some]
  by_cases h : lastP xs a < 0
  · simp [h, k2 h]
  · simp [h]
end
theorem lay_take {α : Type} {xs ys : List α} {p : Nat} (h : p ≤ xs.length) : (lay xs p ys).take (p + ys.length) = xs.take p ++ ys := by
  have h1 : (xs.take p ++ ys).length = p + ys.length := by simp; omega
  unfold lay
  rw [← h1, List.take_left]
theorem lay_take' {α : Type} {xs ys : List α} {p q : Nat} (h : p ≤ xs.length) (hq : q ≤ p) : (lay xs p ys).take q = xs.take q := by
  unfold lay
  rw [List.append_assoc, List.take_append_of_le_length (by simp; omega), List.take_take, Nat.min_eq_left hq]

section
variable {N : Nat}

theorem kDelete_ok {xs : List Int} {i : Nat} (hi : i < xs.length) : FkDelete_Sint_int N ((i : Int), ((i + 1 : Nat) : Int), xs, ()) = some (xs.take i ++ xs.drop (i + 1), ()) := by
  have e1 : (xs.drop (i + 1)).take (xs.length - (i + 1)) = xs.drop (i + 1) := List.take_of_length_le (by simp)
  have l1 : (xs.drop (i + 1)).length = xs.length - (i + 1) := by simp
  have hl : i + (xs.drop (i + 1)).length ≤ xs.length := by rw [l1]; omega
  have hlay : (lay xs i (xs.drop (i + 1))).length = xs.length := lay_len hl
  have hne : ((i : Int) == ((i + 1 : Nat) : Int)) = false := by simp; omega
  have g1 : (i : Int) ≤ ((i + 1 : Nat) : Int) := by omega
  have g2 : ((i + 1 : Nat) : Int) ≤ (xs.length : Int) := by omega
  have g3 : (i : Int) ≤ (xs.length : Int) := by omega
  have g4 : ((i + (xs.drop (i + 1)).length : Nat) : Int) ≤ (xs.length : Int) := by omega
  have z0 : (0 : Int).toNat = 0 := rfl
  unfold FkDelete_Sint_int
  dsimp only
  simp only [Int.natCast_nonneg, decide_true, cond_true, g1, g2, g3, Int.le_refl, hne, cond_false, Int.toNat_natCast, z0, Nat.sub_zero, e1, hl, hlay, g4]
  rw [lay_take' (by rw [hlay]; exact hl) (Nat.le_refl _), lay_take (by omega)]

theorem Mul_one {n : Int} (h0 : 0 ≤ n) (h4 : n ≤ 4) : Fmath_bits_Mul N (1, n, ()) = some (0, n, ()) := by
  have : n = 0 ∨ n = 1 ∨ n = 2 ∨ n = 3 ∨ n = 4 := by omega
  rcases this with rfl | rfl | rfl | rfl | rfl <;> rfl

variable (hN : lim < N)
include hN

theorem inone_ok {n : Int} (h0 : 0 ≤ n) (h4 : n ≤ 4) : Finone N (n, ()) = some (List.replicate n.toNat (-1), ()) := by
  have hlim : lim = 2147483648 := rfl
  obtain ⟨M, rfl⟩ : ∃ M, N = M + 6 := ⟨N - 6, by omega⟩
  have hw : IntKind.wrap .u64 (1 : Int) = 1 := rfl
  have hu : IntKind.wrap .u64 n = n := by
    have : n = 0 ∨ n = 1 ∨ n = 2 ∨ n = 3 ∨ n = 4 := by omega
    rcases this with rfl | rfl | rfl | rfl | rfl <;> rfl
  have hs : w64 n = n := w64_id (by omega) (by omega)
  have hn : ¬ n < 0 := by omega
  have hm := Mul_one (N := M + 6) h0 h4
  have hb : ¬ n > 9223372036854775807 := by omega
  have hl : n.toNat ≤ lim := by omega
  simp only [Finone, FkRepeat_Sint_int, hn, decide_false, cond_false, Option.bind_some, List.length_singleton, Int.natCast_one, hw, hu, hm, hb, hs, h0, decide_true, cond_true, hl, show ¬ (0 : Int) > 0 by omega]
  have : n = 0 ∨ n = 1 ∨ n = 2 ∨ n = 3 ∨ n = 4 := by omega
  rcases this with rfl | rfl | rfl | rfl | rfl <;> rfl
end
section
variable {N : Nat} (hN : lim < N)
include hN

theorem kClone_ok {xs : List Int} (hl : xs.length ≤ lim) : FkClone_Sint_int N (xs, ()) = some (xs, ()) := by
  cases xs with
  | nil =>
    simp only [FkClone_Sint_int, List.isEmpty_nil, cond_true]
    refine anyOf_eq (by omega) fun i _ => ?_
    cases hi : (i == 0) <;> simp
  | cons x xs =>
    have hl' : xs.length + 1 ≤ lim := by simpa using hl
    simp [FkClone_Sint_int, hl']

end
section
variable {N : Nat} (hN : lim < N)
include hN

theorem iGraph_copy_ok {g : Gr} (hs : smG g) : FiGraph_copy N (g, ()) = some g := by
  obtain ⟨a1, a2, a3, a4, a5⟩ := hs
  have l1 := sm_lim a1
  have l3 := sm_lim a3
  have e1 := fun Q => (fold_loop (xs := g.1) (n := N) (fun s x => s ++ [x]) (fun i s => s.length = i)
    (L := fun n i s => liGraph_copy_0 N n (g, g.1, (g.1.length : Int), (i : Int), s, ([] : List (List Int)), Q, ())) (fin := fun s => (g, s, ([] : List (List Int)), Q, ())) l1
    (fun n i s h hw hI => by
      subst hI
      have hlim : s.length + 1 ≤ lim := by omega
      have hx := a2 _ (List.getElem_mem h)
      simp [liGraph_copy_0, h, hw, kClone_ok hN (sm_lim hx.1), kClone_ok hN (sm_lim hx.2), hlim])
    (fun n s hI => by simp [liGraph_copy_0]) (by omega) (s := []) rfl).1
  have e2 := fun S Q => (fold_loop (xs := g.2.1) (n := N) (fun s x => s ++ [x]) (fun i s => s.length = i)
    (L := fun n i s => liGraph_copy_2 N n (g.2.1, (g.2.1.length : Int), (i : Int), S, s, Q, ())) (fin := fun s => (S, s, Q, ())) l3
    (fun n i s h hw hI => by
      subst hI
      have hlim : s.length + 1 ≤ lim := by omega
      have hx := a4 _ (List.getElem_mem h)
      simp [liGraph_copy_2, h, hw, kClone_ok hN (sm_lim hx), hlim])
    (fun n s hI => by simp [liGraph_copy_2]) (by omega) (s := []) rfl).1
  have f1 := foldl_push (fun x : Nd => x) g.1 []
  have f2 := foldl_push (fun x : List Int => x) g.2.1 []
  simp only [Int.natCast_zero, f1, f2, List.nil_append, List.map_id'] at e1 e2
  simp [FiGraph_copy, kClone_ok hN (sm_lim a5), e1, e2]
end
section
variable {N : Nat} (hN : lim < N)
include hN

theorem leads_ok {g : Gr} {xs : List Int} {low : Int} (hl : xs.length ≤ lim) :
    FiGraph_leads N (g, xs, low, ()) = some (xs.all fun x => decide (low ≤ x) && decide (x < (g.1.length : Int)), ()) := by
  have hL := find_loop (xs := xs) (n := N) (fun x => decide (x < low) || decide (x ≥ (g.1.length : Int))) (L := fun n i => lkIndexFunc_Sint_int_iGraph_leads_1_0 N n (xs, low, g, (xs.length : Int), (i : Int), ()))
    (yes := fun i => .inr ((i : Int), ())) (no := .inl ()) hl
    (fun n i h hw hq => by
      simp at hq
      simp [lkIndexFunc_Sint_int_iGraph_leads_1_0, FiGraph_leads_1, h, hw, Int.not_lt.2 hq.1, Int.not_le.2 hq.2])
    (fun n i h hq => by
      by_cases h1 : xs[i] < low
      · simp [lkIndexFunc_Sint_int_iGraph_leads_1_0, FiGraph_leads_1, h, h1]
      · simp [h1] at hq
        simp [lkIndexFunc_Sint_int_iGraph_leads_1_0, FiGraph_leads_1, h, h1, hq])
    (fun n => by simp [lkIndexFunc_Sint_int_iGraph_leads_1_0]) (by omega)
  simp only [Int.natCast_zero] at hL
  simp only [FiGraph_leads, FkContainsFunc_Sint_int_iGraph_leads_1, FkIndexFunc_Sint_int_iGraph_leads_1, hL]
  cases hf : xs.findIdx? (fun x => decide (x < low) || decide (x ≥ (g.1.length : Int))) with
  | none =>
    have : (xs.all fun x => decide (low ≤ x) && decide (x < (g.1.length : Int))) = true := by
      rw [List.findIdx?_eq_none_iff] at hf
      rw [List.all_eq_true]
      intro x hx
      have := hf x hx
      simp at this ⊢
      omega
    simp [this]
  | some i =>
    have : (xs.all fun x => decide (low ≤ x) && decide (x < (g.1.length : Int))) = false := by
      rw [List.findIdx?_eq_some_iff_getElem] at hf
      obtain ⟨h, h1, _⟩ := hf
      rw [List.all_eq_false]
      refine ⟨_, List.getElem_mem h, ?_⟩
      simp at h1 ⊢
      omega
    simp [this]

theorem leads1_ok {g : Gr} {xs : List Int} (hl : xs.length ≤ lim) : FiGraph_leads N (g, xs, -1, ()) = some (okR g.1.length xs, ()) := leads_ok hN hl

theorem iGraphOk_ok {g : Gr} (hs : smG g) : FiGraphOk N (g, ()) = some (okG g, ()) := by
  obtain ⟨a1, a2, a3, a4, a5⟩ := hs
  have h1 := all_loop (xs := g.1) (n := N) (okN g.1.length) (L := fun n i => liGraphOk_0 N n (g, g.1, (g.1.length : Int), (i : Int), ())) (yes := .inl (g, ())) (no := .inr (false, ())) (sm_lim a1)
    (fun n i h hw hq => by
      simp [okN] at hq
      simp [liGraphOk_0, h, hw, leads1_ok hN (sm_lim (a2 _ (List.getElem_mem h)).1), hq, Nat.not_lt.2 hq.1, Nat.not_lt.2 hq.2.1]
      )
    (fun n i h hq => by
      simp only [liGraphOk_0, leads1_ok hN (sm_lim (a2 _ (List.getElem_mem h)).1), getD_lt h, Int.toNat_natCast]
      simp only [okN] at hq
      by_cases h1 : g.1[i].1.length ≤ 4 <;> by_cases h2 : g.1[i].2.1.length ≤ 4 <;> simp_all)
    (fun n => by simp [liGraphOk_0]) (by have := sm_lim a1; omega)
  have h2 := all_loop (xs := g.2.1) (n := N) (fun r => decide (r.length ≤ 8) && okR g.1.length r) (L := fun n i => liGraphOk_2 N n (g, g.2.1, (g.2.1.length : Int), (i : Int), ())) (yes := .inl ()) (no := .inr (false, ())) (sm_lim a3)
    (fun n i h hw hq => by
      simp at hq
      simp [liGraphOk_2, h, hw, leads1_ok hN (sm_lim (a4 _ (List.getElem_mem h))), hq, Nat.not_lt.2 hq.1])
    (fun n i h hq => by
      simp only [liGraphOk_2, leads1_ok hN (sm_lim (a4 _ (List.getElem_mem h))), getD_lt h, Int.toNat_natCast]
      by_cases h1 : g.2.1[i].length ≤ 8 <;> simp_all)
    (fun n => by simp [liGraphOk_2]) (by have := sm_lim a3; omega)
  simp only [Int.natCast_zero] at h1 h2
  simp only [FiGraphOk, okG]
  have hp : (g.2.2.1.all (fun x => decide (0 ≤ x)) && okR g.1.length g.2.2.1) = g.2.2.1.all fun x => decide (0 ≤ x) && decide (x < (g.1.length : Int)) := by
    rw [Bool.eq_iff_iff]
    simp only [okR, Bool.and_eq_true, List.all_eq_true, decide_eq_true_eq]
    constructor
    · rintro ⟨h1, h2⟩ x hx; exact ⟨h1 x hx, (h2 x hx).2⟩
    · intro h; exact ⟨fun x hx => (h x hx).1, fun x hx => ⟨by have := (h x hx).1; omega, (h x hx).2⟩⟩
  rw [hp]
  by_cases b1 : g.1.length ≤ 200
  · by_cases b2 : 1 ≤ g.2.1.length
    · by_cases b3 : g.2.1.length ≤ 3
      · by_cases b4 : g.2.2.1.length ≤ 8
        · simp only [gt_iff_lt, lit_lt200, lt_lit1, lit_lt3, lit_lt8, Nat.not_lt.2 b1, Nat.not_lt.2 b2, Nat.not_lt.2 b3, Nat.not_lt.2 b4, b1, b2, b3, b4, decide_true, decide_false, cond_false, Option.bind_some, leads_ok hN (sm_lim a5), bif_neg]
          cases g.2.2.1.all fun x => decide (0 ≤ x) && decide (x < (g.1.length : Int))
          · simp
          · simp only [cond_true, Option.bind_some, Sum.elim_inl, h1]
            cases g.1.all (okN g.1.length)
            · simp
            · simp only [cond_true, Option.bind_some, Sum.elim_inl, h2]
              cases g.2.1.all fun r => decide (r.length ≤ 8) && okR g.1.length r <;> simp
        · simp [Nat.not_lt.2 b1, Nat.not_lt.2 b2, Nat.not_lt.2 b3, Nat.not_le.1 b4, b4]
      · simp [Nat.not_lt.2 b1, Nat.not_lt.2 b2, Nat.not_le.1 b3, b3]
    · simp [Nat.not_lt.2 b1, Nat.not_le.1 b2, b2]
  · simp [Nat.not_le.1 b1, b1]

end
section
variable {N : Nat} (hN : lim < N)
include hN

theorem okG_small {g : Gr} (h : okG g = true) : smG g := by
  obtain ⟨h1, h2, h3, h4, h5, h6, h7, h8⟩ := okG_iff.1 h
  simp only [smG, smN, sm]
  refine ⟨by omega, fun x hx => ?_, by omega, fun x hx => ?_, by omega⟩
  · have := h4 x hx; omega
  · have := h5 x hx; omega

/-- One list of references, by the places. -/
theorem meets_loop {m : Nat} {xs : List Int} (hx : ∀ x ∈ xs, x < (m : Int)) (hm : m ≤ 200) (hl : xs.length ≤ lim) {ρ : Type} {L : Nat → Nat → Mst → Option ρ} {fin : Mst → ρ}
    (h1 : ∀ n i st (h : i < xs.length), w64 ((i : Int) + 1) = ((i + 1 : Nat) : Int) → Met m st → (0 ≤ xs[i] → xs[i].toNat < st.2.length) → st.1.length + 1 ≤ lim → L (n + 1) i st = L n (i + 1) (meet st xs[i]))
    (h3 : ∀ n st, Met m st → L (n + 1) xs.length st = some (fin st)) {st : Mst} (hst : Met m st) : L N 0 st = some (fin (xs.foldl meet st)) :=
  (fold_loop (xs := xs) (n := N) meet (fun _ st => Met m st) (L := L) (fin := fin) hl
    (fun n i st h hw hI => by
      have hr := hx _ (List.getElem_mem h)
      refine ⟨h1 n i st h hw hI (fun h0 => by have := hI.len; omega) ?_, hI.meet hr⟩
      have := hI.le; rw [lim_eq]; omega)
    (fun n st hI => h3 n st hI) (by omega) hst).1

theorem roots_loop {m : Nat} {ls : List (List Int)} (hx : ∀ l ∈ ls, ∀ x ∈ l, x < (m : Int)) (hl : ls.length ≤ lim) {ρ : Type} {L : Nat → Nat → Mst → Option ρ} {fin : Mst → ρ}
    (h1 : ∀ n i st (h : i < ls.length), w64 ((i : Int) + 1) = ((i + 1 : Nat) : Int) → Met m st → L (n + 1) i st = L n (i + 1) (ls[i].foldl meet st))
    (h3 : ∀ n st, Met m st → L (n + 1) ls.length st = some (fin st)) {st : Mst} (hst : Met m st) : L N 0 st = some (fin (ls.foldl (fun s l => l.foldl meet s) st)) :=
  (fold_loop (xs := ls) (n := N) (fun s l => l.foldl meet s) (fun _ st => Met m st) (L := L) (fin := fin) hl
    (fun n i st h hw hI => ⟨h1 n i st h hw hI, hI.meets (hx _ (List.getElem_mem h))⟩)
    (fun n st hI => h3 n st hI) (by omega) hst).1

theorem walk_loop {m : Nat} {R : Int → List Int} (hR : ∀ r, 0 ≤ r → r < (m : Int) → ∀ x ∈ R r, x < (m : Int)) (hm : m ≤ 200) {ρ : Type} {L : Nat → Nat → Mst → Option ρ} {fin : Mst → ρ}
    (h1 : ∀ n (i : Nat) st (h : i < st.1.length), w64 ((i : Int) + 1) = ((i + 1 : Nat) : Int) → Met m st → L (n + 1) i st = L n (i + 1) ((R st.1[i]).foldl meet st))
    (h3 : ∀ n i st, ¬ i < st.1.length → Met m st → L (n + 1) i st = some (fin st)) {st : Mst} (hst : Met m st) : L N 0 st = some (fin (walk R (m + 1) 0 st)) := by
  have key : ∀ n i st, Met m st → i ≤ st.1.length → m - i < n → L n i st = some (fin (walk R (m + 1 - i) i st)) := by
    intro n
    induction n with
    | zero => intro i st _ _ h; exact absurd h (Nat.not_lt_zero _)
    | succ n ih =>
      intro i st hI hi hn
      have hle := hI.le
      by_cases h : i < st.1.length
      · have e : m + 1 - i = (m + 1 - (i + 1)) + 1 := by omega
        rw [h1 n i st h (w64_succ (by omega)) hI, e]
        have hb := hI.meets (hR _ (hI.rng _ (List.getElem_mem h)).1 (hI.rng _ (List.getElem_mem h)).2)
        have hp := (meets_pre (l := R st.1[i]) (st := st)).length_le
        rw [ih (i + 1) _ hb (by omega) (by omega)]
        simp only [walk, h, if_true, getD_lt h]
      · rw [h3 n i st h hI]
        cases hk : m + 1 - i with
        | zero => rfl
        | succ k => simp only [walk, h, if_false]
  have := key N 0 st hst (by omega) (by rw [lim_eq] at hN; omega)
  simpa using this

end
theorem cguard {α : Type} {p : Prop} [Decidable p] {a z : Option α} (hp : p) (h : a = z) : (_root_.cond (decide p) a none) = z := by
  simpa [hp] using h

theorem begin_zero {o : Opx} {rs : List Int} {nil : Int} (h : beginC o rs nil = 0) : (o.1 = 8 → rs.length ≠ 0) ∧ (o.1 ≠ 1 → o.1 ≠ 8 → inB o.2.1 rs.length) ∧ (o.1 = 3 ∨ o.1 = 6 ∨ o.1 = 7 → inB o.2.2.1 rs.length) ∧ (o.1 = 7 → inB o.2.2.2.1 rs.length) ∧
    (o.1 ≠ 1 → o.1 ≠ 6 → o.1 ≠ 8 → o.1 ≠ 9 → rs.getD o.2.1.toNat 0 ≠ nil) ∧ (o.1 = 1 ∨ o.1 = 2 ∨ o.1 = 9 → rs.length ≠ 8) := by
  unfold beginC at h
  split at h
  · cases h
  · rename_i h1
    split at h
    · cases h
    · rename_i h2
      split at h
      · cases h
      · rename_i h3
        simp only [not_or, not_and, Decidable.not_not] at h1
        refine ⟨fun e => h1.1 e, fun e1 e2 => h1.2.1 e1 e2, fun e => h1.2.2.1 e, fun e => h1.2.2.2 e, fun e1 e2 e3 e4 e5 => h2 ⟨e1, e2, e3, e4, e5⟩, fun e1 e2 => h3 ⟨e1, e2⟩⟩

theorem inB_nat {i : Int} {n : Nat} (h : inB i n) : 0 ≤ i ∧ i.toNat < n := by unfold inB at h; omega
theorem inB_all {i : Int} {n : Nat} (h : inB i n) : 0 ≤ i ∧ i.toNat < n ∧ i < (n : Int) := by unfold inB at h; omega

section
variable {N : Nat} (hN : lim < N)
include hN

theorem iGraphDo_act {g : Gr} {t : Int} {o : Opx} (hs : smG g) (hg : okG g = true) (ht : inB t g.2.1.length) (ho : opOk o = true) (hz : beginC o (g.2.1.getD t.toNat []) (-1) = 0) :
    FiGraphDo N (g, t, o, ()) = some (actG g t o (g.2.1.getD t.toNat [])) := by
  have hlim : lim = 2147483648 := rfl
  obtain ⟨k1, k11⟩ := opOk_kind ho
  obtain ⟨t0, t1⟩ := inB_nat ht
  obtain ⟨z1, z2, z3, z4, z5, z6⟩ := begin_zero hz
  have hok := okG_iff.1 hg
  have hrs : okR g.1.length (g.2.1.getD t.toNat []) = true ∧ (g.2.1.getD t.toNat []).length ≤ 8 := by
    rw [getD_lt t1]
    have := hok.2.2.2.2.1 _ (List.getElem_mem t1)
    exact ⟨this.2, this.1⟩
  have hn1 : g.1.length ≤ 200 := hok.1
  have hp8 : g.2.2.1.length ≤ 8 := hok.2.2.2.2.2.1
  have t1' : ¬ t < 0 := by omega
  have t2' : ¬ t ≥ (g.2.1.length : Int) := by unfold inB at ht; omega
  unfold FiGraphDo
  dsimp only
  refine obind_eq (r := .inl (t, g, o, ())) (by simp only [iGraphOk_ok hN hs, hg, iOpOk_ok, ho, t1', t2', Option.bind_some, Bool.not_true, cond_false, decide_false]) ?_
  dsimp only [Sum.elim_inl]
  refine obind_eq (iGraph_copy_ok hN hs) (cguard t0 (cguard t1 (obind_eq (iOp_early_ok hN k1 k11 hrs.2) ?_)))
  dsimp only
  rw [hz]
  generalize hrse : g.2.1.getD t.toNat [] = rs at *
  have hra : ∀ {i : Int}, inB i rs.length → rs.getD i.toNat 0 ≠ -1 → 0 ≤ rs.getD i.toNat 0 ∧ (rs.getD i.toNat 0).toNat < g.1.length ∧ rs.getD i.toNat 0 < (g.1.length : Int) := by
    intro i hi hne
    obtain ⟨a, b⟩ := inB_nat hi
    rw [getD_lt b] at hne ⊢
    have := okR_iff.1 hrs.1 _ (List.getElem_mem b)
    omega
  have hrm : ∀ {i : Int}, inB i rs.length → -1 ≤ rs.getD i.toNat 0 ∧ (0 ≤ rs.getD i.toNat 0 → (rs.getD i.toNat 0).toNat < g.1.length) := by
    intro i hi
    obtain ⟨a, b⟩ := inB_nat hi
    rw [getD_lt b]
    have := okR_iff.1 hrs.1 _ (List.getElem_mem b)
    omega
  obtain ⟨k, A, B, C, F, V, ⟨R, M, ⟨⟩⟩, ⟨⟩⟩ := o
  simp only at k1 k11 z1 z2 z3 z4 z5 z6
  have hot : (Int.ofNat t.toNat).toNat = t.toNat := rfl
  simp only [show ((0 : Int) != 0) = false from rfl, cond_false]
  -- what is read first
  have first : ∀ {β : Type} {z : Option β} {K : _ → Option β}, (k ≠ 1 → k ≠ 8 → inB A rs.length) →
      K ((k, A, B, C, F, V, (R, M, ()), ()), Int.ofNat t.toNat, (if k ≠ 1 ∧ k ≠ 8 then rs.getD A.toNat 0 else -1), g.1, g.2.1, g.2.2.1, ()) = z →
      Option.bind (_root_.cond (k != 1) (_root_.cond (k != 8) (_root_.cond (decide (0 ≤ A)) (_root_.cond (decide (A.toNat < rs.length)) (some ((k, A, B, C, F, V, (R, M, ()), ()), Int.ofNat t.toNat, rs.getD A.toNat 0, g.1, g.2.1, g.2.2.1, ())) none) none)
        (some ((k, A, B, C, F, V, (R, M, ()), ()), Int.ofNat t.toNat, -1, g.1, g.2.1, g.2.2.1, ()))) (some ((k, A, B, C, F, V, (R, M, ()), ()), Int.ofNat t.toNat, -1, g.1, g.2.1, g.2.2.1, ()))) K = z := by
    intro β z K h hK
    refine obind_eq ?_ hK
    by_cases c1 : k = 1
    · subst c1; simp
    · by_cases c8 : k = 8
      · subst c8; simp
      · obtain ⟨a, b⟩ := inB_nat (h c1 c8)
        simp [-List.getD_eq_getElem?_getD, c1, c8, a, b]
  refine first z2 ?_
  clear first
  dsimp only
  simp only [hot, hrse]
  rcases kind_cases k1 k11 with h | h | h | h | h | h | h | h | h | h | h <;> subst h
  · -- new
    simp only [opOk, shOk, Bool.and_eq_true, decide_eq_true_eq, Bool.or_eq_true, Bool.not_eq_true', decide_eq_false_iff_not] at ho
    obtain ⟨r0, r4, m0, m4⟩ := (ho.2.2.resolve_left (by simp))
    have m4' : M.toNat ≤ lim := by rw [lim_eq]; omega
    have l200 : ((g.1.length : Int) = 200) ↔ g.1.length = 200 := by omega
    have hl1 : g.1.length + 1 ≤ lim := by rw [lim_eq]; omega
    have hl2 : rs.length + 1 ≤ lim := by rw [lim_eq]; omega
    rcases Classical.propComplete (g.1.length = 200) with e | e
    · simp [-List.getD_eq_getElem?_getD, l200, e, actG]
    · simp [-List.getD_eq_getElem?_getD, l200, e, actG, hl2, inone_ok hN r0 r4, m0, m4', hl1]
  · -- load
    obtain ⟨n1, n2, n3⟩ := hra (z2 (by omega) (by omega)) (z5 (by omega) (by omega) (by omega) (by omega))
    have hl2 : rs.length + 1 ≤ lim := by rw [lim_eq]; omega
    by_cases f : inB F (g.1.getD (rs.getD A.toNat 0).toNat nd0).1.length
    · obtain ⟨f1, f2, f3⟩ := inB_all f
      simp [-List.getD_eq_getElem?_getD, actG, n1, n2, iOp_field_ok, f, f1, f2, hl2]
    · simp [-List.getD_eq_getElem?_getD, actG, n1, n2, iOp_field_ok, f]
  · -- store
    obtain ⟨b1, b2, b3⟩ := inB_all (z3 (by omega))
    obtain ⟨n1, n2, n3⟩ := hra (z2 (by omega) (by omega)) (z5 (by omega) (by omega) (by omega) (by omega))
    by_cases f : inB F (g.1.getD (rs.getD A.toNat 0).toNat nd0).1.length
    · obtain ⟨f1, f2, f3⟩ := inB_all f
      simp [-List.getD_eq_getElem?_getD, actG, n1, n2, b1, b2, iOp_field_ok, f, f1, f2]
    · simp [-List.getD_eq_getElem?_getD, actG, n1, n2, iOp_field_ok, f]
  · -- put
    obtain ⟨n1, n2, n3⟩ := hra (z2 (by omega) (by omega)) (z5 (by omega) (by omega) (by omega) (by omega))
    by_cases f : inB F (g.1.getD (rs.getD A.toNat 0).toNat nd0).2.1.length
    · obtain ⟨f1, f2, f3⟩ := inB_all f
      simp [-List.getD_eq_getElem?_getD, actG, n1, n2, iOp_field_ok, f, f1, f2]
    · simp [-List.getD_eq_getElem?_getD, actG, n1, n2, iOp_field_ok, f]
  · -- get
    obtain ⟨n1, n2, n3⟩ := hra (z2 (by omega) (by omega)) (z5 (by omega) (by omega) (by omega) (by omega))
    by_cases f : inB F (g.1.getD (rs.getD A.toNat 0).toNat nd0).2.1.length
    · obtain ⟨f1, f2, f3⟩ := inB_all f
      simp [-List.getD_eq_getElem?_getD, actG, n1, n2, iOp_field_ok, f, f1, f2]
    · simp [-List.getD_eq_getElem?_getD, actG, n1, n2, iOp_field_ok, f]
  · -- same
    obtain ⟨b1, b2, b3⟩ := inB_all (z3 (by omega))
    obtain ⟨m1, m2⟩ := hrm (z2 (by omega) (by omega))
    by_cases e : 0 ≤ rs.getD A.toNat 0
    · have m2 := m2 e
      simp [-List.getD_eq_getElem?_getD, actG, e, m2, b1, b2, iOp_field_ok, itruth_ok]
    · simp [-List.getD_eq_getElem?_getD, actG, e, b1, b2, itruth_ok]
  · -- cas
    obtain ⟨b1, b2, b3⟩ := inB_all (z3 (by omega))
    obtain ⟨c1, c2, c3⟩ := inB_all (z4 (by omega))
    obtain ⟨n1, n2, n3⟩ := hra (z2 (by omega) (by omega)) (z5 (by omega) (by omega) (by omega) (by omega))
    by_cases f : inB F (g.1.getD (rs.getD A.toNat 0).toNat nd0).1.length
    · obtain ⟨f1, f2, f3⟩ := inB_all f
      by_cases e : (g.1.getD (rs.getD A.toNat 0).toNat nd0).1.getD F.toNat 0 = rs.getD B.toNat 0
      · simp [-List.getD_eq_getElem?_getD, actG, n1, n2, b1, b2, c1, c2, iOp_field_ok, f, f1, f2, e]
      · simp [-List.getD_eq_getElem?_getD, actG, n1, n2, b1, b2, c1, c2, iOp_field_ok, f, f1, f2, e]
    · simp [-List.getD_eq_getElem?_getD, actG, n1, n2, iOp_field_ok, f]
  · -- drop
    have hl := z1 rfl
    have hw : w64 ((rs.length : Int) - 1) = ((rs.length - 1 : Nat) : Int) := by rw [w64_id (by omega) (by omega)]; omega
    have h1 : ((rs.length - 1 : Nat) : Int) ≤ (rs.length : Int) := by omega
    simp [-List.getD_eq_getElem?_getD, actG, hw, h1]
  · -- dup
    obtain ⟨m1, m2⟩ := hrm (z2 (by omega) (by omega))
    have hl2 : rs.length + 1 ≤ lim := by rw [lim_eq]; omega
    by_cases e : 0 ≤ rs.getD A.toNat 0
    · have m2 := m2 e
      simp [-List.getD_eq_getElem?_getD, actG, e, m2, iOp_field_ok, hl2]
    · simp [-List.getD_eq_getElem?_getD, actG, e, hl2]
  · -- pin
    obtain ⟨n1, n2, n3⟩ := hra (z2 (by omega) (by omega)) (z5 (by omega) (by omega) (by omega) (by omega))
    have hl2 : g.2.2.1.length + 1 ≤ lim := by rw [lim_eq]; omega
    have l8 : ((g.2.2.1.length : Int) = 8) ↔ g.2.2.1.length = 8 := by omega
    rcases Classical.propComplete (g.2.2.1.length = 8) with e | e <;> simp [-List.getD_eq_getElem?_getD, actG, n1, n2, iOp_field_ok, l8, e, hl2]
  · -- unpin
    obtain ⟨n1, n2, n3⟩ := hra (z2 (by omega) (by omega)) (z5 (by omega) (by omega) (by omega) (by omega))
    have hl2 : g.2.2.1.length ≤ lim := by rw [lim_eq]; omega
    have hlo := ilastOf_ok hN (a := rs.getD A.toNat 0) hl2
    have hr := lastFrom_rng g.2.2.1 (rs.getD A.toNat 0) 0 (-1) (by omega) (by omega)
    have e0 : lastFrom g.2.2.1 (rs.getD A.toNat 0) 0 (-1) = lastP g.2.2.1 (rs.getD A.toNat 0) := rfl
    rw [e0] at hr
    by_cases e : lastP g.2.2.1 (rs.getD A.toNat 0) < 0
    · simp [-List.getD_eq_getElem?_getD, actG, n1, n2, iOp_field_ok, hlo, e]
    · obtain ⟨j, hj⟩ := Int.eq_ofNat_of_zero_le (Int.not_lt.1 e)
      have hjl : j < g.2.2.1.length := by omega
      have hw : w64 ((j : Int) + 1) = ((j + 1 : Nat) : Int) := w64_succ (by omega)
      rw [hj] at hlo e
      simp only [actG, hj]
      have hd := kDelete_ok (N := N) hjl
      simp only [Int.natCast_add, Int.natCast_one] at hd hw
      simp [-List.getD_eq_getElem?_getD, n1, n2, iOp_field_ok, hlo, e, hw, hd]

theorem iGraphDo_ok {g : Gr} {t : Int} {o : Opx} (hs : smG g) : FiGraphDo N (g, t, o, ()) = some (doG g t o) := by
  by_cases hc : okG g = true ∧ inB t g.2.1.length ∧ opOk o = true
  · obtain ⟨hg, ht, ho⟩ := hc
    by_cases hz : beginC o (g.2.1.getD t.toNat []) (-1) = 0
    · rw [iGraphDo_act hN hs hg ht ho hz]
      simp only [doG, hg, ht, ho, hz, and_self, if_true]
    · obtain ⟨k1, k11⟩ := opOk_kind ho
      obtain ⟨t0, t1⟩ := inB_nat ht
      have t1' : ¬ t < 0 := by omega
      have t2' : ¬ t ≥ (g.2.1.length : Int) := by unfold inB at ht; omega
      have hr8 : (g.2.1.getD t.toNat []).length ≤ 8 := by
        rw [getD_lt t1]
        exact ((okG_iff.1 hg).2.2.2.2.1 _ (List.getElem_mem t1)).1
      unfold FiGraphDo
      dsimp only
      refine obind_eq (r := .inl (t, g, o, ())) (by simp only [iGraphOk_ok hN hs, hg, iOpOk_ok, ho, t1', t2', Option.bind_some, Bool.not_true, cond_false, decide_false]) ?_
      dsimp only [Sum.elim_inl]
      refine obind_eq (iGraph_copy_ok hN hs) (cguard t0 (cguard t1 (obind_eq (iOp_early_ok hN k1 k11 hr8) ?_)))
      simp only [doG, hg, ht, ho, hz, and_self, if_true, if_false]
      generalize beginC o (g.2.1.getD t.toNat []) (-1) = c at hz ⊢
      simp [hz]
  · simp only [doG, hc, if_false]
    unfold FiGraphDo
    dsimp only
    cases hg : okG g with
    | false => simp [iGraphOk_ok hN hs, hg]
    | true =>
      by_cases h1 : t < 0
      · simp [iGraphOk_ok hN hs, hg, h1]
      · by_cases h2 : t ≥ (g.2.1.length : Int)
        · have h2' : (g.2.1.length : Int) ≤ t := h2
          simp [iGraphOk_ok hN hs, hg, h1, h2']
        · have ht : inB t g.2.1.length := by unfold inB; omega
          have ho : opOk o = false := by
            cases h : opOk o with
            | false => rfl
            | true => exact absurd ⟨hg, ht, h⟩ hc
          have h2' : ¬ (g.2.1.length : Int) ≤ t := h2
          simp [iGraphOk_ok hN hs, hg, h1, h2', iOpOk_ok, ho]
end
section
variable {N : Nat} (hN : lim < N)
include hN

theorem sl5Ints_ok {xs : List Int} (hl : xs.length ≤ lim) : Fsl5Ints N (xs, ()) = some (xs, ()) := by
  simp [Fsl5Ints, hl]

end
section
variable {N : Nat}

theorem sShapeOk_ok (s : Int × Int × Unit) : FsShapeOk N (s, ()) = some (shOk s, ()) := by
  simp only [FsShapeOk, shOk, ge_iff_le]
  by_cases h1 : 0 ≤ s.1 <;> by_cases h2 : s.1 ≤ 4 <;> by_cases h3 : 0 ≤ s.2.1 <;> simp [h1, h2, h3]

theorem sOpOk_ok (o : Opx) : FsOpOk N (o, ()) = some (opOk o, ()) := by
  simp only [FsOpOk, opOk, sShapeOk_ok, ge_iff_le]
  by_cases h1 : 1 ≤ o.1 <;> by_cases h2 : o.1 ≤ 11 <;> by_cases h3 : o.1 = 1 <;> simp [h1, h2, h3]

theorem sl5Fields_ok (k : Int) : Fsl5Fields N (k, ()) = some (decide (k = 2 ∨ k = 3 ∨ k = 4 ∨ k = 5 ∨ k = 7), ()) := by
  simp only [Fsl5Fields]
  by_cases h1 : k = 2
  · simp [h1]
  by_cases h2 : k = 3
  · simp [h2]
  by_cases h3 : k = 4
  · simp [h3]
  by_cases h4 : k = 5
  · simp [h4]
  by_cases h5 : k = 7 <;> simp [h1, h2, h3, h4, h5]

set_option maxHeartbeats 1000000 in
theorem sl5Begin_ok {o : Opx} {rs : List Int} {nil : Int} (h1 : 1 ≤ o.1) (h2 : o.1 ≤ 11) : Fsl5Begin N (o, rs, nil, ()) = some (beginC o rs nil, ()) := by
  obtain ⟨k, A, B, C, F, V, S, ⟨⟩⟩ := o
  simp only at h1 h2
  unfold Fsl5Begin
  dsimp only
  refine obind_eq (r := (rs, nil, (k, A, B, C, F, V, S, ()), (rs.length : Int), decide (inB A rs.length), ())) (by by_cases a0 : 0 ≤ A <;> simp [a0, inB]) ?_
  dsimp only
  refine obind_eq (r := (rs, nil, (k, A, B, C, F, V, S, ()), (rs.length : Int), decide (inB A rs.length), decide (inB B rs.length), ())) (by by_cases a0 : 0 ≤ B <;> simp [a0, inB]) ?_
  dsimp only
  refine obind_eq (r := (rs, nil, (k, A, B, C, F, V, S, ()), (rs.length : Int), decide (inB A rs.length), decide (inB B rs.length), decide (inB C rs.length), ())) (by by_cases a0 : 0 ≤ C <;> simp [a0, inB]) ?_
  dsimp only
  have l8 : ((rs.length : Int) = 8) ↔ rs.length = 8 := by omega
  have l0 : (0 < rs.length) ↔ ¬ rs.length = 0 := by omega
  have key : ∀ {i : Int}, inB i rs.length → 0 ≤ i ∧ i.toNat < rs.length := fun h => by unfold inB at h; omega
  have pe := Classical.propComplete (rs.length = 8)
  have pe0 := Classical.propComplete (rs.length = 0)
  rcases kind_cases h1 h2 with h | h | h | h | h | h | h | h | h | h | h <;> subst h
  · rcases pe with e | e <;> simp [beginC, sl5Fields_ok, l8, e]
  · by_cases a : inB A rs.length
    · obtain ⟨a1, a2⟩ := key a
      rcases pe with e | e <;> by_cases n : rs[A.toNat] = nil <;> simp [beginC, sl5Fields_ok, l8, e, a, a1, a2, n]
    · simp [beginC, a]
  · by_cases a : inB A rs.length
    · obtain ⟨a1, a2⟩ := key a
      by_cases b : inB B rs.length
      · by_cases n : rs[A.toNat] = nil <;> simp [beginC, sl5Fields_ok, a, b, a1, a2, n]
      · simp [beginC, a, b]
    · simp [beginC, a]
  · by_cases a : inB A rs.length
    · obtain ⟨a1, a2⟩ := key a
      by_cases n : rs[A.toNat] = nil <;> simp [beginC, sl5Fields_ok, a, a1, a2, n]
    · simp [beginC, a]
  · by_cases a : inB A rs.length
    · obtain ⟨a1, a2⟩ := key a
      by_cases n : rs[A.toNat] = nil <;> simp [beginC, sl5Fields_ok, a, a1, a2, n]
    · simp [beginC, a]
  · by_cases a : inB A rs.length
    · obtain ⟨a1, a2⟩ := key a
      by_cases b : inB B rs.length
      · by_cases n : rs[A.toNat] = nil <;> simp [beginC, sl5Fields_ok, a, b, a1, a2, n]
      · simp [beginC, a, b]
    · simp [beginC, a]
  · by_cases a : inB A rs.length
    · obtain ⟨a1, a2⟩ := key a
      by_cases b : inB B rs.length
      · by_cases c : inB C rs.length
        · by_cases n : rs[A.toNat] = nil <;> simp [beginC, sl5Fields_ok, a, b, c, a1, a2, n]
        · simp [beginC, a, b, c]
      · simp [beginC, a, b]
    · simp [beginC, a]
  · rcases pe0 with e0 | e0 <;> simp [beginC, sl5Fields_ok, e0, l0]
  · by_cases a : inB A rs.length
    · obtain ⟨a1, a2⟩ := key a
      rcases pe with e | e <;> by_cases n : rs[A.toNat] = nil <;> simp [beginC, sl5Fields_ok, l8, e, a, a1, a2, n]
    · simp [beginC, a]
  · by_cases a : inB A rs.length
    · obtain ⟨a1, a2⟩ := key a
      by_cases n : rs[A.toNat] = nil <;> simp [beginC, sl5Fields_ok, a, a1, a2, n]
    · simp [beginC, a]
  · by_cases a : inB A rs.length
    · obtain ⟨a1, a2⟩ := key a
      by_cases n : rs[A.toNat] = nil <;> simp [beginC, sl5Fields_ok, a, a1, a2, n]
    · simp [beginC, a]
end
section
variable {N : Nat}

theorem sl5Field_ok {o : Opx} {r m : Nat} : Fsl5Field N (o, (r : Int), (m : Int), ()) = some (decide (inB o.2.2.2.2.1 (if o.1 = 4 ∨ o.1 = 5 then m else r)), ()) := by
  obtain ⟨k, A, B, C, F, V, S, ⟨⟩⟩ := o
  simp only [Fsl5Field, inB]
  by_cases h1 : k = 4
  · by_cases h : 0 ≤ F <;> simp [h1, h]
  by_cases h2 : k = 5
  · by_cases h : 0 ≤ F <;> simp [h2, h]
  by_cases h : 0 ≤ F <;> simp [h1, h2, h]

theorem sl5One_ok (b : Bool) : Fsl5One N (b, ()) = some (if b = true then 1 else 0, ()) := by
  cases b <;> simp [Fsl5One]

variable (hN : lim < N)
include hN

theorem sl5Pins_loop {xs : List Int} {a : Int} (hl : xs.length ≤ lim) : lsl5Pins_0 N N (xs, a, -1, 0, ()) = some (xs, lastP xs a, ()) := by
  have key : ∀ n i at', i ≤ xs.length → xs.length - i < n → lsl5Pins_0 N n (xs, a, at', (i : Int), ()) = some (xs, lastFrom (xs.drop i) a i at', ()) := by
    intro n
    induction n with
    | zero => intro i at' _ h; exact absurd h (Nat.not_lt_zero _)
    | succ n ih =>
      intro i at' hi hn
      by_cases h : i < xs.length
      · have hw : w64 ((i : Int) + 1) = ((i + 1 : Nat) : Int) := w64_succ (by have : lim = 2147483648 := rfl; omega)
        rw [drop_at h]
        by_cases e : xs[i] = a
        · have := ih (i + 1) (i : Int) (by omega) (by omega)
          simp only [lsl5Pins_0, hw]
          simp [h, e, lastFrom]
          simpa using this
        · have := ih (i + 1) at' (by omega) (by omega)
          simp only [lsl5Pins_0, hw]
          simp [h, e, lastFrom]
          simpa using this
      · have : i = xs.length := by omega
        subst this
        simp [lsl5Pins_0, lastFrom]
  have := key N 0 (-1) (by omega) (by omega)
  simpa [lastP] using this

theorem sl5Pins_pin {xs : List Int} {a : Int} (hl : xs.length + 1 ≤ lim) : Fsl5Pins N (xs, 10, a, ()) = some (if xs.length = 8 then (false, [], ()) else (true, xs ++ [a], ())) := by
  have l8 : ((xs.length : Int) = 8) ↔ xs.length = 8 := by omega
  rcases Classical.propComplete (xs.length = 8) with e | e <;> simp [Fsl5Pins, l8, e, sl5Ints_ok hN (show xs.length ≤ lim by omega), hl]

theorem sl5Pins_unpin {xs : List Int} {a : Int} (hl : xs.length ≤ lim) : Fsl5Pins N (xs, 11, a, ()) = some (if lastP xs a < 0 then (false, [], ()) else (true, xs.take (lastP xs a).toNat ++ xs.drop ((lastP xs a).toNat + 1), ())) := by
  have hr := lastFrom_rng xs a 0 (-1) (by omega) (by omega)
  have e0 : lastFrom xs a 0 (-1) = lastP xs a := rfl
  rw [e0] at hr
  have hw : w64 (lastP xs a + 1) = lastP xs a + 1 := w64_id (by omega) (by have : lim = 2147483648 := rfl; omega)
  unfold Fsl5Pins
  simp only [show ((11 : Int) == 10) = false from rfl, cond_false, sl5Pins_loop hN hl, Option.bind_some]
  by_cases h : lastP xs a < 0
  · simp [h]
  · have h0 : 0 ≤ lastP xs a := by omega
    have h1 : lastP xs a ≤ (xs.length : Int) := by omega
    have h2 : 0 ≤ lastP xs a + 1 := by omega
    have h3 : lastP xs a + 1 ≤ (xs.length : Int) := by omega
    have h4 : (lastP xs a + 1).toNat = (lastP xs a).toNat + 1 := by omega
    have h5 : ((xs.drop 0).take (lastP xs a).toNat).length ≤ lim := by simp; omega
    have h6 : (xs.drop ((lastP xs a).toNat + 1)).take (xs.length - ((lastP xs a).toNat + 1)) = xs.drop ((lastP xs a).toNat + 1) := by
      apply List.take_of_length_le; simp
    have h7 : (xs.take (lastP xs a).toNat).length + (xs.drop ((lastP xs a).toNat + 1)).length ≤ lim := by simp; omega
    have h8 : (0 : Int).toNat = 0 := rfl
    simp only [h, decide_false, cond_false, h0, h1, h2, h3, decide_true, cond_true, Int.le_refl, Int.natCast_nonneg, hw, h4, h8, Nat.sub_zero, Int.toNat_natCast, h6, if_false, List.drop_zero]
    rw [sl5Ints_ok hN (by simpa using h5)]
    simp only [Option.bind_some, h7, decide_true, cond_true]
end
section
variable {N : Nat} (hN : lim < N)
include hN

theorem sl5Copy_ok {g : Gr} (hs : smG g) : Fsl5Copy N (g, ()) = some g := by
  obtain ⟨a1, a2, a3, a4, a5⟩ := hs
  have l1 := sm_lim a1
  have l3 := sm_lim a3
  have e1 := fun Q => (fold_loop (xs := g.1) (n := N) (fun s x => s ++ [x]) (fun i s => s.length = i)
    (L := fun n i s => lsl5Copy_0 N n (g, (i : Int), s, ([] : List (List Int)), Q, ())) (fin := fun s => (g, s, ([] : List (List Int)), Q, ())) l1
    (fun n i s h hw hI => by
      subst hI
      have hlim : s.length + 1 ≤ lim := by omega
      have hx := a2 _ (List.getElem_mem h)
      simp [lsl5Copy_0, h, hw, sl5Ints_ok hN (sm_lim hx.1), sl5Ints_ok hN (sm_lim hx.2), hlim])
    (fun n s hI => by simp [lsl5Copy_0]) (by omega) (s := []) rfl).1
  have e2 := fun S Q => (fold_loop (xs := g.2.1) (n := N) (fun s x => s ++ [x]) (fun i s => s.length = i)
    (L := fun n i s => lsl5Copy_2 N n (g, (i : Int), S, s, Q, ())) (fin := fun s => (S, s, Q, ())) l3
    (fun n i s h hw hI => by
      subst hI
      have hlim : s.length + 1 ≤ lim := by omega
      have hx := a4 _ (List.getElem_mem h)
      simp [lsl5Copy_2, h, hw, sl5Ints_ok hN (sm_lim hx), hlim])
    (fun n s hI => by simp [lsl5Copy_2]) (by omega) (s := []) rfl).1
  have f1 := foldl_push (fun x : Nd => x) g.1 []
  have f2 := foldl_push (fun x : List Int => x) g.2.1 []
  simp only [Int.natCast_zero, f1, f2, List.nil_append, List.map_id'] at e1 e2
  simp [Fsl5Copy, sl5Ints_ok hN (sm_lim a5), e1, e2]
end
section
variable {N : Nat} (hN : lim < N)
include hN

theorem sl5Refs_ok {xs : List Int} {m : Nat} (hx : sm xs.length) : Fsl5Refs N (xs, (m : Int), ()) = some (okR m xs, ()) := by
  have hl := sm_lim hx
  have hL := all_loop (xs := xs) (n := N) (fun x => decide (-1 ≤ x) && decide (x < (m : Int))) (L := fun n i => lsl5Refs_0 N n (xs, (m : Int), (i : Int), ())) (yes := .inl ()) (no := .inr (false, ())) hl
    (fun n i h hw hq => by
      simp at hq
      simp [lsl5Refs_0, h, hw, Int.not_lt.2 hq.1, Int.not_le.2 hq.2])
    (fun n i h hq => by
      simp at hq
      by_cases h1 : xs[i] < -1
      · simp [lsl5Refs_0, h, h1]
      · simp [lsl5Refs_0, h, h1, hq (by omega)])
    (fun n => by simp [lsl5Refs_0]) (by omega)
  simp only [Int.natCast_zero] at hL
  simp only [Fsl5Refs, hL, okR]
  cases xs.all (fun x => decide (-1 ≤ x) && decide (x < (m : Int))) <;> simp

theorem sGraphOk_ok {g : Gr} (hx : smG g) : FsGraphOk N (g, ()) = some (okG g, ()) := by
  obtain ⟨a1, a2, a3, a4, a5⟩ := hx
  have h1 := all_loop (xs := g.1) (n := N) (okN g.1.length) (L := fun n i => lsGraphOk_0 N n (g, (i : Int), ())) (yes := .inl (g, ())) (no := .inr (false, ())) (sm_lim a1)
    (fun n i h hw hq => by
      simp [okN] at hq
      simp [lsGraphOk_0, h, hw, sl5Refs_ok hN (a2 _ (List.getElem_mem h)).1, hq, Nat.not_lt.2 hq.1, Nat.not_lt.2 hq.2.1])
    (fun n i h hq => by
      simp [lsGraphOk_0, h, sl5Refs_ok hN (a2 _ (List.getElem_mem h)).1]
      simp [okN] at hq
      by_cases h1 : g.1[i].1.length ≤ 4 <;> by_cases h2 : g.1[i].2.1.length ≤ 4 <;> simp_all)
    (fun n => by simp [lsGraphOk_0]) (by have := sm_lim a1; omega)
  have h2 := all_loop (xs := g.2.1) (n := N) (fun r => decide (r.length ≤ 8) && okR g.1.length r) (L := fun n i => lsGraphOk_2 N n (g, (i : Int), ())) (yes := .inl (g, ())) (no := .inr (false, ())) (sm_lim a3)
    (fun n i h hw hq => by
      simp at hq
      simp [lsGraphOk_2, h, hw, sl5Refs_ok hN (a4 _ (List.getElem_mem h)), hq, Nat.not_lt.2 hq.1])
    (fun n i h hq => by
      simp [lsGraphOk_2, h, sl5Refs_ok hN (a4 _ (List.getElem_mem h))]
      simp at hq
      by_cases h1 : g.2.1[i].length ≤ 8 <;> simp_all)
    (fun n => by simp [lsGraphOk_2]) (by have := sm_lim a3; omega)
  have h3 := all_loop (xs := g.2.2.1) (n := N) (fun x => decide (0 ≤ x)) (L := fun n i => lsGraphOk_4 N n (g, (i : Int), ())) (yes := .inl (g, ())) (no := .inr (false, ())) (sm_lim a5)
    (fun n i h hw hq => by
      simp at hq
      simp [lsGraphOk_4, h, hw, Int.not_lt.2 hq])
    (fun n i h hq => by
      simp at hq
      simp [lsGraphOk_4, h, hq])
    (fun n => by simp [lsGraphOk_4]) (by have := sm_lim a5; omega)
  simp only [Int.natCast_zero] at h1 h2 h3
  simp only [FsGraphOk, okG]
  by_cases b1 : g.1.length ≤ 200
  · by_cases b2 : 1 ≤ g.2.1.length
    · by_cases b3 : g.2.1.length ≤ 3
      · have c1 : ¬ ((g.1.length : Int) > 200) := by omega
        have c2 : ¬ ((g.2.1.length : Int) < 1) := by omega
        have c3 : ¬ ((g.2.1.length : Int) > 3) := by omega
        simp only [c1, c2, c3, b1, b2, b3, decide_true, decide_false, cond_false, Option.bind_some, Sum.elim_inl, h1, Bool.true_and]
        cases g.1.all (okN g.1.length)
        · simp
        · simp only [cond_true, Option.bind_some, Sum.elim_inl, h2, Bool.true_and]
          cases g.2.1.all (fun r => decide (r.length ≤ 8) && okR g.1.length r)
          · simp
          · simp only [cond_true, Option.bind_some, Sum.elim_inl, h3, Bool.true_and, sl5Refs_ok hN a5]
            by_cases b4 : g.2.2.1.length ≤ 8
            · have c4 : ((g.2.2.1.length : Int) ≤ 8) := by omega
              cases g.2.2.1.all (fun x => decide (0 ≤ x)) <;> simp [b4, c4, sl5Refs_ok hN a5]
            · have c4 : ¬ ((g.2.2.1.length : Int) ≤ 8) := by omega
              cases g.2.2.1.all (fun x => decide (0 ≤ x)) <;> simp [b4, c4, sl5Refs_ok hN a5]
      · have c1 : ¬ ((g.1.length : Int) > 200) := by omega
        have c2 : ¬ ((g.2.1.length : Int) < 1) := by omega
        have c3 : ((g.2.1.length : Int) > 3) := by omega
        simp [c1, c2, c3, b3]
    · have c1 : ¬ ((g.1.length : Int) > 200) := by omega
      have c2 : ((g.2.1.length : Int) < 1) := by omega
      simp [c1, c2, b2]
  · have c1 : ((g.1.length : Int) > 200) := by omega
    simp [c1, b1]

end
section
variable {N : Nat} (hN : lim < N)
include hN

theorem sGraphDo_new {v : Int × Opx × Int × Int × Int × List Nd × List (List Int) × List Int × List Int × List Int × Unit} (hR : v.2.1.2.2.2.2.2.2.1.1 ≤ 4) (hR0 : 0 ≤ v.2.1.2.2.2.2.2.2.1.1) (hi : v.2.2.2.2.1 = 0) (hl : v.2.2.2.2.2.2.2.2.1 = []) (ht : 0 ≤ v.2.2.1) :
    lsGraphDo_1 N N v = some (v.1, v.2.2.1, v.2.2.2.1, v.2.2.2.2.2.1, v.2.2.2.2.2.2.1, v.2.2.2.2.2.2.2.1, List.replicate v.2.1.2.2.2.2.2.2.1.1.toNat (-1), v.2.2.2.2.2.2.2.2.2.1, ()) := by
  obtain ⟨t, o, u1, c, i, ns, rs, ps, l, m, ⟨⟩⟩ := v
  simp only at hR hR0 hi hl ht
  subst hi hl
  have hu : ((u1.toNat : Nat) : Int) = u1 := by omega
  have key : ∀ (n i : Nat), (i : Int) ≤ o.2.2.2.2.2.2.1.1 → o.2.2.2.2.2.2.1.1.toNat - i < n →
      lsGraphDo_1 N n (t, o, u1, c, (i : Int), ns, rs, ps, List.replicate i (-1), m, ()) = some (t, u1, c, ns, rs, ps, List.replicate o.2.2.2.2.2.2.1.1.toNat (-1), m, ()) := by
    intro n
    induction n with
    | zero => intro i _ h; exact absurd h (Nat.not_lt_zero _)
    | succ n ih =>
      intro i hi hn
      by_cases h : (i : Int) < o.2.2.2.2.2.2.1.1
      · have hw : w64 ((i : Int) + 1) = ((i + 1 : Nat) : Int) := w64_succ (by omega)
        have hlim : i + 1 ≤ lim := by rw [lim_eq]; omega
        have := ih (i + 1) (by omega) (by omega)
        simp only [lsGraphDo_1, hw]
        simp only [h, decide_true, cond_true, List.length_replicate, List.length_singleton, hlim, ← List.replicate_succ', Int.ofNat_eq_natCast, hu]
        exact this
      · have e : o.2.2.2.2.2.2.1.1.toNat = i := by omega
        simp [lsGraphDo_1, h, e, hu]
  have := key N 0 (by omega) (by rw [lim_eq] at hN; omega)
  simpa using this

theorem sGraphDo_act {g : Gr} {t : Int} {o : Opx} (hg : okG g = true) (ht : inB t g.2.1.length) (ho : opOk o = true) (hz : beginC o (g.2.1.getD t.toNat []) (-1) = 0) :
    FsGraphDo N (g, t, o, ()) = some (actG g t o (g.2.1.getD t.toNat [])) := by
  have hs := okG_small hN hg
  obtain ⟨k1, k11⟩ := opOk_kind ho
  obtain ⟨t0, t1⟩ := inB_nat ht
  have t1' : ¬ t < 0 := by omega
  have t2' : ¬ t ≥ (g.2.1.length : Int) := by unfold inB at ht; omega
  obtain ⟨z1, z2, z3, z4, z5, z6⟩ := begin_zero hz
  have hok := okG_iff.1 hg
  have hrs : okR g.1.length (g.2.1.getD t.toNat []) = true ∧ (g.2.1.getD t.toNat []).length ≤ 8 := by
    rw [getD_lt t1]
    have := hok.2.2.2.2.1 _ (List.getElem_mem t1)
    exact ⟨this.2, this.1⟩
  unfold FsGraphDo
  dsimp only
  refine obind_eq (r := .inl (t, g, o, ())) (by simp [sGraphOk_ok hN hs, hg, sOpOk_ok, ho, t1', t2']) ?_
  dsimp only [Sum.elim_inl]
  refine obind_eq (sl5Copy_ok hN hs) (cguard t0 (cguard t1 (obind_eq (sl5Begin_ok k1 k11) ?_)))
  dsimp only
  rw [hz]
  generalize hrse : g.2.1.getD t.toNat [] = rs at *
  have hra : ∀ {i : Int}, inB i rs.length → rs.getD i.toNat 0 ≠ -1 → 0 ≤ rs.getD i.toNat 0 ∧ (rs.getD i.toNat 0).toNat < g.1.length ∧ rs.getD i.toNat 0 < (g.1.length : Int) := by
    intro i hi hne
    obtain ⟨a, b⟩ := inB_nat hi
    rw [getD_lt b] at hne ⊢
    have := okR_iff.1 hrs.1 _ (List.getElem_mem b)
    omega
  obtain ⟨k, A, B, C, F, V, ⟨R, M, ⟨⟩⟩, ⟨⟩⟩ := o
  simp only at k1 k11 z1 z2 z3 z4 z5 z6
  have hmx : max t 0 = t := by omega
  rcases kind_cases k1 k11 with h | h | h | h | h | h | h | h | h | h | h <;> subst h
  · -- new
    simp only [opOk, shOk, Bool.and_eq_true, decide_eq_true_eq, Bool.or_eq_true, Bool.not_eq_true', decide_eq_false_iff_not] at ho
    have hsh := (ho.2.2.resolve_left (by simp))
    obtain ⟨r0, r4, m0, m4⟩ := hsh
    have m4' : M.toNat ≤ lim := by rw [lim_eq]; omega
    have l200 : ((g.1.length : Int) = 200) ↔ g.1.length = 200 := by omega
    rcases Classical.propComplete (g.1.length = 200) with e | e
    · simp [-List.getD_eq_getElem?_getD, l200, e, actG, sl5Fields_ok]
    · have hl1 : g.1.length + 1 ≤ lim := by rw [lim_eq]; omega
      have hl2 : rs.length + 1 ≤ lim := by rw [lim_eq]; omega
      have hw : w64 ((g.1.length : Int) + 1 - 1) = g.1.length := by rw [w64_id (by omega) (by omega)]; omega
      have hw2 : w64 (g.1.length : Int) = g.1.length := w64_id (by omega) (by omega)
      have m5 : M ≤ (lim : Int) := by have : (lim : Int) = 2147483648 := rfl; omega
      simp [-List.getD_eq_getElem?_getD, l200, e, actG, m0, m4', m5, hmx, hw2, sGraphDo_new hN, r0, r4, t0, t1, hl1, hl2, hw, hrse, sl5Fields_ok]
  · -- load
    obtain ⟨a1, a2, a3⟩ := inB_all (z2 (by omega) (by omega))
    obtain ⟨n1, n2, n3⟩ := hra (z2 (by omega) (by omega)) (z5 (by omega) (by omega) (by omega) (by omega))
    have hl2 : rs.length + 1 ≤ lim := by rw [lim_eq]; omega
    by_cases f : inB F (g.1.getD (rs.getD A.toNat 0).toNat nd0).1.length
    · obtain ⟨f1, f2, f3⟩ := inB_all f
      simp [-List.getD_eq_getElem?_getD, actG, sl5Fields_ok, a1, a2, a3, n1, n2, n3, hmx, sl5Field_ok, f, f1, f2, f3, t0, t1, hl2, hrse]
    · simp [-List.getD_eq_getElem?_getD, actG, sl5Fields_ok, a1, a2, a3, n1, n2, n3, hmx, sl5Field_ok, f]
  · -- store
    obtain ⟨a1, a2, a3⟩ := inB_all (z2 (by omega) (by omega))
    obtain ⟨b1, b2, b3⟩ := inB_all (z3 (by omega))
    obtain ⟨n1, n2, n3⟩ := hra (z2 (by omega) (by omega)) (z5 (by omega) (by omega) (by omega) (by omega))
    by_cases f : inB F (g.1.getD (rs.getD A.toNat 0).toNat nd0).1.length
    · obtain ⟨f1, f2, f3⟩ := inB_all f
      simp [-List.getD_eq_getElem?_getD, actG, sl5Fields_ok, a1, a2, a3, b1, b2, b3, n1, n2, n3, hmx, sl5Field_ok, f, f1, f2, f3, hrse]
    · simp [-List.getD_eq_getElem?_getD, actG, sl5Fields_ok, a1, a2, a3, n1, n2, n3, hmx, sl5Field_ok, f]
  · -- put
    obtain ⟨a1, a2, a3⟩ := inB_all (z2 (by omega) (by omega))
    obtain ⟨n1, n2, n3⟩ := hra (z2 (by omega) (by omega)) (z5 (by omega) (by omega) (by omega) (by omega))
    by_cases f : inB F (g.1.getD (rs.getD A.toNat 0).toNat nd0).2.1.length
    · obtain ⟨f1, f2, f3⟩ := inB_all f
      simp [-List.getD_eq_getElem?_getD, actG, sl5Fields_ok, a1, a2, a3, n1, n2, n3, hmx, sl5Field_ok, f, f1, f2, f3, hrse]
    · simp [-List.getD_eq_getElem?_getD, actG, sl5Fields_ok, a1, a2, a3, n1, n2, n3, hmx, sl5Field_ok, f]
  · -- get
    obtain ⟨a1, a2, a3⟩ := inB_all (z2 (by omega) (by omega))
    obtain ⟨n1, n2, n3⟩ := hra (z2 (by omega) (by omega)) (z5 (by omega) (by omega) (by omega) (by omega))
    by_cases f : inB F (g.1.getD (rs.getD A.toNat 0).toNat nd0).2.1.length
    · obtain ⟨f1, f2, f3⟩ := inB_all f
      simp [-List.getD_eq_getElem?_getD, actG, sl5Fields_ok, a1, a2, a3, n1, n2, n3, hmx, sl5Field_ok, f, f1, f2, f3, hrse]
    · simp [-List.getD_eq_getElem?_getD, actG, sl5Fields_ok, a1, a2, a3, n1, n2, n3, hmx, sl5Field_ok, f]
  · -- same
    obtain ⟨a1, a2, a3⟩ := inB_all (z2 (by omega) (by omega))
    obtain ⟨b1, b2, b3⟩ := inB_all (z3 (by omega))
    simp [-List.getD_eq_getElem?_getD, actG, sl5Fields_ok, a1, a2, a3, b1, b2, b3, hrse, hmx, sl5One_ok]
  · -- cas
    obtain ⟨a1, a2, a3⟩ := inB_all (z2 (by omega) (by omega))
    obtain ⟨b1, b2, b3⟩ := inB_all (z3 (by omega))
    obtain ⟨c1, c2, c3⟩ := inB_all (z4 (by omega))
    obtain ⟨n1, n2, n3⟩ := hra (z2 (by omega) (by omega)) (z5 (by omega) (by omega) (by omega) (by omega))
    by_cases f : inB F (g.1.getD (rs.getD A.toNat 0).toNat nd0).1.length
    · obtain ⟨f1, f2, f3⟩ := inB_all f
      by_cases e : (g.1.getD (rs.getD A.toNat 0).toNat nd0).1.getD F.toNat 0 = rs.getD B.toNat 0
      · simp [-List.getD_eq_getElem?_getD, actG, sl5Fields_ok, a1, a2, a3, b1, b2, b3, c1, c2, c3, n1, n2, n3, hmx, sl5Field_ok, f, f1, f2, f3, hrse, e]
      · simp [-List.getD_eq_getElem?_getD, actG, sl5Fields_ok, a1, a2, a3, b1, b2, b3, c1, c2, c3, n1, n2, n3, hmx, sl5Field_ok, f, f1, f2, f3, hrse, e]
    · simp [-List.getD_eq_getElem?_getD, actG, sl5Fields_ok, a1, a2, a3, n1, n2, n3, hmx, sl5Field_ok, f]
  · -- drop
    have hl := z1 rfl
    have hw : w64 ((rs.length : Int) - 1) = ((rs.length - 1 : Nat) : Int) := by rw [w64_id (by omega) (by omega)]; omega
    have h1 : ((rs.length - 1 : Nat) : Int) ≤ (rs.length : Int) := by omega
    simp [-List.getD_eq_getElem?_getD, actG, sl5Fields_ok, t0, t1, hw, hrse, hmx, h1]
  · -- dup
    obtain ⟨a1, a2, a3⟩ := inB_all (z2 (by omega) (by omega))
    have hl2 : rs.length + 1 ≤ lim := by rw [lim_eq]; omega
    simp [-List.getD_eq_getElem?_getD, actG, sl5Fields_ok, a1, a2, a3, t0, t1, hrse, hmx, hl2]
  · -- pin
    obtain ⟨a1, a2, a3⟩ := inB_all (z2 (by omega) (by omega))
    have hl2 : g.2.2.1.length + 1 ≤ lim := by rw [lim_eq]; omega
    by_cases e : g.2.2.1.length = 8
    · simp [-List.getD_eq_getElem?_getD, actG, sl5Fields_ok, a1, a2, a3, hrse, hmx, sl5Pins_pin hN hl2, e]
    · simp [-List.getD_eq_getElem?_getD, actG, sl5Fields_ok, a1, a2, a3, hrse, hmx, sl5Pins_pin hN hl2, e]
  · -- unpin
    obtain ⟨a1, a2, a3⟩ := inB_all (z2 (by omega) (by omega))
    have hl2 : g.2.2.1.length ≤ lim := by rw [lim_eq]; omega
    by_cases e : lastP g.2.2.1 (rs.getD A.toNat 0) < 0
    · simp [-List.getD_eq_getElem?_getD, actG, sl5Fields_ok, a1, a2, a3, hrse, hmx, sl5Pins_unpin hN hl2, e]
    · simp [-List.getD_eq_getElem?_getD, actG, sl5Fields_ok, a1, a2, a3, hrse, hmx, sl5Pins_unpin hN hl2, e]

theorem sGraphDo_ok {g : Gr} {t : Int} {o : Opx} (hs : smG g) : FsGraphDo N (g, t, o, ()) = some (doG g t o) := by
  by_cases hc : okG g = true ∧ inB t g.2.1.length ∧ opOk o = true
  · obtain ⟨hg, ht, ho⟩ := hc
    by_cases hz : beginC o (g.2.1.getD t.toNat []) (-1) = 0
    · rw [sGraphDo_act hN hg ht ho hz]
      simp only [doG, hg, ht, ho, hz, and_self, if_true]
    · obtain ⟨k1, k11⟩ := opOk_kind ho
      obtain ⟨t0, t1⟩ := inB_nat ht
      have t1' : ¬ t < 0 := by omega
      have t2' : ¬ t ≥ (g.2.1.length : Int) := by unfold inB at ht; omega
      unfold FsGraphDo
      dsimp only
      refine obind_eq (r := .inl (t, g, o, ())) (by simp [sGraphOk_ok hN hs, hg, sOpOk_ok, ho, t1', t2']) ?_
      dsimp only [Sum.elim_inl]
      refine obind_eq (sl5Copy_ok hN hs) (cguard t0 (cguard t1 (obind_eq (sl5Begin_ok k1 k11) ?_)))
      simp only [doG, hg, ht, ho, hz, and_self, if_true, if_false]
      generalize beginC o (g.2.1.getD t.toNat []) (-1) = c at hz ⊢
      simp [hz]
  · simp only [doG, hc, if_false]
    unfold FsGraphDo
    dsimp only
    cases hg : okG g with
    | false => simp [sGraphOk_ok hN hs, hg]
    | true =>
      by_cases h1 : t < 0
      · simp [sGraphOk_ok hN hs, hg, h1]
      · by_cases h2 : t ≥ (g.2.1.length : Int)
        · have h2' : (g.2.1.length : Int) ≤ t := h2
          simp [sGraphOk_ok hN hs, hg, h1, h2']
        · have ht : inB t g.2.1.length := by unfold inB; omega
          have ho : opOk o = false := by
            cases h : opOk o with
            | false => rfl
            | true => exact absurd ⟨hg, ht, h⟩ hc
          have h2' : ¬ (g.2.1.length : Int) ≤ t := h2
          simp [sGraphOk_ok hN hs, hg, h1, h2', sOpOk_ok, ho]
end
theorem okR_mono {m m' : Nat} {l : List Int} (h : okR m l = true) (hm : m ≤ m') : okR m' l = true := by
  rw [okR_iff] at h ⊢
  intro x hx
  have := h x hx
  omega

theorem okR_push {m : Nat} {l : List Int} {x : Int} (h : okR m l = true) (h1 : -1 ≤ x) (h2 : x < (m : Int)) : okR m (l ++ [x]) = true := by
  rw [okR_iff] at h ⊢
  intro y hy
  simp only [List.mem_append, List.mem_singleton] at hy
  rcases hy with hy | rfl
  · exact h y hy
  · exact ⟨h1, h2⟩

theorem okR_set {m : Nat} {l : List Int} {x : Int} {i : Nat} (h : okR m l = true) (h1 : -1 ≤ x) (h2 : x < (m : Int)) : okR m (l.set i x) = true := by
  rw [okR_iff] at h ⊢
  intro y hy
  rcases List.mem_or_eq_of_mem_set hy with hy | rfl
  · exact h y hy
  · exact ⟨h1, h2⟩

theorem okR_sub {m : Nat} {l l' : List Int} (h : okR m l = true) (hs : ∀ x ∈ l', x ∈ l) : okR m l' = true := by
  rw [okR_iff] at h ⊢
  exact fun y hy => h y (hs y hy)

theorem okR_get {m : Nat} {l : List Int} {i : Nat} (h : okR m l = true) (hi : i < l.length) : -1 ≤ l.getD i 0 ∧ l.getD i 0 < (m : Int) := by
  rw [getD_lt hi]
  exact okR_iff.1 h _ (List.getElem_mem hi)

theorem inBn {i : Int} {n : Nat} (h : inB i n) : 0 ≤ i ∧ i.toNat < n := by unfold inB at h; omega

theorem beginZ {o : Opx} {rs : List Int} {nil : Int} (h : beginC o rs nil = 0) : (o.1 = 8 → rs.length ≠ 0) ∧ (o.1 ≠ 1 → o.1 ≠ 8 → inB o.2.1 rs.length) ∧ (o.1 = 3 ∨ o.1 = 6 ∨ o.1 = 7 → inB o.2.2.1 rs.length) ∧ (o.1 = 7 → inB o.2.2.2.1 rs.length) ∧
    (o.1 ≠ 1 → o.1 ≠ 6 → o.1 ≠ 8 → o.1 ≠ 9 → rs.getD o.2.1.toNat 0 ≠ nil) ∧ (o.1 = 1 ∨ o.1 = 2 ∨ o.1 = 9 → rs.length ≠ 8) := by
  unfold beginC at h
  split at h
  · cases h
  · rename_i h1
    split at h
    · cases h
    · rename_i h2
      split at h
      · cases h
      · rename_i h3
        simp only [not_or, not_and, Decidable.not_not] at h1
        refine ⟨fun e => h1.1 e, fun e1 e2 => h1.2.1 e1 e2, fun e => h1.2.2.1 e, fun e => h1.2.2.2 e, fun e1 e2 e3 e4 e5 => h2 ⟨e1, e2, e3, e4, e5⟩, fun e1 e2 => h3 ⟨e1, e2⟩⟩

/-- A graph with other roots of a thread. -/
theorem okG_roots {g : Gr} {t : Int} {l : List Int} (h : okG g = true) (hl : l.length ≤ 8) (hr : okR g.1.length l = true) : okG (g.1, g.2.1.set t.toNat l, g.2.2.1, ()) = true := by
  obtain ⟨h1, h2, h3, h4, h5, h6, h7, h8⟩ := okG_iff.1 h
  refine okG_iff.2 ⟨h1, by simpa using h2, by simpa using h3, h4, fun r hm => ?_, h6, h7, h8⟩
  rcases List.mem_or_eq_of_mem_set hm with hm | rfl
  · exact h5 r hm
  · exact ⟨hl, hr⟩

/-- A graph with another node. -/
theorem okG_node {g : Gr} {i : Nat} {n : Nd} (h : okG g = true) (hn : n.1.length ≤ 4 ∧ n.2.1.length ≤ 4 ∧ okR g.1.length n.1 = true) : okG (g.1.set i n, g.2.1, g.2.2.1, ()) = true := by
  obtain ⟨h1, h2, h3, h4, h5, h6, h7, h8⟩ := okG_iff.1 h
  refine okG_iff.2 ⟨by simpa using h1, h2, h3, fun x hm => ?_, by simpa using h5, h6, h7, by simpa using h8⟩
  simp only [List.length_set]
  rcases List.mem_or_eq_of_mem_set hm with hm | rfl
  · exact h4 x hm
  · exact hn

theorem actG_ok {g : Gr} {t : Int} {o : Opx} (hg : okG g = true) (ht : inB t g.2.1.length) (ho : opOk o = true) (hz : beginC o (g.2.1.getD t.toNat []) (-1) = 0) : okG (actG g t o (g.2.1.getD t.toNat [])).2.2 = true := by
  obtain ⟨k1, k11⟩ := opOk_kind ho
  obtain ⟨t0, t1⟩ := inBn ht
  obtain ⟨z1, z2, z3, z4, z5, z6⟩ := beginZ hz
  have hok := okG_iff.1 hg
  have hrs : okR g.1.length (g.2.1.getD t.toNat []) = true ∧ (g.2.1.getD t.toNat []).length ≤ 8 := by
    rw [getD_lt t1]
    have := hok.2.2.2.2.1 _ (List.getElem_mem t1)
    exact ⟨this.2, this.1⟩
  generalize hrse : g.2.1.getD t.toNat [] = rs at *
  have hra : ∀ {i : Int}, inB i rs.length → -1 ≤ rs.getD i.toNat 0 ∧ rs.getD i.toNat 0 < (g.1.length : Int) := fun hi => okR_get hrs.1 (inBn hi).2
  have hnode : ∀ {i : Int}, inB i rs.length → rs.getD i.toNat 0 ≠ -1 → (g.1.getD (rs.getD i.toNat 0).toNat nd0).1.length ≤ 4 ∧ (g.1.getD (rs.getD i.toNat 0).toNat nd0).2.1.length ≤ 4 ∧ okR g.1.length (g.1.getD (rs.getD i.toNat 0).toNat nd0).1 = true := by
    intro i hi hne
    have := hra hi
    have hlt : (rs.getD i.toNat 0).toNat < g.1.length := by omega
    rw [getD_lt hlt]
    exact hok.2.2.2.1 _ (List.getElem_mem hlt)
  obtain ⟨k, A, B, C, F, V, ⟨R, M, ⟨⟩⟩, ⟨⟩⟩ := o
  simp only at k1 k11 z1 z2 z3 z4 z5 z6
  unfold actG
  dsimp only
  rcases kind_cases k1 k11 with h | h | h | h | h | h | h | h | h | h | h <;> subst h <;> simp only [Int.reduceEq, ↓reduceIte]
  · simp only [opOk, shOk, Bool.and_eq_true, decide_eq_true_eq, Bool.or_eq_true, Bool.not_eq_true', decide_eq_false_iff_not] at ho
    obtain ⟨r0, r4, m0, m4⟩ := ho.2.2.resolve_left (by simp)
    split
    · exact hg
    · rename_i hne
      have z6 := z6 (.inl rfl)
      obtain ⟨h1, h2, h3, h4, h5, h6, h7, h8⟩ := hok
      refine okG_iff.2 ⟨by simp; omega, by simpa using h2, by simpa using h3, fun x hm => ?_, fun r hm => ?_, h6, h7, okR_mono h8 (by simp)⟩
      · simp only [List.mem_append, List.mem_singleton] at hm
        rcases hm with hm | rfl
        · exact ⟨(h4 x hm).1, (h4 x hm).2.1, okR_mono (h4 x hm).2.2 (by simp)⟩
        · refine ⟨by simp; omega, by simp; omega, okR_iff.2 fun y hy => ?_⟩
          have := List.eq_of_mem_replicate hy
          subst this
          simp only [List.length_append, List.length_singleton]
          omega
      · rcases List.mem_or_eq_of_mem_set hm with hm | rfl
        · exact ⟨(h5 r hm).1, okR_mono (h5 r hm).2 (by simp)⟩
        · refine ⟨by simp; omega, okR_push (okR_mono hrs.1 (by simp)) (by omega) (by simp only [List.length_append, List.length_singleton]; omega)⟩
  · have hA := z2 (by omega) (by omega)
    have hn := hnode hA (z5 (by omega) (by omega) (by omega) (by omega))
    have z6 := z6 (.inr (.inl rfl))
    split
    · rename_i hF
      have := okR_get hn.2.2 (inBn hF).2
      exact okG_roots hg (by simp; omega) (okR_push hrs.1 this.1 this.2)
    · exact hg
  · have hA := z2 (by omega) (by omega)
    have hn := hnode hA (z5 (by omega) (by omega) (by omega) (by omega))
    have hB := hra (z3 (by omega))
    split
    · exact okG_node hg ⟨by simpa using hn.1, hn.2.1, okR_set hn.2.2 hB.1 hB.2⟩
    · exact hg
  · have hA := z2 (by omega) (by omega)
    have hn := hnode hA (z5 (by omega) (by omega) (by omega) (by omega))
    split
    · exact okG_node hg ⟨hn.1, by simpa using hn.2.1, hn.2.2⟩
    · exact hg
  · split <;> exact hg
  · exact hg
  · have hA := z2 (by omega) (by omega)
    have hn := hnode hA (z5 (by omega) (by omega) (by omega) (by omega))
    have hC := hra (z4 (by omega))
    split
    · split
      · exact okG_node hg ⟨by simpa using hn.1, hn.2.1, okR_set hn.2.2 hC.1 hC.2⟩
      · exact hg
    · exact hg
  · exact okG_roots hg (by simp; omega) (okR_sub hrs.1 fun x hx => List.mem_of_mem_take hx)
  · have hA := hra (z2 (by omega) (by omega))
    have z6 := z6 (.inr (.inr rfl))
    exact okG_roots hg (by simp; omega) (okR_push hrs.1 hA.1 hA.2)
  · have hA := z2 (by omega) (by omega)
    have hAr := hra hA
    have hne := z5 (by omega) (by omega) (by omega) (by omega)
    split
    · exact hg
    · obtain ⟨h1, h2, h3, h4, h5, h6, h7, h8⟩ := hok
      refine okG_iff.2 ⟨h1, h2, h3, h4, h5, by simp; omega, fun x hx => ?_, okR_push h8 hAr.1 hAr.2⟩
      simp only [List.mem_append, List.mem_singleton] at hx
      rcases hx with hx | rfl
      · exact h7 x hx
      · omega
  · split
    · exact hg
    · obtain ⟨h1, h2, h3, h4, h5, h6, h7, h8⟩ := hok
      have hsub : ∀ x ∈ g.2.2.1.take (lastP g.2.2.1 (rs.getD A.toNat 0)).toNat ++ g.2.2.1.drop ((lastP g.2.2.1 (rs.getD A.toNat 0)).toNat + 1), x ∈ g.2.2.1 := by
        intro x hx
        rcases List.mem_append.1 hx with hx | hx
        · exact List.mem_of_mem_take hx
        · exact List.mem_of_mem_drop hx
      exact okG_iff.2 ⟨h1, h2, h3, h4, h5, by simp; omega, fun x hx => h7 x (hsub x hx), okR_sub h8 hsub⟩

theorem doG_ok {g : Gr} {t : Int} {o : Opx} (h : (doG g t o).2.1 ≠ 1) : okG g = true ∧ okG (doG g t o).2.2 = true := by
  unfold doG at h ⊢
  split
  · rename_i hc
    refine ⟨hc.1, ?_⟩
    split
    · rename_i hz; exact actG_ok hc.1 hc.2.1 hc.2.2 hz
    · exact hc.1
  · rename_i hc; simp [hc] at h

theorem actG_len {g : Gr} {t : Int} {o : Opx} {rs : List Int} : g.1.length ≤ (actG g t o rs).2.2.1.length ∧ (actG g t o rs).2.2.2.1.length = g.2.1.length := by
  by_cases h1 : o.1 = 1
  · simp only [actG, h1, Int.reduceEq, ↓reduceIte]
    split <;> simp
  by_cases h2 : o.1 = 2
  · simp only [actG, h2, Int.reduceEq, ↓reduceIte]
    split <;> simp
  by_cases h3 : o.1 = 3
  · simp only [actG, h3, Int.reduceEq, ↓reduceIte]
    split <;> simp
  by_cases h4 : o.1 = 4
  · simp only [actG, h4, Int.reduceEq, ↓reduceIte]
    split <;> simp
  by_cases h5 : o.1 = 5
  · simp only [actG, h5, Int.reduceEq, ↓reduceIte]
    split <;> simp
  by_cases h6 : o.1 = 6
  · simp only [actG, h6, Int.reduceEq, ↓reduceIte]
    simp
  by_cases h7 : o.1 = 7
  · simp only [actG, h7, Int.reduceEq, ↓reduceIte]
    (repeat' split) <;> simp
  by_cases h8 : o.1 = 8
  · simp only [actG, h8, Int.reduceEq, ↓reduceIte]
    simp
  by_cases h9 : o.1 = 9
  · simp only [actG, h9, Int.reduceEq, ↓reduceIte]
    simp
  by_cases h10 : o.1 = 10
  · simp only [actG, h10, Int.reduceEq, ↓reduceIte]
    split <;> simp
  simp only [actG, h1, h2, h3, h4, h5, h6, h7, h8, h9, h10, if_false]
  split <;> simp

theorem doG_len {g : Gr} {t : Int} {o : Opx} (h : (doG g t o).2.1 ≠ 1) : g.1.length ≤ (doG g t o).2.2.1.length ∧ (doG g t o).2.2.2.1.length = g.2.1.length := by
  unfold doG at h ⊢
  split
  · split
    · exact actG_len
    · exact ⟨Nat.le_refl _, rfl⟩
  · rename_i hc; simp [hc] at h
section
variable {N : Nat} (hN : lim < N)
include hN

theorem doG_smG {g : Gr} {t : Int} {o : Opx} : smG (doG g t o).2.2 := by
  unfold doG
  split
  · rename_i hc
    split
    · rename_i hz; exact okG_small hN (actG_ok hc.1 hc.2.1 hc.2.2 hz)
    · exact okG_small hN hc.1
  · exact ⟨by simp [sm], by simp, by simp [sm], by simp, by simp [sm]⟩
end
theorem wf_u8 {n : Int} (h : (Lit.int .u8 n).wf = true) : 0 ≤ n ∧ n < 256 := by
  simp only [Lit.wf, IntKind.min, IntKind.max, IntKind.signed, IntKind.bits] at h
  simp at h
  omega
theorem wf_i64 {n : Int} (h : (Lit.int .i64 n).wf = true) : -9223372036854775808 ≤ n ∧ n < 9223372036854775808 := by
  simp only [Lit.wf, IntKind.min, IntKind.max, IntKind.signed, IntKind.bits] at h
  simp at h
  omega
/-- Rows of at most so many elements. -/
def lnT : (t : Ty) → t.den → Prop
  | .pair a b, x => lnT a x.1 ∧ lnT b x.2
  | .sl t, xs => xs.length ≤ 1048576 ∧ ∀ x ∈ xs, lnT t x
  | .fz t, x => lnT t x
  | _, _ => True

/-- Marks, one element behind the other. -/
def mkS {α : Type} (f : Int → α → Int × α) : Int → List α → Int × List α
  | k, [] => (k, [])
  | k, x :: r => ((mkS f (f k x).1 r).1, (f k x).2 :: (mkS f (f k x).1 r).2)

/-- Marks in an element. -/
def markE : (t : Ty) → Int → t.den → Int × t.den
  | .int _, k, _ => (k + 1, k)
  | .bool, k, _ => (k + 1, Int.tmod k 3 == 0)
  | .pair a b, k, x => ((markE b (markE a k x.1).1 x.2).1, ((markE a k x.1).2, (markE b (markE a k x.1).1 x.2).2))
  | .sl t, k, xs => mkS (markE t) k xs
  | .fz t, k, x => markE t k x
  | .str, k, x => (k, x)
  | .unit, k, x => (k, x)
  | .mp _, k, x => (k, x)

/-- So many marks at most. -/
def bndT : Ty → Int
  | .int _ | .bool => 1
  | .pair a b => bndT a + bndT b
  | .sl t => 1048576 * bndT t
  | .fz t => bndT t
  | _ => 0

theorem bndT_nn : ∀ t : Ty, 0 ≤ bndT t
  | .int _ | .bool => by simp [bndT]
  | .pair a b => by have := bndT_nn a; have := bndT_nn b; simp only [bndT]; omega
  | .sl t => by have := bndT_nn t; simp only [bndT]; omega
  | .fz t => by have := bndT_nn t; simp only [bndT]; omega
  | .str | .unit | .mp _ => by simp [bndT]

theorem mkS_rng {α : Type} {f : Int → α → Int × α} {P : α → Prop} {B : Int} (hB : ∀ k x, P x → k ≤ (f k x).1 ∧ (f k x).1 ≤ k + B) : ∀ {xs : List α} (k : Int), (∀ x ∈ xs, P x) → k ≤ (mkS f k xs).1 ∧ (mkS f k xs).1 ≤ k + B * xs.length
  | [], k, _ => by simp [mkS]
  | x :: r, k, h => by
    have h1 := hB k x (h x (by simp))
    have h2 := mkS_rng hB (xs := r) (f k x).1 fun y hy => h y (by simp [hy])
    simp only [mkS, List.length_cons, Int.natCast_add, Int.natCast_one, Int.mul_add, Int.mul_one]
    omega

theorem mkS_len {α : Type} {f : Int → α → Int × α} : ∀ {xs : List α} (k : Int), (mkS f k xs).2.length = xs.length
  | [], _ => rfl
  | x :: r, k => by simp [mkS, mkS_len]

theorem markE_rng : ∀ {t : Ty} {x : t.den} (k : Int), lnT t x → k ≤ (markE t k x).1 ∧ (markE t k x).1 ≤ k + bndT t
  | .int _, _, _, _ | .bool, _, _, _ => by simp only [markE, bndT]; omega
  | .pair a b, x, k, h => by
    have h1 := markE_rng (t := a) (x := x.1) k h.1
    have h2 := markE_rng (t := b) (x := x.2) (markE a k x.1).1 h.2
    simp only [markE, bndT]; omega
  | .sl t, xs, k, h => by
    have h1 := mkS_rng (f := markE t) (P := lnT t) (B := bndT t) (fun k x hx => markE_rng k hx) (xs := xs) k h.2
    have h2 : bndT t * (xs.length : Int) ≤ bndT t * 1048576 := Int.mul_le_mul_of_nonneg_left (by have := h.1; omega) (bndT_nn t)
    simp only [markE, bndT]; omega
  | .fz t, x, k, h => markE_rng (t := t) (x := x) k h
  | .str, _, _, _ | .unit, _, _, _ | .mp _, _, _, _ => by simp only [markE, bndT]; omega

/-- Marking goes element by element. -/
theorem mark_loop {α ρ : Type} {f : Int → α → Int × α} {P : α → Prop} {B : Int} {xs : List α} {L : Nat → Int → Nat → List α → Option ρ} {fin : Int → List α → ρ} (hl : xs.length ≤ lim) (hx : ∀ x ∈ xs, P x) (b0 : 0 ≤ B)
    (hB : ∀ k x, P x → k ≤ (f k x).1 ∧ (f k x).1 ≤ k + B)
    (h1 : ∀ n k i (s : List α) (h : i < s.length), P s[i] → 0 ≤ k → k + B ≤ 4611686018427387904 → w64 ((i : Int) + 1) = ((i + 1 : Nat) : Int) → L (n + 1) k i s = L n (f k s[i]).1 (i + 1) (s.set i (f k s[i]).2))
    (h3 : ∀ n k s, L (n + 1) k s.length s = some (fin k s)) {n : Nat} (hn : xs.length < n) {k : Int} (h0 : 0 ≤ k) (hk : k + B * xs.length ≤ 4611686018427387904) : L n k 0 xs = some (fin (mkS f k xs).1 (mkS f k xs).2) := by
  have key : ∀ (ys pre : List α) (n : Nat) (k : Int), (∀ x ∈ ys, P x) → pre.length + ys.length ≤ lim → ys.length < n → 0 ≤ k → k + B * ys.length ≤ 4611686018427387904 →
      L n k pre.length (pre ++ ys) = some (fin (mkS f k ys).1 (pre ++ (mkS f k ys).2)) := by
    intro ys
    induction ys with
    | nil =>
      intro pre n k _ _ hn _ _
      obtain ⟨n, rfl⟩ : ∃ n', n = n' + 1 := ⟨n - 1, by simp at hn; omega⟩
      have := h3 n k pre
      simpa [mkS] using this
    | cons y ys ih =>
      intro pre n k hy hl hn h0 hk
      obtain ⟨n, rfl⟩ : ∃ n', n = n' + 1 := ⟨n - 1, by simp at hn; omega⟩
      have hlim : lim = 2147483648 := rfl
      simp only [List.length_cons, Int.natCast_add, Int.natCast_one, Int.mul_add, Int.mul_one] at hl hn hk
      have b1 : 0 ≤ B * (ys.length : Int) := Int.mul_nonneg b0 (by omega)
      have hlt : pre.length < (pre ++ y :: ys).length := by simp
      have hg : (pre ++ y :: ys)[pre.length] = y := by simp
      have hPy := hy y (by simp)
      have h4 := hB k y hPy
      have := h1 n k pre.length (pre ++ y :: ys) hlt (by rw [hg]; exact hPy) h0 (by omega) (w64_succ (by omega))
      rw [this, hg]
      have e : (pre ++ y :: ys).set pre.length (f k y).2 = (pre ++ [(f k y).2]) ++ ys := by simp
      have := ih (pre ++ [(f k y).2]) n (f k y).1 (fun x hx => hy x (by simp [hx])) (by simp; omega) (by omega) (by omega) (by omega)
      simp only [List.length_append, List.length_singleton] at this
      rw [e, this]
      simp [mkS]
  have := key xs [] n k hx (by simpa using hl) hn h0 hk
  simpa using this

/-- What was marked is held. -/
theorem held_loop {α ρ : Type} {f : Int → α → Int × α} {P : α → Prop} {B : Int} {xs : List α} {L : Nat → List α → Int → Nat → Option ρ} {fin : Int → ρ} (hl : xs.length ≤ lim) (hx : ∀ x ∈ xs, P x) (b0 : 0 ≤ B)
    (hB : ∀ k x, P x → k ≤ (f k x).1 ∧ (f k x).1 ≤ k + B)
    (h1 : ∀ n k i (s : List α) (h : i < s.length) x, s[i] = (f k x).2 → P x → 0 ≤ k → k + B ≤ 4611686018427387904 → w64 ((i : Int) + 1) = ((i + 1 : Nat) : Int) → L (n + 1) s k i = L n s (f k x).1 (i + 1))
    (h3 : ∀ n k s, L (n + 1) s k s.length = some (fin k)) {n : Nat} (hn : xs.length < n) {k : Int} (h0 : 0 ≤ k) (hk : k + B * xs.length ≤ 4611686018427387904) : L n (mkS f k xs).2 k 0 = some (fin (mkS f k xs).1) := by
  have key : ∀ (ys pre : List α) (n : Nat) (k : Int), (∀ x ∈ ys, P x) → pre.length + ys.length ≤ lim → ys.length < n → 0 ≤ k → k + B * ys.length ≤ 4611686018427387904 →
      L n (pre ++ (mkS f k ys).2) k pre.length = some (fin (mkS f k ys).1) := by
    intro ys
    induction ys with
    | nil =>
      intro pre n k _ _ hn _ _
      obtain ⟨n, rfl⟩ : ∃ n', n = n' + 1 := ⟨n - 1, by simp at hn; omega⟩
      have := h3 n k pre
      simpa [mkS] using this
    | cons y ys ih =>
      intro pre n k hy hl hn h0 hk
      obtain ⟨n, rfl⟩ : ∃ n', n = n' + 1 := ⟨n - 1, by simp at hn; omega⟩
      have hlim : lim = 2147483648 := rfl
      simp only [List.length_cons, Int.natCast_add, Int.natCast_one, Int.mul_add, Int.mul_one] at hl hn hk
      have b1 : 0 ≤ B * (ys.length : Int) := Int.mul_nonneg b0 (by omega)
      have hPy := hy y (by simp)
      have h4 := hB k y hPy
      simp only [mkS]
      generalize hq : (mkS f (f k y).1 ys).2 = q
      have hlt : pre.length < (pre ++ (f k y).2 :: q).length := by simp
      have hg : (pre ++ (f k y).2 :: q)[pre.length] = (f k y).2 := by simp
      rw [h1 n k pre.length _ hlt y hg hPy h0 (by omega) (w64_succ (by omega))]
      have := ih (pre ++ [(f k y).2]) n (f k y).1 (fun x hx => hy x (by simp [hx])) (by simp; omega) (by omega) (by omega) (by omega)
      rw [hq] at this
      simp only [List.length_append, List.length_singleton, List.append_assoc, List.cons_append, List.nil_append] at this
      exact this
  have := key xs [] n k hx (by simpa using hl) hn h0 hk
  simpa using this

theorem getD_set_i {α : Type} {l : List α} {i : Nat} {x d : α} (h : i < l.length) : (l.set i x).getD i d = x := by
  rw [getD_lt (by simpa using h)]; exact List.getElem_set_self _

theorem ne_step {α : Type} [DecidableEq α] {a b : α} {c : Bool} : (_root_.cond (a != b) (some (false, ())) (some (c, ())) : Option (Bool × Unit)) = some (decide (a = b) && c, ()) := by
  by_cases h : a = b <;> simp [h]
theorem not_step {d c : Bool} : (_root_.cond (!d) (some (false, ())) (some (c, ())) : Option (Bool × Unit)) = some (d && c, ()) := by
  cases d <;> rfl
theorem bool_beq {a b : Bool} : (a == b) = decide (a = b) := by cases a <;> cases b <;> rfl

/-- A row's size. -/
theorem sz_loop {α : Type} {xs : List α} (P : α → Prop) {L : Nat → Nat → Int → Option ((Int × Unit) ⊕ (Int × Unit))} {N : Nat} (hN : lim < N) {left : Int} (hx : (xs.length : Int) ≤ 9223372036854775807) (h0 : 0 ≤ left) (h1' : left ≤ 1048576)
    (h1 : ∀ n i (h : i < xs.length) (left : Int), 0 ≤ left → left ≤ 1048576 → w64 ((i : Int) + 1) = ((i + 1 : Nat) : Int) →
      L (n + 1) i left = some (.inr (-1, ())) ∨ ∃ r, 0 ≤ r ∧ r ≤ left ∧ P xs[i] ∧ L (n + 1) i left = L n (i + 1) r)
    (h3 : ∀ n left, L (n + 1) xs.length left = some (.inl (left, ()))) :
    ∃ r : Int, (_root_.cond (decide (w64 (left - (xs.length : Int)) < 0)) (some ((-1 : Int), ())) ((L N 0 (w64 (left - (xs.length : Int)))).bind fun o => Sum.elim (fun o => some (o.1, ())) (fun o => some (o.1, ())) o) : Option (Int × Unit)) = some (r, ()) ∧
      (r < 0 ∨ (0 ≤ r ∧ r ≤ left ∧ xs.length ≤ 1048576 ∧ ∀ x ∈ xs, P x)) := by
  rw [w64_id (by omega) (by omega)]
  by_cases h : left - (xs.length : Int) < 0
  · exact ⟨-1, by simp [h], by simp⟩
  · simp only [h, decide_false, cond_false]
    have hlim : lim = 2147483648 := rfl
    rcases size_loop (xs := xs) (n := N) P (by omega) h1 h3 (by omega) (left := left - xs.length) (by omega) (by omega) with hL | ⟨r, h2, h3, h4, hL⟩
    · exact ⟨-1, by rw [hL]; rfl, by simp⟩
    · exact ⟨r, by rw [hL]; rfl, .inr ⟨h2, by omega, by omega, h4⟩⟩
abbrev tIntS : Ty := (.sl (.int .i64))
abbrev tBoolS : Ty := (.sl .bool)
abbrev tShape : Ty := (.pair (.int .i64) (.pair (.int .i64) .unit))
abbrev tOp : Ty := (.pair (.int .i64) (.pair (.int .i64) (.pair (.int .i64) (.pair (.int .i64) (.pair (.int .i64) (.pair (.int .i64) (.pair (.pair (.int .i64) (.pair (.int .i64) .unit)) .unit)))))))
abbrev tOpS : Ty := (.sl (.pair (.int .i64) (.pair (.int .i64) (.pair (.int .i64) (.pair (.int .i64) (.pair (.int .i64) (.pair (.int .i64) (.pair (.pair (.int .i64) (.pair (.int .i64) .unit)) .unit))))))))
abbrev tOpSS : Ty := (.sl (.sl (.pair (.int .i64) (.pair (.int .i64) (.pair (.int .i64) (.pair (.int .i64) (.pair (.int .i64) (.pair (.int .i64) (.pair (.pair (.int .i64) (.pair (.int .i64) .unit)) .unit)))))))))
abbrev tEvent : Ty := (.pair (.int .i64) (.pair (.int .i64) (.pair (.int .i64) (.pair (.int .i64) .unit))))
abbrev tEventS : Ty := (.sl (.pair (.int .i64) (.pair (.int .i64) (.pair (.int .i64) (.pair (.int .i64) .unit)))))
abbrev tRegion : Ty := (.pair (.int .i64) (.pair (.int .i64) (.pair (.int .i64) (.pair (.int .i64) (.pair (.int .i64) .unit)))))
abbrev tRegionS : Ty := (.sl (.pair (.int .i64) (.pair (.int .i64) (.pair (.int .i64) (.pair (.int .i64) (.pair (.int .i64) .unit))))))
abbrev tThread : Ty := (.pair (.sl (.int .i64)) (.pair (.int .i64) (.pair .bool (.pair (.int .i64) .unit))))
abbrev tThreadS : Ty := (.sl (.pair (.sl (.int .i64)) (.pair (.int .i64) (.pair .bool (.pair (.int .i64) .unit)))))
abbrev tState : Ty := (.pair (.sl (.int .i64)) (.pair (.sl (.pair (.int .i64) (.pair (.int .i64) (.pair (.int .i64) (.pair (.int .i64) (.pair (.int .i64) .unit)))))) (.pair (.sl .bool) (.pair (.int .i64) (.pair .bool (.pair .bool (.pair .bool (.pair (.int .i64) (.pair (.sl (.pair (.sl (.int .i64)) (.pair (.int .i64) (.pair .bool (.pair (.int .i64) .unit))))) (.pair (.sl (.int .i64)) (.pair (.sl (.int .i64)) (.pair (.int .i64) (.pair (.int .i64) .unit)))))))))))))
abbrev tConfig : Ty := (.pair (.int .i64) (.pair (.int .i64) (.pair (.int .i64) .unit)))
abbrev tCall : Ty := (.pair (.int .i64) (.pair (.int .i64) (.pair (.int .i64) (.pair (.int .i64) (.pair (.int .i64) (.pair (.int .i64) .unit))))))
abbrev tCallS : Ty := (.sl (.pair (.int .i64) (.pair (.int .i64) (.pair (.int .i64) (.pair (.int .i64) (.pair (.int .i64) (.pair (.int .i64) .unit)))))))
abbrev tNode : Ty := (.pair (.sl (.int .i64)) (.pair (.sl (.int .i64)) .unit))
abbrev tNodeS : Ty := (.sl (.pair (.sl (.int .i64)) (.pair (.sl (.int .i64)) .unit)))
abbrev tIntSS : Ty := (.sl (.sl (.int .i64)))
abbrev tGraph : Ty := (.pair (.sl (.pair (.sl (.int .i64)) (.pair (.sl (.int .i64)) .unit))) (.pair (.sl (.sl (.int .i64))) (.pair (.sl (.int .i64)) .unit)))
instance decOp_6 : DecidableEq ((Int × Int × Unit) × Unit) := @instDecidableEqProd _ _ inferInstance inferInstance
instance decOp_5 : DecidableEq (Int × ((Int × Int × Unit) × Unit)) := @instDecidableEqProd _ _ inferInstance decOp_6
instance decOp_4 : DecidableEq (Int × (Int × (Int × Int × Unit) × Unit)) := @instDecidableEqProd _ _ inferInstance decOp_5
instance decOp_3 : DecidableEq (Int × (Int × Int × (Int × Int × Unit) × Unit)) := @instDecidableEqProd _ _ inferInstance decOp_4
instance decOp_2 : DecidableEq (Int × (Int × Int × Int × (Int × Int × Unit) × Unit)) := @instDecidableEqProd _ _ inferInstance decOp_3
instance decOp_1 : DecidableEq (Int × (Int × Int × Int × Int × (Int × Int × Unit) × Unit)) := @instDecidableEqProd _ _ inferInstance decOp_2
instance decOp_0 : DecidableEq (Int × (Int × Int × Int × Int × Int × (Int × Int × Unit) × Unit)) := @instDecidableEqProd _ _ inferInstance decOp_1
instance decRegion_4 : DecidableEq (Int × Unit) := @instDecidableEqProd _ _ inferInstance inferInstance
instance decRegion_3 : DecidableEq (Int × (Int × Unit)) := @instDecidableEqProd _ _ inferInstance decRegion_4
instance decRegion_2 : DecidableEq (Int × (Int × Int × Unit)) := @instDecidableEqProd _ _ inferInstance decRegion_3
instance decRegion_1 : DecidableEq (Int × (Int × Int × Int × Unit)) := @instDecidableEqProd _ _ inferInstance decRegion_2
instance decRegion_0 : DecidableEq (Int × (Int × Int × Int × Int × Unit)) := @instDecidableEqProd _ _ inferInstance decRegion_1
instance decState_12 : DecidableEq (Int × Unit) := @instDecidableEqProd _ _ inferInstance inferInstance
instance decState_11 : DecidableEq (Int × (Int × Unit)) := @instDecidableEqProd _ _ inferInstance decState_12
instance decState_10 : DecidableEq ((List Int) × (Int × Int × Unit)) := @instDecidableEqProd _ _ inferInstance decState_11
instance decState_9 : DecidableEq ((List Int) × ((List Int) × Int × Int × Unit)) := @instDecidableEqProd _ _ inferInstance decState_10
instance decState_8 : DecidableEq ((List ((List Int) × Int × Bool × Int × Unit)) × ((List Int) × (List Int) × Int × Int × Unit)) := @instDecidableEqProd _ _ inferInstance decState_9
instance decState_7 : DecidableEq (Int × ((List ((List Int) × Int × Bool × Int × Unit)) × (List Int) × (List Int) × Int × Int × Unit)) := @instDecidableEqProd _ _ inferInstance decState_8
instance decState_6 : DecidableEq (Bool × (Int × (List ((List Int) × Int × Bool × Int × Unit)) × (List Int) × (List Int) × Int × Int × Unit)) := @instDecidableEqProd _ _ inferInstance decState_7
instance decState_5 : DecidableEq (Bool × (Bool × Int × (List ((List Int) × Int × Bool × Int × Unit)) × (List Int) × (List Int) × Int × Int × Unit)) := @instDecidableEqProd _ _ inferInstance decState_6
instance decState_4 : DecidableEq (Bool × (Bool × Bool × Int × (List ((List Int) × Int × Bool × Int × Unit)) × (List Int) × (List Int) × Int × Int × Unit)) := @instDecidableEqProd _ _ inferInstance decState_5
instance decState_3 : DecidableEq (Int × (Bool × Bool × Bool × Int × (List ((List Int) × Int × Bool × Int × Unit)) × (List Int) × (List Int) × Int × Int × Unit)) := @instDecidableEqProd _ _ inferInstance decState_4
instance decState_2 : DecidableEq ((List Bool) × (Int × Bool × Bool × Bool × Int × (List ((List Int) × Int × Bool × Int × Unit)) × (List Int) × (List Int) × Int × Int × Unit)) := @instDecidableEqProd _ _ inferInstance decState_3
instance decState_1 : DecidableEq ((List (Int × Int × Int × Int × Int × Unit)) × ((List Bool) × Int × Bool × Bool × Bool × Int × (List ((List Int) × Int × Bool × Int × Unit)) × (List Int) × (List Int) × Int × Int × Unit)) := @instDecidableEqProd _ _ inferInstance decState_2
instance decState_0 : DecidableEq ((List Int) × ((List (Int × Int × Int × Int × Int × Unit)) × (List Bool) × Int × Bool × Bool × Bool × Int × (List ((List Int) × Int × Bool × Int × Unit)) × (List Int) × (List Int) × Int × Int × Unit)) := @instDecidableEqProd _ _ inferInstance decState_1
instance decCall_5 : DecidableEq (Int × Unit) := @instDecidableEqProd _ _ inferInstance inferInstance
instance decCall_4 : DecidableEq (Int × (Int × Unit)) := @instDecidableEqProd _ _ inferInstance decCall_5
instance decCall_3 : DecidableEq (Int × (Int × Int × Unit)) := @instDecidableEqProd _ _ inferInstance decCall_4
instance decCall_2 : DecidableEq (Int × (Int × Int × Int × Unit)) := @instDecidableEqProd _ _ inferInstance decCall_3
instance decCall_1 : DecidableEq (Int × (Int × Int × Int × Int × Unit)) := @instDecidableEqProd _ _ inferInstance decCall_2
instance decCall_0 : DecidableEq (Int × (Int × Int × Int × Int × Int × Unit)) := @instDecidableEqProd _ _ inferInstance decCall_1
abbrev Evx := Int × Int × Int × Int × Unit
abbrev Cfx := Int × Int × Int × Unit

def confOk (c : Cfx) : Bool := decide (3 ≤ c.1) && (decide (c.1 ≤ 12) && (decide (1 ≤ c.2.1) && (decide (c.2.1 ≤ 3) && (decide (0 ≤ c.2.2.1) && decide (c.2.2.1 ≤ 100)))))

theorem sConfigOk_ok {N : Nat} {c : Cfx} : FsConfigOk N (c, ()) = some (confOk c, ()) := by
  obtain ⟨a, b, d, ⟨⟩⟩ := c
  unfold FsConfigOk confOk
  dsimp only
  by_cases h1 : 3 ≤ a <;> by_cases h2 : a ≤ 12 <;> by_cases h3 : 1 ≤ b <;> by_cases h4 : b ≤ 3 <;> by_cases h5 : 0 ≤ d <;> simp [h1, h2, h3, h4, h5]
theorem iConfigOk_ok {N : Nat} {c : Cfx} : FiConfigOk N (c, ()) = some (confOk c, ()) := by
  obtain ⟨a, b, d, ⟨⟩⟩ := c
  unfold FiConfigOk confOk
  dsimp only
  by_cases h1 : 3 ≤ a <;> by_cases h2 : a ≤ 12 <;> by_cases h3 : 1 ≤ b <;> by_cases h4 : b ≤ 3 <;> by_cases h5 : 0 ≤ d <;> simp [h1, h2, h3, h4, h5]

theorem confOk_iff {c : Cfx} : confOk c = true ↔ 3 ≤ c.1 ∧ c.1 ≤ 12 ∧ 1 ≤ c.2.1 ∧ c.2.1 ≤ 3 ∧ 0 ≤ c.2.2.1 ∧ c.2.2.1 ≤ 100 := by
  simp only [confOk, Bool.and_eq_true, decide_eq_true_eq]

def progsOkB (c : Cfx) (ps : List (List Opx)) : Bool := confOk c && (decide ((ps.length : Int) = c.2.1) && ps.all fun p => decide (p.length ≤ 40))

/-- What events play, from a graph on. -/
def playS (T : Int) (ps : List (List Opx)) : List Evx → Gr → List Evx → Option (Gr × List Evx)
  | [], g, out => some (g, out)
  | e :: r, g, out =>
    if e.1 < 0 ∨ e.1 ≥ T ∨ e.2.1 < 0 ∨ e.2.1 ≥ ((ps.getD e.1.toNat []).length : Int) then none
    else if e.2.2.2.1 = 6 then playS T ps r g (out ++ [(e.1, e.2.1, 0, 6, ())])
    else
      let d := doG g e.1 ((ps.getD e.1.toNat []).getD e.2.1.toNat (0, 0, 0, 0, 0, 0, (0, 0, ()), ()))
      playS T ps r (if d.2.1 = 1 then g else d.2.2) (out ++ [(e.1, e.2.1, d.1, d.2.1, ())])

def graph0 (T : Int) : Gr := ([(List.replicate 4 (-1), List.replicate 2 0, ())], List.replicate T.toNat [0], [], ())

section
variable {N : Nat} (hN : lim < N)
include hN

theorem sStoryOk_ok {c : Cfx} {ps : List (List Opx)} (hl : ps.length ≤ 1048576) : FsStoryOk N (c, ps, [], ()) = some (progsOkB c ps, ()) := by
  have hlim : lim = 2147483648 := rfl
  have hL := all_loop (xs := ps) (n := N) (fun p => decide (p.length ≤ 40)) (L := fun n i => lsStoryOk_0 N n (ps, (i : Int), ())) (yes := .inl ()) (no := .inr (false, ())) (by omega)
    (fun n i h hw hq => by
      have : ¬ ((ps[i].length : Int) > 40) := by simp at hq; omega
      simp [lsStoryOk_0, h, hw, this])
    (fun n i h hq => by
      have : ((ps[i].length : Int) > 40) := by simp at hq; omega
      simp [lsStoryOk_0, h, this])
    (fun n => by simp [lsStoryOk_0]) (by omega)
  simp only [Int.natCast_zero] at hL
  unfold FsStoryOk progsOkB
  simp only [sConfigOk_ok, Option.bind_some]
  cases hc : confOk c with
  | false => simp
  | true =>
    by_cases h2 : (ps.length : Int) = c.2.1
    · simp only [h2, bif_bne, if_true, Bool.not_true, cond_false, decide_true, Bool.true_and, List.length_nil, Option.bind_some, Sum.elim_inl, hL]
      simp only [show decide (((0 : Nat) : Int) > 4000) = false from rfl, cond_false, Option.bind_some, Sum.elim_inl, hL]
      cases (ps.all fun p => decide (p.length ≤ 40)) <;> rfl
    · simp [h2]

theorem iprogsOk_ok {c : Cfx} {ps : List (List Opx)} (hl : ps.length ≤ 1048576) : FiprogsOk N (c, ps, ()) = some (progsOkB c ps, ()) := by
  have hlim : lim = 2147483648 := rfl
  have hL := find_loop (xs := ps) (n := N) (fun p => decide ((p.length : Int) > 40)) (L := fun n i => lkIndexFunc_SSOp_SOp_iprogsOk_1_0 N n (ps, (ps.length : Int), (i : Int), ())) (yes := fun i => .inr ((i : Int), ())) (no := .inl ()) (by omega)
    (fun n i h hw hq => by simp only [lkIndexFunc_SSOp_SOp_iprogsOk_1_0, FiprogsOk_1, Int.ofNat_lt, h, decide_true, cond_true, Int.natCast_nonneg, Int.toNat_natCast, getD_lt h, Option.bind_some, hq, cond_false, hw])
    (fun n i h hq => by simp only [lkIndexFunc_SSOp_SOp_iprogsOk_1_0, FiprogsOk_1, Int.ofNat_lt, h, decide_true, cond_true, Int.natCast_nonneg, Int.toNat_natCast, getD_lt h, Option.bind_some, hq])
    (fun n => by simp [lkIndexFunc_SSOp_SOp_iprogsOk_1_0]) (by omega)
  simp only [Int.natCast_zero] at hL
  have hC : FkContainsFunc_SSOp_SOp_iprogsOk_1 N (ps, ()) = some (!(ps.all fun p => decide (p.length ≤ 40)), ()) := by
    simp only [FkContainsFunc_SSOp_SOp_iprogsOk_1, FkIndexFunc_SSOp_SOp_iprogsOk_1, hL, Option.bind_some]
    cases hf : ps.findIdx? (fun p => decide ((p.length : Int) > 40)) with
    | none =>
      have : ps.all (fun p => decide (p.length ≤ 40)) = true := by
        rw [List.findIdx?_eq_none_iff] at hf
        rw [List.all_eq_true]
        intro p hp
        have := hf p hp
        simp at this ⊢
        omega
      simp [this]
    | some i =>
      obtain ⟨hi, h1, _⟩ := List.findIdx?_eq_some_iff_getElem.1 hf
      have : ps.all (fun p => decide (p.length ≤ 40)) = false := by
        rw [List.all_eq_false]
        exact ⟨ps[i], List.getElem_mem hi, by simp at h1 ⊢; omega⟩
      simp [this]
  unfold FiprogsOk progsOkB
  simp only [iConfigOk_ok, Option.bind_some, hC]
  cases hc : confOk c with
  | false => simp
  | true =>
    by_cases h2 : (ps.length : Int) = c.2.1 <;> simp [h2]

theorem sGraphNew_ok {T : Int} (h1 : 1 ≤ T) (h3 : T ≤ 3) : FsGraphNew N (T, ()) = some (true, (graph0 T).1, (graph0 T).2.1, ()) := by
  have hlim : lim = 2147483648 := rfl
  obtain ⟨m, hm⟩ : ∃ m, N = m + 6 := ⟨N - 6, by omega⟩
  have a1 : ∀ n, lsGraphNew_0 N (n + 6) (T, 0, [], [0, 0], ()) = some (T, [-1, -1, -1, -1], [0, 0], ()) := by
    intro n
    simp [lsGraphNew_0, hlim, w64_id]
  have a2 : ∀ n ns, lsGraphNew_2 N (n + 6) (T, 0, ns, [], ()) = some (ns, List.replicate T.toNat [0], ()) := by
    intro n ns
    have : T = 1 ∨ T = 2 ∨ T = 3 := by omega
    rcases this with rfl | rfl | rfl <;> simp [lsGraphNew_2, hlim, w64_id, List.replicate]
  have e1 := a1 m
  have e2 := fun ns => a2 m ns
  rw [← hm] at e1
  simp only [← hm] at e2
  have h1' : ¬ T < 1 := by omega
  have h3' : ¬ T > 3 := by omega
  unfold FsGraphNew
  simp only [h1', h3', decide_false, cond_false, Option.bind_some, Sum.elim_inl]
  simp [hlim, e1, e2, graph0, List.replicate]

theorem iGraphNew_ok {T : Int} (h1 : 1 ≤ T) (h3 : T ≤ 3) : FiGraphNew N (T, ()) = some (true, (graph0 T).1, (graph0 T).2.1, ()) := by
  have hlim : lim = 2147483648 := rfl
  obtain ⟨m, hm⟩ : ∃ m, N = m + 6 := ⟨N - 6, by omega⟩
  have a2 : ∀ n ns, liGraphNew_0 N (n + 6) (T, 0, ns, [], ()) = some (ns, List.replicate T.toNat [0], ()) := by
    intro n ns
    have : T = 1 ∨ T = 2 ∨ T = 3 := by omega
    rcases this with rfl | rfl | rfl <;> simp [liGraphNew_0, hlim, w64_id, List.replicate]
  have e2 := fun ns => a2 m ns
  simp only [← hm] at e2
  have h1' : ¬ T < 1 := by omega
  have h3' : ¬ T > 3 := by omega
  unfold FiGraphNew
  simp only [h1', h3', decide_false, cond_false, Option.bind_some, Sum.elim_inl, inone_ok hN (show (0 : Int) ≤ 4 by omega) (show (4 : Int) ≤ 4 by omega)]
  simp [hlim, e2, graph0, List.replicate]
end
def storyP (c : Cfx) (ps : List (List Opx)) (evs : List Evx) : Bool × List Nd × List (List Int) × List Int × List Evx × Unit :=
  if progsOkB c ps = true ∧ evs.length ≤ 120 then (match playS c.2.1 ps evs (graph0 c.2.1) [] with | some r => (true, r.1.1, r.1.2.1, r.1.2.2.1, r.2, ()) | none => (false, [], [], [], [], ())) else (false, [], [], [], [], ())

theorem playS_sm {N : Nat} (hN : lim < N) {T : Int} {ps : List (List Opx)} : ∀ {evs : List Evx} {g : Gr} {out : List Evx} {r : Gr × List Evx}, playS T ps evs g out = some r → smG g → smG r.1 ∧ r.2.length = out.length + evs.length
  | [], g, out, r, h, hs => by simp only [playS, Option.some.injEq] at h; subst h; exact ⟨hs, rfl⟩
  | e :: l, g, out, r, h, hs => by
    unfold playS at h
    dsimp only at h
    split at h
    · cases h
    · split at h
      · have := playS_sm hN h hs
        simp only [List.length_append, List.length_singleton, List.length_cons, List.length_nil] at this ⊢
        exact ⟨this.1, by omega⟩
      · have := playS_sm hN h (by split; exact hs; exact doG_smG hN)
        simp only [List.length_append, List.length_singleton, List.length_cons, List.length_nil] at this ⊢
        exact ⟨this.1, by omega⟩

theorem graph0_sm {T : Int} (h : T ≤ 3) : smG (graph0 T) := by
  refine ⟨by simp [graph0, sm], ?_, by simp [graph0, sm]; omega, ?_, by simp [graph0, sm]⟩
  · intro x hx
    simp only [graph0, List.mem_singleton] at hx
    subst hx
    simp [smN, sm]
  · intro x hx
    have := List.eq_of_mem_replicate hx
    subst this
    simp [sm]

section
variable {N : Nat} (hN : lim < N)
include hN

theorem sPlay_loop {c : Cfx} {ps : List (List Opx)} {evs : List Evx} (hp : (ps.length : Int) = c.2.1) (hl : evs.length ≤ 120) : ∀ (n i : Nat) (g : Gr) (out : List Evx), smG g → out.length = i → i ≤ evs.length → evs.length - i < n →
    lsStoryPlain_0 N n (ps, evs, c, (i : Int), g.1, g.2.1, g.2.2.1, out, ()) = some (match playS c.2.1 ps (evs.drop i) g out with | some r => .inl (r.1.1, r.1.2.1, r.1.2.2.1, r.2, ()) | none => .inr (false, [], [], [], [], ()))
  | 0, _, _, _, _, _, _, h => absurd h (Nat.not_lt_zero _)
  | n + 1, i, g, out, hs, ho, hi, hn => by
    have hlim : lim = 2147483648 := rfl
    have ih := sPlay_loop hp hl n (i + 1)
    obtain ⟨gp, gq, gr, ⟨⟩⟩ := g
    unfold lsStoryPlain_0
    dsimp only
    by_cases h : i < evs.length
    · have h' : (i : Int) < (evs.length : Int) := by omega
      have hw : w64 ((i : Int) + 1) = ((i + 1 : Nat) : Int) := w64_succ (by omega)
      rw [drop_at h]
      simp only [h', decide_true, cond_true, Int.natCast_nonneg, Int.toNat_natCast, h, getD_lt h, hw]
      generalize evs[i] = e
      obtain ⟨a, b, x, k, ⟨⟩⟩ := e
      dsimp only
      unfold playS
      dsimp only
      by_cases a0 : a < 0
      · simp only [a0, decide_true, cond_true, Option.bind_some, Sum.elim_inr, true_or, if_true]
      by_cases a1 : a ≥ c.2.1
      · simp only [a0, a1, decide_true, decide_false, cond_true, cond_false, Option.bind_some, Sum.elim_inr, true_or, or_true, if_true]
      by_cases b0 : b < 0
      · simp only [a0, a1, b0, decide_true, decide_false, cond_true, cond_false, Option.bind_some, Sum.elim_inr, true_or, or_true, if_true]
      have a2 : (0 : Int) ≤ a := by omega
      have a3 : a.toNat < ps.length := by omega
      by_cases b1 : b ≥ ((ps.getD a.toNat []).length : Int)
      · simp only [a0, a1, b0, b1, a2, a3, decide_true, decide_false, cond_true, cond_false, Option.bind_some, Sum.elim_inr, true_or, or_true, if_true]
      have b2 : (0 : Int) ≤ b := by omega
      have b3 : b.toNat < (ps.getD a.toNat []).length := by omega
      have l1 : out.length + [((a, b, (0 : Int), (6 : Int), ()) : Evx)].length ≤ lim := by simp; omega
      simp only [a0, a1, b0, b1, a2, a3, b2, b3, decide_true, decide_false, cond_true, cond_false, Option.bind_some, Sum.elim_inl, false_or, or_false, if_false, bif_beq, bif_bne]
      by_cases k6 : k = 6
      · subst k6
        simp only [eq_self, if_true, l1, decide_true, cond_true]
        rw [hw]
        exact ih (gp, gq, gr, ()) (out ++ [(a, b, 0, 6, ())]) hs (by simp only [List.length_append, List.length_cons, List.length_nil]; omega) (by omega) (by omega)
      · have ed := sGraphDo_ok hN (g := (gp, gq, gr, ())) (t := a) (o := (ps.getD a.toNat []).getD b.toNat (0, 0, 0, 0, 0, 0, (0, 0, ()), ())) hs
        have sd := doG_smG hN (g := (gp, gq, gr, ())) (t := a) (o := (ps.getD a.toNat []).getD b.toNat (0, 0, 0, 0, 0, 0, (0, 0, ()), ()))
        simp only [k6, if_false, ed, Option.bind_some]
        generalize doG (gp, gq, gr, ()) a ((ps.getD a.toNat []).getD b.toNat (0, 0, 0, 0, 0, 0, (0, 0, ()), ())) = d at sd ⊢
        obtain ⟨v, cc, hp', hq', hr', ⟨⟩⟩ := d
        dsimp only at sd ⊢
        have l2 : out.length + [((a, b, v, cc, ()) : Evx)].length ≤ lim := by simp; omega
        by_cases c1 : cc = 1
        · simp only [c1, if_true, Option.bind_some]
          subst c1
          simp only [l2, decide_true, cond_true]
          rw [hw]
          exact ih (gp, gq, gr, ()) (out ++ [(a, b, v, 1, ())]) hs (by simp only [List.length_append, List.length_cons, List.length_nil]; omega) (by omega) (by omega)
        · simp only [c1, if_false, Option.bind_some, l2, decide_true, cond_true]
          rw [hw]
          exact ih (hp', hq', hr', ()) (out ++ [(a, b, v, cc, ())]) sd (by simp only [List.length_append, List.length_cons, List.length_nil]; omega) (by omega) (by omega)
    · have : i = evs.length := by omega
      subst this
      simp only [Int.lt_irrefl, decide_false, cond_false, List.drop_length, playS]

theorem iPlay_loop {c : Cfx} {ps : List (List Opx)} {evs : List Evx} (hp : (ps.length : Int) = c.2.1) (hl : evs.length ≤ 120) : ∀ (n i : Nat) (g : Gr) (out : List Evx), smG g → out.length = i → i ≤ evs.length → evs.length - i < n →
    liStoryPlain_0 N n (ps, c, evs, (evs.length : Int), (i : Int), g.1, g.2.1, g.2.2.1, out, ()) = some (match playS c.2.1 ps (evs.drop i) g out with | some r => .inl (r.1.1, r.1.2.1, r.1.2.2.1, r.2, ()) | none => .inr (false, [], [], [], [], ()))
  | 0, _, _, _, _, _, _, h => absurd h (Nat.not_lt_zero _)
  | n + 1, i, g, out, hs, ho, hi, hn => by
    have hlim : lim = 2147483648 := rfl
    have ih := iPlay_loop hp hl n (i + 1)
    obtain ⟨gp, gq, gr, ⟨⟩⟩ := g
    unfold liStoryPlain_0
    dsimp only
    by_cases h : i < evs.length
    · have h' : (i : Int) < (evs.length : Int) := by omega
      have hw : w64 ((i : Int) + 1) = ((i + 1 : Nat) : Int) := w64_succ (by omega)
      rw [drop_at h]
      simp only [h', decide_true, cond_true, Int.natCast_nonneg, Int.toNat_natCast, h, getD_lt h, hw]
      generalize evs[i] = e
      obtain ⟨a, b, x, k, ⟨⟩⟩ := e
      dsimp only
      unfold playS
      dsimp only
      by_cases a0 : a < 0
      · simp only [a0, decide_true, cond_true, Option.bind_some, Sum.elim_inr, true_or, if_true]
      by_cases a1 : a ≥ c.2.1
      · simp only [a0, a1, decide_true, decide_false, cond_true, cond_false, Option.bind_some, Sum.elim_inr, true_or, or_true, if_true]
      by_cases b0 : b < 0
      · simp only [a0, a1, b0, decide_true, decide_false, cond_true, cond_false, Option.bind_some, Sum.elim_inr, true_or, or_true, if_true]
      have a2 : (0 : Int) ≤ a := by omega
      have a3 : a.toNat < ps.length := by omega
      by_cases b1 : b ≥ ((ps.getD a.toNat []).length : Int)
      · simp only [a0, a1, b0, b1, a2, a3, decide_true, decide_false, cond_true, cond_false, Option.bind_some, Sum.elim_inr, true_or, or_true, if_true]
      have b2 : (0 : Int) ≤ b := by omega
      have b3 : b.toNat < (ps.getD a.toNat []).length := by omega
      have l1 : out.length + [((a, b, (0 : Int), (6 : Int), ()) : Evx)].length ≤ lim := by simp; omega
      simp only [a0, a1, b0, b1, a2, a3, b2, b3, decide_true, decide_false, cond_true, cond_false, Option.bind_some, Sum.elim_inl, false_or, or_false, if_false, bif_beq, bif_bne]
      by_cases k6 : k = 6
      · subst k6
        simp only [eq_self, if_true, l1, decide_true, cond_true]
        rw [hw]
        exact ih (gp, gq, gr, ()) (out ++ [(a, b, 0, 6, ())]) hs (by simp only [List.length_append, List.length_cons, List.length_nil]; omega) (by omega) (by omega)
      · have ed := iGraphDo_ok hN (g := (gp, gq, gr, ())) (t := a) (o := (ps.getD a.toNat []).getD b.toNat (0, 0, 0, 0, 0, 0, (0, 0, ()), ())) hs
        have sd := doG_smG hN (g := (gp, gq, gr, ())) (t := a) (o := (ps.getD a.toNat []).getD b.toNat (0, 0, 0, 0, 0, 0, (0, 0, ()), ()))
        simp only [k6, if_false, ed, Option.bind_some]
        generalize doG (gp, gq, gr, ()) a ((ps.getD a.toNat []).getD b.toNat (0, 0, 0, 0, 0, 0, (0, 0, ()), ())) = d at sd ⊢
        obtain ⟨v, cc, hp', hq', hr', ⟨⟩⟩ := d
        dsimp only at sd ⊢
        have l2 : out.length + [((a, b, v, cc, ()) : Evx)].length ≤ lim := by simp; omega
        by_cases c1 : cc = 1
        · simp only [c1, if_true, Option.bind_some]
          subst c1
          simp only [l2, decide_true, cond_true]
          rw [hw]
          exact ih (gp, gq, gr, ()) (out ++ [(a, b, v, 1, ())]) hs (by simp only [List.length_append, List.length_cons, List.length_nil]; omega) (by omega) (by omega)
        · simp only [c1, if_false, Option.bind_some, l2, decide_true, cond_true]
          rw [hw]
          exact ih (hp', hq', hr', ()) (out ++ [(a, b, v, cc, ())]) sd (by simp only [List.length_append, List.length_cons, List.length_nil]; omega) (by omega) (by omega)
    · have : i = evs.length := by omega
      subst this
      simp only [Int.lt_irrefl, decide_false, cond_false, List.drop_length, playS]

theorem sStoryPlain_ok {c : Cfx} {ps : List (List Opx)} {evs : List Evx} (hl : ps.length ≤ 1048576) : FsStoryPlain N (c, ps, evs, ()) = some (storyP c ps evs) := by
  unfold FsStoryPlain storyP
  simp only [sStoryOk_ok hN hl, Option.bind_some]
  cases hc : progsOkB c ps with
  | false => simp
  | true =>
    simp only [progsOkB, Bool.and_eq_true, decide_eq_true_eq] at hc
    have hT := confOk_iff.1 hc.1
    by_cases h2 : evs.length > 120
    · have : ((evs.length : Int) > 120) := by omega
      have h4 : ¬ evs.length ≤ 120 := by omega
      simp only [this, h4, Bool.not_true, cond_false, decide_true, cond_true, Option.bind_some, Sum.elim_inr, and_false, if_false]
    · have hlim : lim = 2147483648 := rfl
      have h3 : ¬ ((evs.length : Int) > 120) := by omega
      have hL := sPlay_loop hN (c := c) (ps := ps) (evs := evs) hc.2.1 (by omega) N 0 (graph0 c.2.1) [] (graph0_sm hT.2.2.2.1) rfl (by omega) (by omega)
      simp only [Int.natCast_zero, List.drop_zero] at hL
      have eg : (graph0 c.2.1).2.2.1 = [] := rfl
      rw [eg] at hL
      have h4 : evs.length ≤ 120 := by omega
      simp only [h3, h4, Bool.not_true, cond_false, decide_false, Option.bind_some, Sum.elim_inl, sGraphNew_ok hN hT.2.2.1 hT.2.2.2.1, hL, and_self, if_true]
      cases playS c.2.1 ps evs (graph0 c.2.1) [] with
      | none => rfl
      | some r => rfl

theorem iStoryPlain_ok {c : Cfx} {ps : List (List Opx)} {evs : List Evx} (hl : ps.length ≤ 1048576) : FiStoryPlain N (c, ps, evs, ()) = some (storyP c ps evs) := by
  unfold FiStoryPlain storyP
  simp only [iprogsOk_ok hN hl, Option.bind_some]
  cases hc : progsOkB c ps with
  | false => simp
  | true =>
    simp only [progsOkB, Bool.and_eq_true, decide_eq_true_eq] at hc
    have hT := confOk_iff.1 hc.1
    by_cases h2 : evs.length > 120
    · have : ((evs.length : Int) > 120) := by omega
      have h4 : ¬ evs.length ≤ 120 := by omega
      simp only [this, h4, Bool.not_true, cond_false, decide_true, cond_true, Option.bind_some, Sum.elim_inr, and_false, if_false]
    · have hlim : lim = 2147483648 := rfl
      have h3 : ¬ ((evs.length : Int) > 120) := by omega
      have hL := iPlay_loop hN (c := c) (ps := ps) (evs := evs) hc.2.1 (by omega) N 0 (graph0 c.2.1) [] (graph0_sm hT.2.2.2.1) rfl (by omega) (by omega)
      simp only [Int.natCast_zero, List.drop_zero] at hL
      have eg : (graph0 c.2.1).2.2.1 = [] := rfl
      rw [eg] at hL
      have h4 : evs.length ≤ 120 := by omega
      simp only [h3, h4, Bool.not_true, cond_false, decide_false, Option.bind_some, Sum.elim_inl, iGraphNew_ok hN hT.2.2.1 hT.2.2.2.1, hL, and_self, if_true]
      cases playS c.2.1 ps evs (graph0 c.2.1) [] with
      | none => rfl
      | some r => rfl
end
/-- Numbers one behind the other. -/
def markI (k : Int) : Nat → List Int
  | 0 => []
  | n + 1 => k :: markI (k + 1) n

theorem markI_len : ∀ (n : Nat) (k : Int), (markI k n).length = n
  | 0, _ => rfl
  | n + 1, k => by simp [markI, markI_len n]

theorem markI_get : ∀ (n : Nat) (k : Int) (i : Nat) (h : i < (markI k n).length), (markI k n)[i] = k + i
  | 0, _, _, h => absurd h (Nat.not_lt_zero _)
  | n + 1, k, 0, _ => by simp [markI]
  | n + 1, k, i + 1, h => by
    simp only [markI, List.getElem_cons_succ]
    rw [markI_get n (k + 1) i]
    omega

theorem set_take {α : Type} {s : List α} {i : Nat} {x : α} (h : i < s.length) : (s.set i x).take (i + 1) = s.take i ++ [x] := by
  rw [List.take_succ_eq_append_getElem (by simpa using h)]
  simp [List.take_set_of_le]
def markNs : Int → List Nd → Int × List Nd
  | k, [] => (k, [])
  | k, x :: r => ((markNs (k + x.1.length + x.2.1.length) r).1, (markI k x.1.length, markI (k + x.1.length) x.2.1.length, ()) :: (markNs (k + x.1.length + x.2.1.length) r).2)
def markIs : Int → List (List Int) → Int × List (List Int)
  | k, [] => (k, [])
  | k, x :: r => ((markIs (k + x.length) r).1, markI k x.length :: (markIs (k + x.length) r).2)
def markGr (k : Int) (g : Gr) : Int × Gr :=
  ((markIs (markNs k g.1).1 g.2.1).1 + g.2.2.1.length, (markNs k g.1).2, (markIs (markNs k g.1).1 g.2.1).2, markI (markIs (markNs k g.1).1 g.2.1).1 g.2.2.1.length, ())

theorem markNs_rng : ∀ {xs : List Nd} (k : Int), (∀ x ∈ xs, smN x) → k ≤ (markNs k xs).1 ∧ (markNs k xs).1 ≤ k + 2097152 * xs.length
  | [], k, _ => by simp [markNs]
  | x :: r, k, h => by
    have hx := h x (by simp)
    simp only [smN, sm] at hx
    have := markNs_rng (xs := r) (k + x.1.length + x.2.1.length) (fun y hy => h y (by simp [hy]))
    simp only [markNs, List.length_cons]
    omega

theorem markIs_rng : ∀ {xs : List (List Int)} (k : Int), (∀ x ∈ xs, sm x.length) → k ≤ (markIs k xs).1 ∧ (markIs k xs).1 ≤ k + 1048576 * xs.length
  | [], k, _ => by simp [markIs]
  | x :: r, k, h => by
    have hx := h x (by simp)
    simp only [sm] at hx
    have := markIs_rng (xs := r) (k + x.length) (fun y hy => h y (by simp [hy]))
    simp only [markIs, List.length_cons]
    omega

theorem markNs_len : ∀ {xs : List Nd} (k : Int), (markNs k xs).2.length = xs.length
  | [], _ => rfl
  | x :: r, k => by simp [markNs, markNs_len]
theorem markIs_len : ∀ {xs : List (List Int)} (k : Int), (markIs k xs).2.length = xs.length
  | [], _ => rfl
  | x :: r, k => by simp [markIs, markIs_len]
theorem markGr_rng {N : Nat} {hN : lim < N} {k : Int} {g : Gr} (hs : smG g) : k ≤ (markGr k g).1 ∧ (markGr k g).1 ≤ k + 4398046511104 := by
  obtain ⟨a1, a2, a3, a4, a5⟩ := hs
  have b1 := markNs_rng (xs := g.1) k a2
  simp only [sm] at a1 a3 a5
  have b2 := markIs_rng (xs := g.2.1) (markNs k g.1).1 a4
  simp only [markGr]
  omega
section
variable {N : Nat} (hN : lim < N)
include hN

theorem wszOpS_ok {xs : (List (Int × Int × Int × Int × Int × Int × (Int × Int × Unit) × Unit))} {left : Int} (hx : Wf tOpS xs) (h0 : 0 ≤ left) (h1 : left ≤ 1048576) : ∃ r, FvszOpS N (xs, left, ()) = some (r, ()) ∧ (r < 0 ∨ (0 ≤ r ∧ r ≤ left ∧ lnT tOpS xs)) := by
  have hx1 := hx.1
  simp only [maxLen] at hx1
  simp only [FvszOpS]
  rw [w64_id (by omega) (by omega)]
  by_cases h : left - (xs.length : Int) < 0
  · simp [h]
  · refine ⟨left - (xs.length : Int), by simp [h], .inr ⟨by omega, by omega, by omega, fun x _ => ?_⟩⟩
    simp [lnT]
end
section
variable {N : Nat} (hN : lim < N)
include hN

theorem wszOpSS_ok {xs : (List (List (Int × Int × Int × Int × Int × Int × (Int × Int × Unit) × Unit)))} {left : Int} (hx : Wf tOpSS xs) (h0 : 0 ≤ left) (h1 : left ≤ 1048576) : ∃ r, FvszOpSS N (xs, left, ()) = some (r, ()) ∧ (r < 0 ∨ (0 ≤ r ∧ r ≤ left ∧ lnT tOpSS xs)) := by
  have := sz_loop (xs := xs) (lnT tOpS) (L := fun n i l => lvszOpSS_0 N n (xs, l, (i : Int), ())) hN (by have := hx.1; simp only [maxLen] at this; omega) h0 h1
    (fun n i h left h0 h1 hw => by
      obtain ⟨r1, e1, h2⟩ := wszOpS_ok hN (hx.2 xs[i] (List.getElem_mem h)) h0 h1
      simp only [lvszOpSS_0, Int.ofNat_lt, h, decide_true, cond_true, Int.natCast_nonneg, Int.toNat_natCast, getD_lt h, e1, Option.bind_some, hw]
      rcases h2 with h2 | ⟨h2, h3, h4⟩
      · left; simp [h2]
      · right; exact ⟨r1, h2, h3, h4, by simp [Int.not_lt.2 h2]⟩)
    (fun n left => by simp [lvszOpSS_0])
  simp only [Int.natCast_zero] at this
  exact this
end
section
variable {N : Nat} (hN : lim < N)
include hN

theorem wszEventS_ok {xs : (List (Int × Int × Int × Int × Unit))} {left : Int} (hx : Wf tEventS xs) (h0 : 0 ≤ left) (h1 : left ≤ 1048576) : ∃ r, FvszEventS N (xs, left, ()) = some (r, ()) ∧ (r < 0 ∨ (0 ≤ r ∧ r ≤ left ∧ lnT tEventS xs)) := by
  have hx1 := hx.1
  simp only [maxLen] at hx1
  simp only [FvszEventS]
  rw [w64_id (by omega) (by omega)]
  by_cases h : left - (xs.length : Int) < 0
  · simp [h]
  · refine ⟨left - (xs.length : Int), by simp [h], .inr ⟨by omega, by omega, by omega, fun x _ => ?_⟩⟩
    simp [lnT]
end
section
variable {N : Nat} (hN : lim < N)
include hN

theorem wtoShape_ok {x : (Int × Int × Unit)} (hx : lnT tShape x) : FvtoShape N (x, ()) = some (x.1, x.2.1, ()) := by
  simp [FvtoShape]
end
section
variable {N : Nat} (hN : lim < N)
include hN

theorem wtoOp_ok {x : (Int × Int × Int × Int × Int × Int × (Int × Int × Unit) × Unit)} (hx : lnT tOp x) : FvtoOp N (x, ()) = some (x.1, x.2.1, x.2.2.1, x.2.2.2.1, x.2.2.2.2.1, x.2.2.2.2.2.1, x.2.2.2.2.2.2.1.1, x.2.2.2.2.2.2.1.2.1, ()) := by
  simp [FvtoOp, wtoShape_ok hN hx.2.2.2.2.2.2.1]
end
section
variable {N : Nat} (hN : lim < N)
include hN

theorem wtoOpS_ok {xs : (List (Int × Int × Int × Int × Int × Int × (Int × Int × Unit) × Unit))} (hx : lnT tOpS xs) : FvtoOpS N (xs, ()) = some (xs, ()) := by
  have hlim : lim = 2147483648 := rfl
  have hl : xs.length ≤ lim := by have := hx.1; omega
  have hL := fill_loop (xs := xs) (n := N) id (L := fun n i s => lvtoOpS_0 N n (xs, (i : Int), s, ())) (fin := fun s => (s, ())) hl
    (fun n i s h hw hs => by
      have hs' : i < s.length := by omega
      simp [lvtoOpS_0, h, hs', hw, wtoOp_ok hN (hx.2 xs[i] (List.getElem_mem h))])
    (fun n s hs => by simp [lvtoOpS_0]) (by omega) (s := List.replicate xs.length ((0 : Int), (0 : Int), (0 : Int), (0 : Int), (0 : Int), (0 : Int), ((0 : Int), (0 : Int), ()), ())) (by simp)
  simp only [Int.natCast_zero] at hL
  simp [FvtoOpS, hL, hl]
end
section
variable {N : Nat} (hN : lim < N)
include hN

theorem wtoOpSS_ok {xs : (List (List (Int × Int × Int × Int × Int × Int × (Int × Int × Unit) × Unit)))} (hx : lnT tOpSS xs) : FvtoOpSS N (xs, ()) = some (xs, ()) := by
  have hlim : lim = 2147483648 := rfl
  have hl : xs.length ≤ lim := by have := hx.1; omega
  have hL := fill_loop (xs := xs) (n := N) id (L := fun n i s => lvtoOpSS_0 N n (xs, (i : Int), s, ())) (fin := fun s => (s, ())) hl
    (fun n i s h hw hs => by
      have hs' : i < s.length := by omega
      simp [lvtoOpSS_0, h, hs', hw, wtoOpS_ok hN (hx.2 xs[i] (List.getElem_mem h))])
    (fun n s hs => by simp [lvtoOpSS_0]) (by omega) (s := List.replicate xs.length ([] : (List (Int × Int × Int × Int × Int × Int × (Int × Int × Unit) × Unit)))) (by simp)
  simp only [Int.natCast_zero] at hL
  simp [FvtoOpSS, hL, hl]
end
section
variable {N : Nat} (hN : lim < N)
include hN

theorem wtoEvent_ok {x : (Int × Int × Int × Int × Unit)} (hx : lnT tEvent x) : FvtoEvent N (x, ()) = some (x.1, x.2.1, x.2.2.1, x.2.2.2.1, ()) := by
  simp [FvtoEvent]
end
section
variable {N : Nat} (hN : lim < N)
include hN

theorem wtoEventS_ok {xs : (List (Int × Int × Int × Int × Unit))} (hx : lnT tEventS xs) : FvtoEventS N (xs, ()) = some (xs, ()) := by
  have hlim : lim = 2147483648 := rfl
  have hl : xs.length ≤ lim := by have := hx.1; omega
  have hL := fill_loop (xs := xs) (n := N) id (L := fun n i s => lvtoEventS_0 N n (xs, (i : Int), s, ())) (fin := fun s => (s, ())) hl
    (fun n i s h hw hs => by
      have hs' : i < s.length := by omega
      simp [lvtoEventS_0, h, hs', hw, wtoEvent_ok hN (hx.2 xs[i] (List.getElem_mem h))])
    (fun n s hs => by simp [lvtoEventS_0]) (by omega) (s := List.replicate xs.length ((0 : Int), (0 : Int), (0 : Int), (0 : Int), ())) (by simp)
  simp only [Int.natCast_zero] at hL
  simp [FvtoEventS, hL, hl]
end
section
variable {N : Nat} (hN : lim < N)
include hN

theorem wtoConfig_ok {x : (Int × Int × Int × Unit)} (hx : lnT tConfig x) : FvtoConfig N (x, ()) = some (x.1, x.2.1, x.2.2.1, ()) := by
  simp [FvtoConfig]
end
section
variable {N : Nat} (hN : lim < N)
include hN

theorem weqEvent_ok {x y : (Int × Int × Int × Int × Unit)} (hx : lnT tEvent x) : FveqEvent N (x, y, ()) = some (decide (x = y), ()) := by
  obtain ⟨xa, xb, xc, xd, ⟨⟩⟩ := x
  obtain ⟨ya, yb, yc, yd, ⟨⟩⟩ := y
  simp only [FveqEvent, Option.bind_some, ne_step, not_step, bool_beq]
  simp only [Prod.mk.injEq, Bool.decide_and, and_true, Bool.and_true, decide_true]
end
section
variable {N : Nat} (hN : lim < N)
include hN

theorem weqEventS_ok {xs ys : (List (Int × Int × Int × Int × Unit))} (hx : lnT tEventS xs) : FveqEventS N (xs, ys, ()) = some (decide (xs = ys), ()) := by
  have hlim : lim = 2147483648 := rfl
  have hl : xs.length ≤ lim := by have := hx.1; omega
  by_cases hlen : xs.length = ys.length
  · have hL := eq_loop (xs := xs) (ys := ys) (n := N) (L := fun n i => lveqEventS_0 N n (xs, ys, (i : Int), ())) (yes := .inl ()) (no := .inr (false, ())) hl hlen
      (fun n i h1 h2 hw hq => by
        have e := weqEvent_ok hN (y := ys[i]) (hx.2 _ (List.getElem_mem h1))
        rw [decide_eq_true hq] at e
        simp [lveqEventS_0, h1, h2, hw, e])
      (fun n i h1 h2 hq => by simp [lveqEventS_0, h1, h2, hq, weqEvent_ok hN (y := ys[i]) (hx.2 _ (List.getElem_mem h1))])
      (fun n => by simp [lveqEventS_0, hlen]) (by omega)
    simp only [Int.natCast_zero] at hL
    rcases Decidable.em (xs = ys) with rfl | h
    · simp [FveqEventS, hL]
    · simp [FveqEventS, hL, h, hlen]
  · have h : xs ≠ ys := fun h => hlen (by rw [h])
    have h2 : (xs.length : Int) ≠ ys.length := by omega
    simp [FveqEventS, h, h2]
end
section
variable {N : Nat} (hN : lim < N)
include hN

theorem weqShape_ok {x y : (Int × Int × Unit)} (hx : lnT tShape x) : FveqShape N (x, y, ()) = some (decide (x = y), ()) := by
  obtain ⟨xa, xb, ⟨⟩⟩ := x
  obtain ⟨ya, yb, ⟨⟩⟩ := y
  simp only [FveqShape, Option.bind_some, ne_step, not_step, bool_beq]
  simp only [Prod.mk.injEq, Bool.decide_and, and_true, Bool.and_true, decide_true]
end
section
variable {N : Nat} (hN : lim < N)
include hN

theorem weqOp_ok {x y : (Int × Int × Int × Int × Int × Int × (Int × Int × Unit) × Unit)} (hx : lnT tOp x) : FveqOp N (x, y, ()) = some (decide (x = y), ()) := by
  obtain ⟨xa, xb, xc, xd, xe, xf, ⟨xga, xgb, ⟨⟩⟩, ⟨⟩⟩ := x
  obtain ⟨ya, yb, yc, yd, ye, yf, ⟨yga, ygb, ⟨⟩⟩, ⟨⟩⟩ := y
  simp only [FveqOp, Option.bind_some, weqShape_ok hN hx.2.2.2.2.2.2.1, ne_step, not_step, bool_beq]
  simp only [Prod.mk.injEq, Bool.decide_and, and_true, Bool.and_true, decide_true]
end
section
variable {N : Nat} (hN : lim < N)
include hN

theorem weqOpS_ok {xs ys : (List (Int × Int × Int × Int × Int × Int × (Int × Int × Unit) × Unit))} (hx : lnT tOpS xs) : FveqOpS N (xs, ys, ()) = some (decide (xs = ys), ()) := by
  have hlim : lim = 2147483648 := rfl
  have hl : xs.length ≤ lim := by have := hx.1; omega
  by_cases hlen : xs.length = ys.length
  · have hL := eq_loop (xs := xs) (ys := ys) (n := N) (L := fun n i => lveqOpS_0 N n (xs, ys, (i : Int), ())) (yes := .inl ()) (no := .inr (false, ())) hl hlen
      (fun n i h1 h2 hw hq => by
        have e := weqOp_ok hN (y := ys[i]) (hx.2 _ (List.getElem_mem h1))
        rw [decide_eq_true hq] at e
        simp [lveqOpS_0, h1, h2, hw, e])
      (fun n i h1 h2 hq => by simp [lveqOpS_0, h1, h2, hq, weqOp_ok hN (y := ys[i]) (hx.2 _ (List.getElem_mem h1))])
      (fun n => by simp [lveqOpS_0, hlen]) (by omega)
    simp only [Int.natCast_zero] at hL
    rcases Decidable.em (xs = ys) with rfl | h
    · simp [FveqOpS, hL]
    · simp [FveqOpS, hL, h, hlen]
  · have h : xs ≠ ys := fun h => hlen (by rw [h])
    have h2 : (xs.length : Int) ≠ ys.length := by omega
    simp [FveqOpS, h, h2]
end
section
variable {N : Nat} (hN : lim < N)
include hN

theorem weqOpSS_ok {xs ys : (List (List (Int × Int × Int × Int × Int × Int × (Int × Int × Unit) × Unit)))} (hx : lnT tOpSS xs) : FveqOpSS N (xs, ys, ()) = some (decide (xs = ys), ()) := by
  have hlim : lim = 2147483648 := rfl
  have hl : xs.length ≤ lim := by have := hx.1; omega
  by_cases hlen : xs.length = ys.length
  · have hL := eq_loop (xs := xs) (ys := ys) (n := N) (L := fun n i => lveqOpSS_0 N n (xs, ys, (i : Int), ())) (yes := .inl ()) (no := .inr (false, ())) hl hlen
      (fun n i h1 h2 hw hq => by
        have e := weqOpS_ok hN (ys := ys[i]) (hx.2 _ (List.getElem_mem h1))
        rw [decide_eq_true hq] at e
        simp [lveqOpSS_0, h1, h2, hw, e])
      (fun n i h1 h2 hq => by simp [lveqOpSS_0, h1, h2, hq, weqOpS_ok hN (ys := ys[i]) (hx.2 _ (List.getElem_mem h1))])
      (fun n => by simp [lveqOpSS_0, hlen]) (by omega)
    simp only [Int.natCast_zero] at hL
    rcases Decidable.em (xs = ys) with rfl | h
    · simp [FveqOpSS, hL]
    · simp [FveqOpSS, hL, h, hlen]
  · have h : xs ≠ ys := fun h => hlen (by rw [h])
    have h2 : (xs.length : Int) ≠ ys.length := by omega
    simp [FveqOpSS, h, h2]
end
section
variable {N : Nat} (hN : lim < N)
include hN

theorem veqIntS_ok {xs ys : List Int} (hx : sm xs.length) : FveqIntS N (xs, ys, ()) = some (decide (xs = ys), ()) := by
  have hl := sm_lim hx
  by_cases hlen : xs.length = ys.length
  · have hL := eq_loop (xs := xs) (ys := ys) (n := N) (L := fun n i => lveqIntS_0 N n (xs, ys, (i : Int), ())) (yes := .inl ()) (no := .inr (false, ())) hl hlen
      (fun n i h1 h2 hw hq => by simp [lveqIntS_0, h1, h2, hw, hq])
      (fun n i h1 h2 hq => by simp [lveqIntS_0, h1, h2, hq])
      (fun n => by simp [lveqIntS_0, hlen]) (by omega)
    simp only [Int.natCast_zero] at hL
    rcases Decidable.em (xs = ys) with rfl | h
    · simp [FveqIntS, hL]
    · simp [FveqIntS, hL, h, hlen]
  · have h : xs ≠ ys := fun h => hlen (by rw [h])
    have h2 : (xs.length : Int) ≠ ys.length := by omega
    simp [FveqIntS, h, h2]

end
section
variable {N : Nat} (hN : lim < N)
include hN

theorem veqNode_ok {x y : Nd} (hx : smN x) : FveqNode N (x, y, ()) = some (decide (x = y), ()) := by
  obtain ⟨a, b, ⟨⟩⟩ := x
  obtain ⟨c, d, ⟨⟩⟩ := y
  simp only [FveqNode, veqIntS_ok hN hx.1, veqIntS_ok hN hx.2]
  by_cases h1 : a = c <;> by_cases h2 : b = d <;> simp [h1, h2]

theorem veqNodeS_ok {xs ys : List Nd} (hx : sm xs.length) (hx' : ∀ x ∈ xs, smN x) : FveqNodeS N (xs, ys, ()) = some (decide (xs = ys), ()) := by
  have hl := sm_lim hx
  by_cases hlen : xs.length = ys.length
  · have hL := eq_loop (xs := xs) (ys := ys) (n := N) (L := fun n i => lveqNodeS_0 N n (xs, ys, (i : Int), ())) (yes := .inl ()) (no := .inr (false, ())) hl hlen
      (fun n i h1 h2 hw hq => by
        have e := veqNode_ok hN (y := ys[i]) (hx' _ (List.getElem_mem h1))
        rw [decide_eq_true hq] at e
        simp [lveqNodeS_0, h1, h2, hw, e])
      (fun n i h1 h2 hq => by simp [lveqNodeS_0, h1, h2, hq, veqNode_ok hN (y := ys[i]) (hx' _ (List.getElem_mem h1))])
      (fun n => by simp [lveqNodeS_0, hlen]) (by omega)
    simp only [Int.natCast_zero] at hL
    rcases Decidable.em (xs = ys) with rfl | h
    · simp [FveqNodeS, hL]
    · simp [FveqNodeS, hL, h, hlen]
  · have h : xs ≠ ys := fun h => hlen (by rw [h])
    have h2 : (xs.length : Int) ≠ ys.length := by omega
    simp [FveqNodeS, h, h2]

theorem veqIntSS_ok {xs ys : List (List Int)} (hx : sm xs.length) (hx' : ∀ x ∈ xs, sm x.length) : FveqIntSS N (xs, ys, ()) = some (decide (xs = ys), ()) := by
  have hl := sm_lim hx
  by_cases hlen : xs.length = ys.length
  · have hL := eq_loop (xs := xs) (ys := ys) (n := N) (L := fun n i => lveqIntSS_0 N n (xs, ys, (i : Int), ())) (yes := .inl ()) (no := .inr (false, ())) hl hlen
      (fun n i h1 h2 hw hq => by
        have e := veqIntS_ok hN (ys := ys[i]) (hx' _ (List.getElem_mem h1))
        rw [decide_eq_true hq] at e
        simp [lveqIntSS_0, h1, h2, hw, e])
      (fun n i h1 h2 hq => by simp [lveqIntSS_0, h1, h2, hq, veqIntS_ok hN (ys := ys[i]) (hx' _ (List.getElem_mem h1))])
      (fun n => by simp [lveqIntSS_0, hlen]) (by omega)
    simp only [Int.natCast_zero] at hL
    rcases Decidable.em (xs = ys) with rfl | h
    · simp [FveqIntSS, hL]
    · simp [FveqIntSS, hL, h, hlen]
  · have h : xs ≠ ys := fun h => hlen (by rw [h])
    have h2 : (xs.length : Int) ≠ ys.length := by omega
    simp [FveqIntSS, h, h2]

theorem veqGraph_ok {g h : Gr} (hx : smG g) : FveqGraph N (g, h, ()) = some (decide (g = h), ()) := by
  obtain ⟨a1, a2, a3, a4, a5⟩ := hx
  obtain ⟨p, q, r, ⟨⟩⟩ := g
  obtain ⟨p', q', r', ⟨⟩⟩ := h
  simp only at a1 a2 a3 a4 a5
  simp only [FveqGraph, veqNodeS_ok hN a1 a2, veqIntSS_ok hN a3 a4, veqIntS_ok hN a5]
  by_cases h1 : p = p' <;> by_cases h2 : q = q' <;> by_cases h3 : r = r' <;> simp [h1, h2, h3]

end
section
variable {N : Nat} (hN : lim < N)
include hN

theorem wmarkOpS_ok {k : Int} {xs : (List (Int × Int × Int × Int × Int × Int × (Int × Int × Unit) × Unit))} (hx : lnT tOpS xs) (h0 : 0 ≤ k) (h1 : k + bndT tOpS ≤ 4611686018427387904) : FvmarkOpS N (k, xs, ()) = some ((markE tOpS k xs).1, (markE tOpS k xs).2, ()) := by
  have hlim : lim = 2147483648 := rfl
  have hx1 := hx.1
  have hL := mark_loop (f := markE tOp) (P := lnT tOp) (B := bndT tOp) (xs := xs) (n := N) (k := k) (L := fun n k i s => lvmarkOpS_0 N n (k, (i : Int), s, ())) (fin := fun k s => (k, s, ())) (by omega) hx.2 (bndT_nn _) (fun k x hx => markE_rng k hx)
    (fun n k i s h hP hk0 hk hw => by
      have hb := hk; simp only [bndT] at hb
      have w0 : w64 (k + 1) = k + 1 := w64_id (by omega) (by omega)
      have w1 : w64 (k + 1 + 1) = k + 1 + 1 := w64_id (by omega) (by omega)
      have w2 : w64 (k + 1 + 1 + 1) = k + 1 + 1 + 1 := w64_id (by omega) (by omega)
      have w3 : w64 (k + 1 + 1 + 1 + 1) = k + 1 + 1 + 1 + 1 := w64_id (by omega) (by omega)
      have w4 : w64 (k + 1 + 1 + 1 + 1 + 1) = k + 1 + 1 + 1 + 1 + 1 := w64_id (by omega) (by omega)
      have w5 : w64 (k + 1 + 1 + 1 + 1 + 1 + 1) = k + 1 + 1 + 1 + 1 + 1 + 1 := w64_id (by omega) (by omega)
      have w6 : w64 (k + 1 + 1 + 1 + 1 + 1 + 1 + 1) = k + 1 + 1 + 1 + 1 + 1 + 1 + 1 := w64_id (by omega) (by omega)
      have w7 : w64 (k + 1 + 1 + 1 + 1 + 1 + 1 + 1 + 1) = k + 1 + 1 + 1 + 1 + 1 + 1 + 1 + 1 := w64_id (by omega) (by omega)
      simp only [lvmarkOpS_0, Int.ofNat_lt, h, decide_true, cond_true, Int.natCast_nonneg, Int.toNat_natCast, List.length_set, getD_set_i h, List.set_set, getD_lt h, hw, Option.bind_some, w0, w1, w2, w3, w4, w5, w6, w7, show decide ((3 : Int) = 0) = false from rfl, cond_false]
      try simp only [markE])
    (fun n k s => by simp [lvmarkOpS_0]) (by omega) h0 (by
      have : bndT tOp * (xs.length : Int) ≤ bndT tOp * 1048576 := Int.mul_le_mul_of_nonneg_left (by omega) (bndT_nn _)
      have e2 : bndT tOpS = 1048576 * bndT tOp := rfl
      omega)
  simp only [Int.natCast_zero] at hL
  simp only [FvmarkOpS, hL, Option.bind_some, markE]
end
section
variable {N : Nat} (hN : lim < N)
include hN

theorem wmarkOpSS_ok {k : Int} {xs : (List (List (Int × Int × Int × Int × Int × Int × (Int × Int × Unit) × Unit)))} (hx : lnT tOpSS xs) (h0 : 0 ≤ k) (h1 : k + bndT tOpSS ≤ 4611686018427387904) : FvmarkOpSS N (k, xs, ()) = some ((markE tOpSS k xs).1, (markE tOpSS k xs).2, ()) := by
  have hlim : lim = 2147483648 := rfl
  have hx1 := hx.1
  have hL := mark_loop (f := markE tOpS) (P := lnT tOpS) (B := bndT tOpS) (xs := xs) (n := N) (k := k) (L := fun n k i s => lvmarkOpSS_0 N n (k, (i : Int), s, ())) (fin := fun k s => (k, s, ())) (by omega) hx.2 (bndT_nn _) (fun k x hx => markE_rng k hx)
    (fun n k i s h hP hk0 hk hw => by
      have hb := hk; simp only [bndT] at hb
      have m0 := wmarkOpS_ok hN (k := k) (xs := s[i]) hP (by omega) (by simp only [bndT]; omega)
      have b0 := markE_rng (t := tOpS) (x := s[i]) (k) hP
      simp only [bndT] at b0
      simp only [lvmarkOpSS_0, Int.ofNat_lt, h, decide_true, cond_true, Int.natCast_nonneg, Int.toNat_natCast, List.length_set, getD_set_i h, List.set_set, getD_lt h, hw, Option.bind_some, m0, show decide ((3 : Int) = 0) = false from rfl, cond_false]
      try simp only [markE])
    (fun n k s => by simp [lvmarkOpSS_0]) (by omega) h0 (by
      have : bndT tOpS * (xs.length : Int) ≤ bndT tOpS * 1048576 := Int.mul_le_mul_of_nonneg_left (by omega) (bndT_nn _)
      have e2 : bndT tOpSS = 1048576 * bndT tOpS := rfl
      omega)
  simp only [Int.natCast_zero] at hL
  simp only [FvmarkOpSS, hL, Option.bind_some, markE]
end
section
variable {N : Nat} (hN : lim < N)
include hN

theorem wmarkEventS_ok {k : Int} {xs : (List (Int × Int × Int × Int × Unit))} (hx : lnT tEventS xs) (h0 : 0 ≤ k) (h1 : k + bndT tEventS ≤ 4611686018427387904) : FvmarkEventS N (k, xs, ()) = some ((markE tEventS k xs).1, (markE tEventS k xs).2, ()) := by
  have hlim : lim = 2147483648 := rfl
  have hx1 := hx.1
  have hL := mark_loop (f := markE tEvent) (P := lnT tEvent) (B := bndT tEvent) (xs := xs) (n := N) (k := k) (L := fun n k i s => lvmarkEventS_0 N n (k, (i : Int), s, ())) (fin := fun k s => (k, s, ())) (by omega) hx.2 (bndT_nn _) (fun k x hx => markE_rng k hx)
    (fun n k i s h hP hk0 hk hw => by
      have hb := hk; simp only [bndT] at hb
      have w0 : w64 (k + 1) = k + 1 := w64_id (by omega) (by omega)
      have w1 : w64 (k + 1 + 1) = k + 1 + 1 := w64_id (by omega) (by omega)
      have w2 : w64 (k + 1 + 1 + 1) = k + 1 + 1 + 1 := w64_id (by omega) (by omega)
      have w3 : w64 (k + 1 + 1 + 1 + 1) = k + 1 + 1 + 1 + 1 := w64_id (by omega) (by omega)
      simp only [lvmarkEventS_0, Int.ofNat_lt, h, decide_true, cond_true, Int.natCast_nonneg, Int.toNat_natCast, List.length_set, getD_set_i h, List.set_set, getD_lt h, hw, Option.bind_some, w0, w1, w2, w3, show decide ((3 : Int) = 0) = false from rfl, cond_false]
      try simp only [markE])
    (fun n k s => by simp [lvmarkEventS_0]) (by omega) h0 (by
      have : bndT tEvent * (xs.length : Int) ≤ bndT tEvent * 1048576 := Int.mul_le_mul_of_nonneg_left (by omega) (bndT_nn _)
      have e2 : bndT tEventS = 1048576 * bndT tEvent := rfl
      omega)
  simp only [Int.natCast_zero] at hL
  simp only [FvmarkEventS, hL, Option.bind_some, markE]
end
section
variable {N : Nat} (hN : lim < N)
include hN

theorem vmarkIntS_ok {k : Int} {xs : List Int} (hl : xs.length ≤ lim) (h0 : 0 ≤ k) (h1 : k < 2305843009213693952) : FvmarkIntS N (k, xs, ()) = some (k + xs.length, markI k xs.length, ()) := by
  have hlim : lim = 2147483648 := rfl
  have key : ∀ (n i : Nat) (k : Int) (s : List Int), i ≤ s.length → s.length - i < n → s.length ≤ lim → 0 ≤ k → k < 2305843009213693952 + i → lvmarkIntS_0 N n (k, (i : Int), s, ()) = some (k + (s.length - i : Nat), s.take i ++ markI k (s.length - i), ()) := by
    intro n
    induction n with
    | zero => intro i k s _ h; exact absurd h (Nat.not_lt_zero _)
    | succ n ih =>
      intro i k s hi hn hs hk hk'
      by_cases h : i < s.length
      · have w1 : w64 ((i : Int) + 1) = ((i + 1 : Nat) : Int) := w64_succ (by omega)
        have w2 : w64 (k + 1) = k + 1 := w64_id (by omega) (by omega)
        have := ih (i + 1) (k + 1) (s.set i k) (by simp; omega) (by simp; omega) (by simpa using hs) (by omega) (by omega)
        simp only [lvmarkIntS_0, w1, w2]
        simp only [Int.ofNat_lt, h, decide_true, cond_true, Int.natCast_nonneg, Int.toNat_natCast, this, List.length_set, set_take h]
        have e : s.length - i = (s.length - (i + 1)) + 1 := by omega
        rw [e]
        simp only [markI, List.append_assoc, List.cons_append, List.nil_append]
        congr 2
        omega
      · have : i = s.length := by omega
        subst this
        simp [lvmarkIntS_0, markI]
  have := key N 0 k xs (by omega) (by omega) hl h0 (by omega)
  simp only [Int.natCast_zero, Nat.sub_zero, List.take_zero, List.nil_append] at this
  simp [FvmarkIntS, this]
end
section
variable {N : Nat} (hN : lim < N)
include hN

theorem vmarkNodeS_ok {k : Int} {xs : List Nd} (hl : xs.length ≤ 1048576) (hx : ∀ x ∈ xs, smN x) (h0 : 0 ≤ k) (h1 : k < 1000000000000) : FvmarkNodeS N (k, xs, ()) = some ((markNs k xs).1, (markNs k xs).2, ()) := by
  have hlim : lim = 2147483648 := rfl
  have key : ∀ (n i : Nat) (k : Int) (s : List Nd), i ≤ s.length → s.length - i < n → s.length ≤ 1048576 → (∀ x ∈ s.drop i, smN x) → 0 ≤ k → k < 1000000000000 + 2097152 * i →
      lvmarkNodeS_0 N n (k, (i : Int), s, ()) = some ((markNs k (s.drop i)).1, s.take i ++ (markNs k (s.drop i)).2, ()) := by
    intro n
    induction n with
    | zero => intro i k s _ h; exact absurd h (Nat.not_lt_zero _)
    | succ n ih =>
      intro i k s hi hn hs hx hk hk'
      by_cases h : i < s.length
      · have w1 : w64 ((i : Int) + 1) = ((i + 1 : Nat) : Int) := w64_succ (by omega)
        rw [drop_at h] at hx
        have hxi := hx s[i] List.mem_cons_self
        simp only [smN, sm] at hxi
        have e1 := vmarkIntS_ok hN (k := k) (xs := s[i].1) (by omega) hk (by omega)
        have e2 := vmarkIntS_ok hN (k := k + s[i].1.length) (xs := s[i].2.1) (by omega) (by omega) (by omega)
        have := ih (i + 1) (k + s[i].1.length + s[i].2.1.length) ((s.set i (markI k s[i].1.length, s[i].2)).set i (markI k s[i].1.length, markI (k + s[i].1.length) s[i].2.1.length, ())) (by simp; omega) (by simp; omega) (by simpa using hs)
          (by
            rw [List.drop_set_of_lt (by omega), List.drop_set_of_lt (by omega)]
            exact fun x hx' => hx x (List.mem_cons_of_mem _ hx')) (by omega) (by omega)
        have hset : i < (s.set i (markI k s[i].1.length, s[i].2)).length := by simpa using h
        rw [List.drop_set_of_lt (by omega), List.drop_set_of_lt (by omega), set_take hset, List.take_set_of_le (Nat.le_refl _)] at this
        rw [drop_at h]
        simp only [markNs]
        simp only [lvmarkNodeS_0, w1]
        simp only [Int.ofNat_lt, h, decide_true, cond_true, Int.natCast_nonneg, Int.toNat_natCast, getD_lt h, e1, Option.bind_some, hset, getD_lt hset, List.getElem_set_self, e2, this]
        simp
      · have : i = s.length := by omega
        subst this
        simp [lvmarkNodeS_0, markNs]
  have := key N 0 k xs (by omega) (by omega) hl (by simpa using hx) h0 (by omega)
  simp only [Int.natCast_zero, List.drop_zero, List.take_zero, List.nil_append] at this
  simp [FvmarkNodeS, this]

theorem vmarkIntSS_ok {k : Int} {xs : List (List Int)} (hl : xs.length ≤ 1048576) (hx : ∀ x ∈ xs, sm x.length) (h0 : 0 ≤ k) (h1 : k < 10000000000000) : FvmarkIntSS N (k, xs, ()) = some ((markIs k xs).1, (markIs k xs).2, ()) := by
  have hlim : lim = 2147483648 := rfl
  have key : ∀ (n i : Nat) (k : Int) (s : List (List Int)), i ≤ s.length → s.length - i < n → s.length ≤ 1048576 → (∀ x ∈ s.drop i, sm x.length) → 0 ≤ k → k < 10000000000000 + 1048576 * i →
      lvmarkIntSS_0 N n (k, (i : Int), s, ()) = some ((markIs k (s.drop i)).1, s.take i ++ (markIs k (s.drop i)).2, ()) := by
    intro n
    induction n with
    | zero => intro i k s _ h; exact absurd h (Nat.not_lt_zero _)
    | succ n ih =>
      intro i k s hi hn hs hx hk hk'
      by_cases h : i < s.length
      · have w1 : w64 ((i : Int) + 1) = ((i + 1 : Nat) : Int) := w64_succ (by omega)
        rw [drop_at h] at hx
        have hxi := hx s[i] List.mem_cons_self
        simp only [sm] at hxi
        have e1 := vmarkIntS_ok hN (k := k) (xs := s[i]) (by omega) hk (by omega)
        have := ih (i + 1) (k + s[i].length) (s.set i (markI k s[i].length)) (by simp; omega) (by simp; omega) (by simpa using hs)
          (by
            rw [List.drop_set_of_lt (by omega)]
            exact fun x hx' => hx x (List.mem_cons_of_mem _ hx')) (by omega) (by omega)
        rw [List.drop_set_of_lt (by omega), set_take h] at this
        rw [drop_at h]
        simp only [markIs]
        simp only [lvmarkIntSS_0, w1]
        simp only [Int.ofNat_lt, h, decide_true, cond_true, Int.natCast_nonneg, Int.toNat_natCast, getD_lt h, e1, Option.bind_some, this]
        simp
      · have : i = s.length := by omega
        subst this
        simp [lvmarkIntSS_0, markIs]
  have := key N 0 k xs (by omega) (by omega) hl (by simpa using hx) h0 (by omega)
  simp only [Int.natCast_zero, List.drop_zero, List.take_zero, List.nil_append] at this
  simp [FvmarkIntSS, this]

theorem vmarkGraph_ok {k : Int} {g : Gr} (hs : smG g) (h0 : 0 ≤ k) (h1 : k < 1000) : FvmarkGraph N (k, g.1, g.2.1, g.2.2.1, ()) = some ((markGr k g).1, (markGr k g).2) := by
  obtain ⟨a1, a2, a3, a4, a5⟩ := hs
  have b1 := markNs_rng (xs := g.1) k a2
  simp only [sm] at a1 a3 a5
  have b2 := markIs_rng (xs := g.2.1) (markNs k g.1).1 a4
  have c1 : (2097152 : Int) * g.1.length ≤ 2097152 * 1048576 := by omega
  have c2 : (1048576 : Int) * g.2.1.length ≤ 1048576 * 1048576 := by omega
  simp [FvmarkGraph, markGr, vmarkNodeS_ok hN a1 a2 h0 (by omega), vmarkIntSS_ok hN a3 a4 (k := (markNs k g.1).1) (by omega) (by omega), vmarkIntS_ok hN (k := (markIs (markNs k g.1).1 g.2.1).1) (xs := g.2.2.1) (by rw [lim_eq]; omega) (by omega) (by omega)]
end
section
variable {N : Nat} (hN : lim < N)
include hN

theorem vheldIntS_ok {k : Int} {n : Nat} (hl : n ≤ lim) (h0 : 0 ≤ k) (h1 : k < 2305843009213693952) : FvheldIntS N (markI k n, k, ()) = some (k + n, ()) := by
  have hlim : lim = 2147483648 := rfl
  have hlen := markI_len n k
  have key : ∀ (m i : Nat), i ≤ n → n - i < m → lvheldIntS_0 N m (markI k n, k + i, (i : Int), ()) = some (.inl (k + n, ())) := by
    intro m
    induction m with
    | zero => intro i _ h; exact absurd h (Nat.not_lt_zero _)
    | succ m ih =>
      intro i hi hm
      by_cases h : i < n
      · have w1 : w64 ((i : Int) + 1) = ((i + 1 : Nat) : Int) := w64_succ (by omega)
        have w2 : w64 (k + i + 1) = k + ((i + 1 : Nat) : Int) := by rw [w64_id (by omega) (by omega)]; omega
        have h' : i < (markI k n).length := by omega
        have := ih (i + 1) (by omega) (by omega)
        simp only [lvheldIntS_0, w1, w2]
        simp only [Int.ofNat_lt, h', decide_true, cond_true, Int.natCast_nonneg, Int.toNat_natCast, getD_lt h', markI_get n k i h', bif_bne, if_true, this]
      · have : i = n := by omega
        subst this
        simp [lvheldIntS_0, hlen]
  have := key N 0 (by omega) (by omega)
  simp only [Int.natCast_zero, Int.add_zero] at this
  simp [FvheldIntS, this]
end
section
variable {N : Nat} (hN : lim < N)
include hN

theorem vheldNodeS_ok {k : Int} {xs : List Nd} (hl : xs.length ≤ 1048576) (hx : ∀ x ∈ xs, smN x) (h0 : 0 ≤ k) (h1 : k < 1000000000000) : FvheldNodeS N ((markNs k xs).2, k, ()) = some ((markNs k xs).1, ()) := by
  have hlim : lim = 2147483648 := rfl
  have key : ∀ (ys pre : List Nd) (n : Nat) (j : Int), (∀ x ∈ ys, smN x) → pre.length + ys.length ≤ 1048576 → ys.length < n → 0 ≤ j → j < 1000000000000 + 2097152 * pre.length →
      lvheldNodeS_0 N n (pre ++ (markNs j ys).2, j, (pre.length : Int), ()) = some (.inl ((markNs j ys).1, ())) := by
    intro ys
    induction ys with
    | nil =>
      intro pre n j _ _ hn _ _
      obtain ⟨n, rfl⟩ : ∃ n', n = n' + 1 := ⟨n - 1, by simp at hn; omega⟩
      simp [lvheldNodeS_0, markNs]
    | cons y ys ih =>
      intro pre n j hx hl hn hj hj'
      obtain ⟨n, rfl⟩ : ∃ n', n = n' + 1 := ⟨n - 1, by simp at hn; omega⟩
      have hy := hx y (by simp)
      simp only [smN, sm] at hy
      simp only [List.length_cons] at hl hn
      have w1 : w64 ((pre.length : Int) + 1) = ((pre.length + 1 : Nat) : Int) := w64_succ (by omega)
      have e1 := vheldIntS_ok hN (k := j) (n := y.1.length) (by omega) hj (by omega)
      have e2 := vheldIntS_ok hN (k := j + y.1.length) (n := y.2.1.length) (by omega) (by omega) (by omega)
      have := ih (pre ++ [(markI j y.1.length, markI (j + y.1.length) y.2.1.length, ())]) n (j + y.1.length + y.2.1.length) (fun x hx' => hx x (by simp [hx'])) (by simp; omega) (by omega) (by omega) (by simp; omega)
      simp only [List.append_assoc, List.cons_append, List.nil_append, List.length_append, List.length_singleton] at this
      simp only [markNs]
      generalize hq : (markNs (j + y.1.length + y.2.1.length) ys).2 = q at this ⊢
      have hlt : pre.length < (pre ++ (markI j y.1.length, markI (j + y.1.length) y.2.1.length, ()) :: q).length := by simp
      have hget : (pre ++ (markI j y.1.length, markI (j + y.1.length) y.2.1.length, ()) :: q)[pre.length] = (markI j y.1.length, markI (j + y.1.length) y.2.1.length, ()) := by simp
      have n1 : ¬ j + (y.1.length : Int) < 0 := by omega
      have n2 : ¬ j + (y.1.length : Int) + (y.2.1.length : Int) < 0 := by omega
      simp only [lvheldNodeS_0, w1]
      simp only [Int.ofNat_lt, hlt, decide_true, cond_true, Int.natCast_nonneg, Int.toNat_natCast, getD_lt hlt, hget, e1, Option.bind_some, n1, decide_false, cond_false, e2, n2, this]
  have := key xs [] N k hx (by simpa using hl) (by omega) h0 (by simpa using h1)
  simp only [List.length_nil, Int.natCast_zero, List.nil_append] at this
  simp [FvheldNodeS, this]

theorem vheldIntSS_ok {k : Int} {xs : List (List Int)} (hl : xs.length ≤ 1048576) (hx : ∀ x ∈ xs, sm x.length) (h0 : 0 ≤ k) (h1 : k < 10000000000000) : FvheldIntSS N ((markIs k xs).2, k, ()) = some ((markIs k xs).1, ()) := by
  have hlim : lim = 2147483648 := rfl
  have key : ∀ (ys pre : List (List Int)) (n : Nat) (j : Int), (∀ x ∈ ys, sm x.length) → pre.length + ys.length ≤ 1048576 → ys.length < n → 0 ≤ j → j < 10000000000000 + 1048576 * pre.length →
      lvheldIntSS_0 N n (pre ++ (markIs j ys).2, j, (pre.length : Int), ()) = some (.inl ((markIs j ys).1, ())) := by
    intro ys
    induction ys with
    | nil =>
      intro pre n j _ _ hn _ _
      obtain ⟨n, rfl⟩ : ∃ n', n = n' + 1 := ⟨n - 1, by simp at hn; omega⟩
      simp [lvheldIntSS_0, markIs]
    | cons y ys ih =>
      intro pre n j hx hl hn hj hj'
      obtain ⟨n, rfl⟩ : ∃ n', n = n' + 1 := ⟨n - 1, by simp at hn; omega⟩
      have hy := hx y (by simp)
      simp only [sm] at hy
      simp only [List.length_cons] at hl hn
      have w1 : w64 ((pre.length : Int) + 1) = ((pre.length + 1 : Nat) : Int) := w64_succ (by omega)
      have e1 := vheldIntS_ok hN (k := j) (n := y.length) (by omega) hj (by omega)
      have := ih (pre ++ [markI j y.length]) n (j + y.length) (fun x hx' => hx x (by simp [hx'])) (by simp; omega) (by omega) (by omega) (by simp; omega)
      simp only [List.append_assoc, List.cons_append, List.nil_append, List.length_append, List.length_singleton] at this
      simp only [markIs]
      generalize hq : (markIs (j + y.length) ys).2 = q at this ⊢
      have hlt : pre.length < (pre ++ markI j y.length :: q).length := by simp
      have hget : (pre ++ markI j y.length :: q)[pre.length] = markI j y.length := by simp
      have n1 : ¬ j + (y.length : Int) < 0 := by omega
      simp only [lvheldIntSS_0, w1]
      simp only [Int.ofNat_lt, hlt, decide_true, cond_true, Int.natCast_nonneg, Int.toNat_natCast, getD_lt hlt, hget, e1, Option.bind_some, n1, decide_false, cond_false, this]
  have := key xs [] N k hx (by simpa using hl) (by omega) h0 (by simpa using h1)
  simp only [List.length_nil, Int.natCast_zero, List.nil_append] at this
  simp [FvheldIntSS, this]

theorem vheldGraph_ok {k : Int} {g : Gr} (hs : smG g) (h0 : 0 ≤ k) (h1 : k < 1000) : FvheldGraph N ((markGr k g).2, k, ()) = some ((markGr k g).1, ()) ∧ 0 ≤ (markGr k g).1 := by
  obtain ⟨a1, a2, a3, a4, a5⟩ := hs
  have b1 := markNs_rng (xs := g.1) k a2
  simp only [sm] at a1 a3 a5
  have b2 := markIs_rng (xs := g.2.1) (markNs k g.1).1 a4
  have c1 : (2097152 : Int) * g.1.length ≤ 2097152 * 1048576 := by omega
  have c2 : (1048576 : Int) * g.2.1.length ≤ 1048576 * 1048576 := by omega
  have n1 : ¬ (markNs k g.1).1 < 0 := by omega
  have n2 : ¬ (markIs (markNs k g.1).1 g.2.1).1 < 0 := by omega
  have n3 : ¬ (markIs (markNs k g.1).1 g.2.1).1 + (g.2.2.1.length : Int) < 0 := by omega
  refine ⟨?_, by simp only [markGr]; omega⟩
  simp [FvheldGraph, markGr, vheldNodeS_ok hN a1 a2 h0 (by omega), vheldIntSS_ok hN a3 a4 (k := (markNs k g.1).1) (by omega) (by omega), vheldIntS_ok hN (k := (markIs (markNs k g.1).1 g.2.1).1) (n := g.2.2.1.length) (by rw [lim_eq]; omega) (by omega) (by omega), n1, n2, n3]
end
section
variable {N : Nat} (hN : lim < N)
include hN

theorem wheldEventS_ok {k : Int} {xs : (List (Int × Int × Int × Int × Unit))} (hx : lnT tEventS xs) (h0 : 0 ≤ k) (h1 : k + bndT tEventS ≤ 4611686018427387904) : FvheldEventS N ((markE tEventS k xs).2, k, ()) = some ((markE tEventS k xs).1, ()) := by
  have hlim : lim = 2147483648 := rfl
  have hx1 := hx.1
  have hL := held_loop (f := markE tEvent) (P := lnT tEvent) (B := bndT tEvent) (xs := xs) (n := N) (k := k) (L := fun n s k i => lvheldEventS_0 N n (s, k, (i : Int), ())) (fin := fun k => .inl (k, ())) (by omega) hx.2 (bndT_nn _) (fun k x hx => markE_rng k hx)
    (fun n k i s h x hg hP hk0 hk hw => by
      have hb := hk; simp only [bndT] at hb
      have w0 : w64 (k + 1) = k + 1 := w64_id (by omega) (by omega)
      have w1 : w64 (k + 1 + 1) = k + 1 + 1 := w64_id (by omega) (by omega)
      have w2 : w64 (k + 1 + 1 + 1) = k + 1 + 1 + 1 := w64_id (by omega) (by omega)
      have w3 : w64 (k + 1 + 1 + 1 + 1) = k + 1 + 1 + 1 + 1 := w64_id (by omega) (by omega)
      have hE : markE tEvent k x = (k + 1 + 1 + 1 + 1, (k, k + 1, k + 1 + 1, k + 1 + 1 + 1, ())) := rfl
      rw [hE] at hg ⊢
      simp only [lvheldEventS_0, Int.ofNat_lt, h, decide_true, cond_true, Int.natCast_nonneg, Int.toNat_natCast, getD_lt h, hg, hw, Option.bind_some, w0, w1, w2, w3, bif_bne, if_true, decide_false, cond_false, beq_self_eq_true, Bool.not_true, show decide ((3 : Int) = 0) = false from rfl])
    (fun n k s => by simp [lvheldEventS_0]) (by omega) h0 (by
      have : bndT tEvent * (xs.length : Int) ≤ bndT tEvent * 1048576 := Int.mul_le_mul_of_nonneg_left (by omega) (bndT_nn _)
      have e2 : bndT tEventS = 1048576 * bndT tEvent := rfl
      omega)
  simp only [Int.natCast_zero] at hL
  unfold FvheldEventS
  dsimp only
  rw [show markE tEventS k xs = mkS (markE tEvent) k xs from rfl, hL]
  rfl
end
section
variable {N : Nat} (hN : lim < N)
include hN

theorem ln_ev {evs : List Evx} (h : evs.length ≤ 1048576) : lnT tEventS evs := ⟨h, fun x _ => by simp [lnT]⟩

theorem storyP_sm {c : Cfx} {ps : List (List Opx)} {evs : List Evx} : smG ((storyP c ps evs).2.1, (storyP c ps evs).2.2.1, (storyP c ps evs).2.2.2.1, ()) ∧ (storyP c ps evs).2.2.2.2.1.length ≤ 120 := by
  have h0 : smG (([], [], [], ()) : Gr) := ⟨by simp [sm], by simp, by simp [sm], by simp, by simp [sm]⟩
  unfold storyP
  split
  · rename_i h
    have hc := h.1
    simp only [progsOkB, Bool.and_eq_true] at hc
    have hT := confOk_iff.1 hc.1
    cases hp : playS c.2.1 ps evs (graph0 c.2.1) [] with
    | none => exact ⟨h0, by simp⟩
    | some r =>
      have := playS_sm hN hp (graph0_sm hT.2.2.2.1)
      exact ⟨this.1, by have := this.2; simp at this; dsimp only; omega⟩
  · exact ⟨h0, by simp⟩

theorem FnExactStoryPlain_ok {c : Cfx} {ps : List (List Opx)} {evs : List Evx} (h1 : Wf tOpSS ps) (h2 : Wf tEventS evs) : FvFnExactStoryPlain N (c, ps, evs, ()) = some (true, ()) := by
  unfold FvFnExactStoryPlain
  obtain ⟨r1, e1, h⟩ := wszOpSS_ok hN h1 (left := 1048576) (by omega) (by omega)
  simp only [e1, Option.bind_some]
  rcases h with h | ⟨c1, d1, l1⟩
  · simp only [h, decide_true, cond_true]
  obtain ⟨r2, e2, h⟩ := wszEventS_ok hN h2 (left := r1) c1 d1
  have n1 : ¬ r1 < 0 := by omega
  simp only [n1, e2, decide_false, cond_false, Option.bind_some]
  rcases h with h | ⟨c2, d2, l2⟩
  · simp only [h, decide_true, cond_true]
  have n2 : ¬ r2 < 0 := by omega
  have es := sStoryPlain_ok hN (c := c) (ps := ps) (evs := evs) l1.1
  have ei := iStoryPlain_ok hN (c := c) (ps := ps) (evs := evs) l1.1
  obtain ⟨sg, sl⟩ := storyP_sm hN (c := c) (ps := ps) (evs := evs)
  generalize storyP c ps evs = z at es ei sg sl
  obtain ⟨b, p, q, r, out, ⟨⟩⟩ := z
  dsimp only at es ei sg sl
  obtain ⟨ca, cb, cc, ⟨⟩⟩ := c
  have t0 := wtoConfig_ok hN (x := (ca, cb, cc, ())) ⟨trivial, trivial, trivial, trivial⟩
  have t1 := wtoOpSS_ok hN l1
  have t2 := wtoEventS_ok hN l2
  have q1 := veqGraph_ok hN (h := (p, q, r, ())) sg
  have q2 := weqEventS_ok hN (ys := out) (ln_ev (hN := hN) (evs := out) (by omega))
  have q3 := weqOpSS_ok hN (ys := ps) l1
  have q4 := weqEventS_ok hN (ys := evs) l2
  have k1 := wmarkOpSS_ok hN (k := 1) l1 (by omega) (by simp only [bndT]; omega)
  have b1 := markE_rng (t := tOpSS) (x := ps) 1 l1
  simp only [bndT] at b1
  have k2 := wmarkEventS_ok hN (k := (markE tOpSS 1 ps).1) l2 (by omega) (by simp only [bndT]; omega)
  have b2 := markE_rng (t := tEventS) (x := evs) (markE tOpSS 1 ps).1 l2
  have k3 := vmarkGraph_ok hN (k := 1) sg (by omega) (by omega)
  obtain ⟨k4, b4⟩ := vheldGraph_ok hN (k := 1) sg (by omega) (by omega)
  have b5 := markGr_rng (hN := hN) (k := 1) sg
  have n3 : ¬ (markE tEventS (markE tOpSS 1 ps).1 evs).1 < 0 := by omega
  have k5 := wmarkEventS_ok hN (k := (markGr 1 (p, q, r, ())).1) (xs := out) (ln_ev (hN := hN) (by omega)) b4 (by simp only [bndT]; omega)
  have k6 := wheldEventS_ok hN (k := (markGr 1 (p, q, r, ())).1) (xs := out) (ln_ev (hN := hN) (by omega)) b4 (by simp only [bndT]; omega)
  have b6 := markE_rng (t := tEventS) (x := out) (markGr 1 (p, q, r, ())).1 (ln_ev (hN := hN) (by omega))
  have n4 : ¬ (markGr 1 (p, q, r, ())).1 < 0 := by omega
  have n5 : ¬ (markE tEventS (markGr 1 (p, q, r, ())).1 out).1 < 0 := by omega
  generalize markE tEventS (markGr 1 (p, q, r, ())).1 out = m5 at k5 k6 n5 b6
  generalize markGr 1 (p, q, r, ()) = m4 at k3 k4 k5 k6 n4
  obtain ⟨m4k, m4p, m4q, m4r, ⟨⟩⟩ := m4
  simp only [n2, t0, t1, t2, es, ei, q1, q2, q3, q4, k1, k2, k3, k4, k5, k6, n3, n4, n5, decide_true, decide_false, Bool.not_true, cond_false, Option.bind_some, Sum.elim_inl, beq_self_eq_true, bif_bne, if_true]
end
end Go.Fl
