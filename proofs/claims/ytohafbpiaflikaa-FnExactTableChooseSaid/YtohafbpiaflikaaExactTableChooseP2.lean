/- Proved: for every input the law FnExactTableChoose returns true and leaves its arguments as they were. Part 2: the functions that the law reaches, as plain functions, and plain laws about them; no conditions. -/
import Derived.Test.YtohafbpiaflikaaExactTableChooseP1
set_option linter.all false
set_option linter.all false
set_option maxRecDepth 10000
namespace Go.Fl
open Go

/-- A law's inputs are at most so large. -/
abbrev sm (n : Nat) : Prop := n ≤ 1048576

abbrev Nd := List Int × List Int × Unit

abbrev Gr := List Nd × List (List Int) × List Int × Unit

def smN (x : Nd) : Prop := sm x.1.length ∧ sm x.2.1.length

def smG (g : Gr) : Prop := sm g.1.length ∧ (∀ x ∈ g.1, smN x) ∧ sm g.2.1.length ∧ (∀ x ∈ g.2.1, sm x.length) ∧ sm g.2.2.1.length

abbrev ml (n : Nat) : Prop := n ≤ 9223372036854775807

def mlN (x : Nd) : Prop := ml x.1.length ∧ ml x.2.1.length

def mlG (g : Gr) : Prop := ml g.1.length ∧ (∀ x ∈ g.1, mlN x) ∧ ml g.2.1.length ∧ (∀ x ∈ g.2.1, ml x.length) ∧ ml g.2.2.1.length

/-- A loop that tells what is left, or stops. -/
theorem size_loop {α : Type} {xs : List α} (P : α → Prop) {L : Nat → Nat → Int → Option ((Int × Unit) ⊕ (Int × Unit))} (hl : xs.length ≤ lim)
    (h1 : ∀ n i (h : i < xs.length) (left : Int), 0 ≤ left → left ≤ 1048576 → w64 ((i : Int) + 1) = ((i + 1 : Nat) : Int) →
      L (n + 1) i left = some (.inr (-1, ())) ∨ ∃ r, 0 ≤ r ∧ r ≤ left ∧ P xs[i] ∧ L (n + 1) i left = L n (i + 1) r)
    (h3 : ∀ n left, L (n + 1) xs.length left = some (.inl (left, ()))) {n : Nat} (hn : xs.length < n) {left : Int} (h0 : 0 ≤ left) (h1' : left ≤ 1048576) :
    L n 0 left = some (.inr (-1, ())) ∨ ∃ r, 0 ≤ r ∧ r ≤ left ∧ (∀ x ∈ xs, P x) ∧ L n 0 left = some (.inl (r, ())) := by
  have key : ∀ n i left, 0 ≤ left → left ≤ 1048576 → i ≤ xs.length → xs.length - i < n → L n i left = some (.inr (-1, ())) ∨ ∃ r, 0 ≤ r ∧ r ≤ left ∧ (∀ x ∈ xs.drop i, P x) ∧ L n i left = some (.inl (r, ())) := by
    intro n
    induction n with
    | zero => intro i left _ _ _ h; exact absurd h (Nat.not_lt_zero _)
    | succ n ih =>
      intro i left h0 h2 hi hn
      by_cases h : i < xs.length
      · rcases h1 n i h left h0 h2 (w64_succ (by have : lim = 2147483648 := rfl; omega)) with h4 | ⟨r, h4, h5, h6, h7⟩
        · exact .inl h4
        · rw [h7]
          rcases ih (i + 1) r h4 (by omega) (by omega) (by omega) with h8 | ⟨q, h8, h9, h10, h11⟩
          · exact .inl h8
          · refine .inr ⟨q, h8, by omega, ?_, h11⟩
            rw [drop_at h]
            exact List.forall_mem_cons.2 ⟨h6, h10⟩
      · have : i = xs.length := by omega
        subst this
        exact .inr ⟨left, h0, Int.le_refl _, by simp, h3 _ _⟩
  simpa using key n 0 left h0 h1' (by omega) (by omega)

theorem sm_lim {n : Nat} (h : sm n) : n ≤ lim := by simp only [sm] at h; rw [lim_eq]; omega


def okR (m : Nat) (l : List Int) : Bool := l.all fun x => decide (-1 ≤ x) && decide (x < (m : Int))

def okN (m : Nat) (x : Nd) : Bool := decide (x.1.length ≤ 4) && (decide (x.2.1.length ≤ 4) && okR m x.1)

def okG (g : Gr) : Bool :=
  decide (g.1.length ≤ 200) && (decide (1 ≤ g.2.1.length) && (decide (g.2.1.length ≤ 3) && (g.1.all (okN g.1.length) && (g.2.1.all (fun r => decide (r.length ≤ 8) && okR g.1.length r) &&
    (decide (g.2.2.1.length ≤ 8) && (g.2.2.1.all (fun x => decide (0 ≤ x)) && okR g.1.length g.2.2.1))))))

theorem okG_iff {g : Gr} : okG g = true ↔ g.1.length ≤ 200 ∧ 1 ≤ g.2.1.length ∧ g.2.1.length ≤ 3 ∧ (∀ x ∈ g.1, x.1.length ≤ 4 ∧ x.2.1.length ≤ 4 ∧ okR g.1.length x.1 = true) ∧
    (∀ r ∈ g.2.1, r.length ≤ 8 ∧ okR g.1.length r = true) ∧ g.2.2.1.length ≤ 8 ∧ (∀ x ∈ g.2.2.1, 0 ≤ x) ∧ okR g.1.length g.2.2.1 = true := by
  simp only [okG, okN, Bool.and_eq_true, decide_eq_true_eq, List.all_eq_true]

theorem okR_iff {m : Nat} {l : List Int} : okR m l = true ↔ ∀ x ∈ l, -1 ≤ x ∧ x < (m : Int) := by
  simp only [okR, List.all_eq_true, Bool.and_eq_true, decide_eq_true_eq]


abbrev Mst := List Int × List Bool

/-- A reference is met. -/
def meet (st : Mst) (r : Int) : Mst := if 0 ≤ r ∧ st.2.getD r.toNat false = false then (st.1 ++ [r], st.2.set r.toNat true) else st

structure Met (m : Nat) (st : Mst) : Prop where
  len : st.2.length = m
  cnt : st.1.length + st.2.count false = m
  rng : ∀ r ∈ st.1, 0 ≤ r ∧ r < (m : Int)
  had : ∀ r : Int, 0 ≤ r → (st.2.getD r.toNat false = true ↔ r ∈ st.1)
  nd : st.1.Nodup

theorem count_set_true : ∀ {l : List Bool} {i : Nat}, i < l.length → l.getD i false = false → (l.set i true).count false + 1 = l.count false
  | [], _, h, _ => by simp at h
  | b :: l, 0, _, h => by simp at h; subst h; simp
  | b :: l, i + 1, h, h2 => by
    have ih := count_set_true (l := l) (i := i) (by simpa using h) (by simpa using h2)
    simp only [List.set_cons_succ, List.count_cons]
    omega

theorem Met.le {m : Nat} {st : Mst} (h : Met m st) : st.1.length ≤ m := by have := h.cnt; omega

theorem Met.meet {m : Nat} {st : Mst} (h : Met m st) {r : Int} (hr : r < (m : Int)) : Met m (meet st r) := by
  unfold Fl.meet
  split
  · rename_i hc
    have hl : r.toNat < st.2.length := by rw [h.len]; omega
    have hn : ¬ r ∈ st.1 := fun hm => by
      have := (h.had r hc.1).2 hm
      rw [hc.2] at this
      cases this
    refine ⟨by simp [h.len], ?_, ?_, ?_, ?_⟩
    · have := count_set_true hl hc.2
      have := h.cnt
      simp only [List.length_append, List.length_singleton]
      omega
    · intro x hx
      simp only [List.mem_append, List.mem_singleton] at hx
      rcases hx with hx | rfl
      · exact h.rng x hx
      · exact ⟨hc.1, hr⟩
    · intro x hx
      simp only [List.mem_append, List.mem_singleton]
      rw [← h.had x hx]
      simp only [List.getD_eq_getElem?_getD, List.getElem?_set]
      by_cases e : r.toNat = x.toNat
      · have : x = r := by omega
        subst this
        simp [hl]
      · have : ¬ x = r := fun e' => e (by rw [e'])
        simp [e, this]
    · rw [List.nodup_append]
      refine ⟨h.nd, by simp, ?_⟩
      intro a ha b hb e
      simp at hb
      subst hb
      subst e
      exact hn ha
  · exact h

theorem Met.meets {m : Nat} {l : List Int} : ∀ {st : Mst}, Met m st → (∀ r ∈ l, r < (m : Int)) → Met m (l.foldl Fl.meet st) := by
  induction l with
  | nil => intro st h _; exact h
  | cons r l ih => intro st h hl; exact ih (h.meet (hl r (by simp))) fun x hx => hl x (by simp [hx])

/-- Met is only more and more. -/
theorem meet_pre (st : Mst) (r : Int) : st.1 <+: (meet st r).1 := by
  unfold meet
  split
  · exact List.prefix_append _ _
  · exact List.prefix_refl _

theorem meets_pre {l : List Int} : ∀ {st : Mst}, st.1 <+: (l.foldl meet st).1 := by
  induction l with
  | nil => intro st; exact List.prefix_refl _
  | cons r l ih => intro st; exact (meet_pre st r).trans ih

theorem meet_mem {m : Nat} {st : Mst} (h : Met m st) {r : Int} (h0 : 0 ≤ r) : r ∈ (meet st r).1 := by
  unfold meet
  split
  · simp
  · rename_i hc
    exact (h.had r h0).1 (by
      cases hb : st.2.getD r.toNat false with
      | true => rfl
      | false => exact absurd ⟨h0, hb⟩ hc)

theorem meets_mem {m : Nat} {l : List Int} : ∀ {st : Mst}, Met m st → (∀ r ∈ l, r < (m : Int)) → ∀ r ∈ l, 0 ≤ r → r ∈ (l.foldl meet st).1 := by
  induction l with
  | nil => intro st _ _ r hr; simp at hr
  | cons x l ih =>
    intro st h hl r hr h0
    have h1 := h.meet (hl x (by simp))
    simp only [List.mem_cons] at hr
    rcases hr with rfl | hr
    · exact (meets_pre (l := l)).subset (meet_mem h h0)
    · exact ih h1 (fun y hy => hl y (by simp [hy])) r hr h0

theorem meet_sub {st : Mst} {r x : Int} (hx : x ∈ (meet st r).1) : x ∈ st.1 ∨ (x = r ∧ 0 ≤ r) := by
  unfold meet at hx
  split at hx
  · rename_i hc
    simp only [List.mem_append, List.mem_singleton] at hx
    rcases hx with hx | hx
    · exact .inl hx
    · exact .inr ⟨hx, hc.1⟩
  · exact .inl hx

theorem meets_sub {l : List Int} : ∀ {st : Mst} {x : Int}, x ∈ (l.foldl meet st).1 → x ∈ st.1 ∨ (x ∈ l ∧ 0 ≤ x) := by
  induction l with
  | nil => intro st x hx; exact .inl hx
  | cons r l ih =>
    intro st x hx
    rcases ih hx with h | ⟨h, h0⟩
    · rcases meet_sub h with h | ⟨rfl, h0⟩
      · exact .inl h
      · exact .inr ⟨by simp, h0⟩
    · exact .inr ⟨by simp [h], h0⟩

/-- What a node leads to. -/
def refsOf (g : Gr) (r : Int) : List Int := (g.1.getD r.toNat ([], [], ())).1

/-- The met are gone through. -/
def walk (R : Int → List Int) : Nat → Nat → Mst → Mst
  | 0, _, st => st
  | n + 1, i, st => if i < st.1.length then walk R n (i + 1) ((R (st.1.getD i 0)).foldl meet st) else st

def met0 (m : Nat) : Mst := ([], List.replicate m false)

theorem met0_ok (m : Nat) : Met m (met0 m) := by
  refine ⟨by simp [met0], by simp [met0], by simp [met0], ?_, by simp [met0]⟩
  intro r _
  simp only [met0, List.getD_eq_getElem?_getD, List.getElem?_replicate]
  split <;> simp

theorem walk_met {m : Nat} {R : Int → List Int} (hR : ∀ r, 0 ≤ r → r < (m : Int) → ∀ x ∈ R r, x < (m : Int)) : ∀ (n i : Nat) {st : Mst}, Met m st → Met m (walk R n i st)
  | 0, _, _, h => h
  | n + 1, i, st, h => by
    unfold walk
    split
    · rename_i hi
      refine walk_met hR n (i + 1) (h.meets ?_)
      rw [getD_lt hi]
      exact hR _ (h.rng _ (List.getElem_mem hi)).1 (h.rng _ (List.getElem_mem hi)).2
    · exact h

theorem walk_pre {R : Int → List Int} : ∀ (n i : Nat) {st : Mst}, st.1 <+: (walk R n i st).1
  | 0, _, st => List.prefix_refl _
  | n + 1, i, st => by
    unfold walk
    split
    · exact (meets_pre (l := R (st.1.getD i 0))).trans (walk_pre n (i + 1))
    · exact List.prefix_refl _

/-- What is behind the places that were gone through, was met. -/
theorem walk_closed {m : Nat} {R : Int → List Int} (hR : ∀ r, 0 ≤ r → r < (m : Int) → ∀ x ∈ R r, x < (m : Int)) : ∀ (n i : Nat) {st : Mst}, Met m st → m - i < n →
    (∀ j (hj : j < st.1.length), j < i → ∀ x ∈ R st.1[j], 0 ≤ x → x ∈ st.1) → ∀ r ∈ (walk R n i st).1, ∀ x ∈ R r, 0 ≤ x → x ∈ (walk R n i st).1
  | 0, _, _, _, h, _ => absurd h (Nat.not_lt_zero _)
  | n + 1, i, st, h, hn, hc => by
    unfold walk
    split
    · rename_i hi
      have hb : ∀ x ∈ R (st.1.getD i 0), x < (m : Int) := by
        rw [getD_lt hi]
        exact hR _ (h.rng _ (List.getElem_mem hi)).1 (h.rng _ (List.getElem_mem hi)).2
      have hle := h.le
      refine walk_closed hR n (i + 1) (h.meets hb) (by omega) ?_
      intro j hj hji x hx h0
      have hp := meets_pre (l := R (st.1.getD i 0)) (st := st)
      rcases Nat.lt_or_ge j i with hlt | hge
      · have hj' : j < st.1.length := by omega
        have e : ((R (st.1.getD i 0)).foldl meet st).1[j] = st.1[j] := (hp.getElem hj').symm
        rw [e] at hx
        exact hp.subset (hc j hj' hlt x hx h0)
      · have : j = i := by omega
        subst this
        have e : ((R (st.1.getD j 0)).foldl meet st).1[j] = st.1[j] := (hp.getElem hi).symm
        rw [e] at hx
        exact meets_mem h hb x (by rw [getD_lt hi]; exact hx) h0
    · rename_i hi
      intro r hr x hx h0
      obtain ⟨j, hj, rfl⟩ := List.getElem_of_mem hr
      exact hc j hj (by omega) x hx h0

/-- Whatever holds of the first ones and is handed on, holds of all. -/
theorem walk_ind {R : Int → List Int} {P : Int → Prop} (hP : ∀ r, P r → ∀ x ∈ R r, 0 ≤ x → P x) : ∀ (n i : Nat) {st : Mst}, (∀ r ∈ st.1, P r) → ∀ r ∈ (walk R n i st).1, P r
  | 0, _, _, h => h
  | n + 1, i, st, h => by
    unfold walk
    split
    · rename_i hi
      refine walk_ind hP n (i + 1) fun r hr => ?_
      rcases meets_sub hr with h1 | ⟨h1, h0⟩
      · exact h r h1
      · rw [getD_lt hi] at h1
        exact hP _ (h _ (List.getElem_mem hi)) r h1 h0
    · exact h

def begin0 (g : Gr) : Mst := g.2.2.1.foldl meet (g.2.1.foldl (fun s l => l.foldl meet s) (met0 g.1.length))

/-- The nodes that are reached, as they are met. -/
def order (g : Gr) : List Int := (walk (refsOf g) (g.1.length + 1) 0 (begin0 g)).1

theorem refs_rng {g : Gr} (h : okG g = true) (r : Int) : ∀ x ∈ refsOf g r, x < (g.1.length : Int) := by
  obtain ⟨_, _, _, h4, _⟩ := okG_iff.1 h
  intro x hx
  unfold refsOf at hx
  by_cases hr : r.toNat < g.1.length
  · rw [getD_lt hr] at hx
    exact (okR_iff.1 (h4 _ (List.getElem_mem hr)).2.2 x hx).2
  · rw [List.getD_eq_getElem?_getD, List.getElem?_eq_none (by omega)] at hx
    simp at hx

theorem roots_met {m : Nat} {ls : List (List Int)} : ∀ {st : Mst}, Met m st → (∀ l ∈ ls, ∀ x ∈ l, x < (m : Int)) → Met m (ls.foldl (fun s l => l.foldl meet s) st) := by
  induction ls with
  | nil => intro st h _; exact h
  | cons l ls ih => intro st h hl; exact ih (h.meets (hl l (by simp))) fun x hx => hl x (by simp [hx])

theorem roots_pre {ls : List (List Int)} : ∀ {st : Mst}, st.1 <+: (ls.foldl (fun s l => l.foldl meet s) st).1 := by
  induction ls with
  | nil => intro st; exact List.prefix_refl _
  | cons r l ih => intro st; exact meets_pre.trans ih

theorem roots_mem {m : Nat} {ls : List (List Int)} : ∀ {st : Mst}, Met m st → (∀ l ∈ ls, ∀ x ∈ l, x < (m : Int)) → ∀ l ∈ ls, ∀ r ∈ l, 0 ≤ r → r ∈ (ls.foldl (fun s l => l.foldl meet s) st).1 := by
  induction ls with
  | nil => intro st _ _ r hr; simp at hr
  | cons x ls ih =>
    intro st h hl l hm r hr h0
    have h1 := h.meets (hl x (by simp))
    simp only [List.mem_cons] at hm
    rcases hm with rfl | hm
    · exact (roots_pre (ls := ls)).subset (meets_mem h (hl l (by simp)) r hr h0)
    · exact ih h1 (fun y hy => hl y (by simp [hy])) l hm r hr h0

theorem roots_sub {ls : List (List Int)} : ∀ {st : Mst} {x : Int}, x ∈ (ls.foldl (fun s l => l.foldl meet s) st).1 → x ∈ st.1 ∨ ∃ l ∈ ls, x ∈ l ∧ 0 ≤ x := by
  induction ls with
  | nil => intro st x hx; exact .inl hx
  | cons r l ih =>
    intro st x hx
    rcases ih hx with h | ⟨l', h, h0⟩
    · rcases meets_sub h with h | h
      · exact .inl h
      · exact .inr ⟨r, by simp, h⟩
    · exact .inr ⟨l', by simp [h], h0⟩

theorem rootsrng {g : Gr} (h : okG g = true) : ∀ l ∈ g.2.1, ∀ x ∈ l, x < (g.1.length : Int) := fun l hl x hx => by
  obtain ⟨_, _, _, _, h5, _⟩ := okG_iff.1 h
  exact (okR_iff.1 (h5 l hl).2 x hx).2

theorem pinsrng {g : Gr} (h : okG g = true) : ∀ x ∈ g.2.2.1, x < (g.1.length : Int) := fun x hx => by
  obtain ⟨_, _, _, _, _, _, _, h8⟩ := okG_iff.1 h
  exact (okR_iff.1 h8 x hx).2

theorem begin0_ok {g : Gr} (h : okG g = true) : Met g.1.length (begin0 g) :=
  (roots_met (met0_ok _) (rootsrng h)).meets (pinsrng h)

theorem order_met {g : Gr} (h : okG g = true) : Met g.1.length (walk (refsOf g) (g.1.length + 1) 0 (begin0 g)) :=
  walk_met (fun r _ _ => refs_rng h r) _ _ (begin0_ok h)

theorem order_rng {g : Gr} (h : okG g = true) : ∀ r ∈ order g, 0 ≤ r ∧ r < (g.1.length : Int) := (order_met h).rng

theorem order_nodup {g : Gr} (h : okG g = true) : (order g).Nodup := (order_met h).nd

theorem order_le {g : Gr} (h : okG g = true) : (order g).length ≤ g.1.length := (order_met h).le

theorem order_closed {g : Gr} (h : okG g = true) : ∀ r ∈ order g, ∀ x ∈ refsOf g r, 0 ≤ x → x ∈ order g :=
  walk_closed (fun r _ _ => refs_rng h r) _ _ (begin0_ok h) (by omega) fun j _ hj => absurd hj (Nat.not_lt_zero _)

theorem order_roots {g : Gr} (h : okG g = true) : ∀ l ∈ g.2.1, ∀ x ∈ l, 0 ≤ x → x ∈ order g := fun l hl x hx h0 =>
  (walk_pre _ _).subset (meets_pre.subset (roots_mem (met0_ok _) (rootsrng h) l hl x hx h0))

theorem order_pins {g : Gr} (h : okG g = true) : ∀ x ∈ g.2.2.1, x ∈ order g := fun x hx => by
  obtain ⟨_, _, _, _, _, _, h7, _⟩ := okG_iff.1 h
  exact (walk_pre _ _).subset (meets_mem (roots_met (met0_ok _) (rootsrng h)) (pinsrng h) x hx (h7 x hx))

/-- The reached are the least that holds what is begun with and is closed. -/
theorem order_ind {g : Gr} {P : Int → Prop} (hr : ∀ l ∈ g.2.1, ∀ x ∈ l, 0 ≤ x → P x) (hp : ∀ x ∈ g.2.2.1, 0 ≤ x → P x) (hP : ∀ r, P r → ∀ x ∈ refsOf g r, 0 ≤ x → P x) : ∀ r ∈ order g, P r :=
  walk_ind hP _ _ fun r h => by
    rcases meets_sub h with h | ⟨h, h0⟩
    · rcases roots_sub h with h | ⟨l, hl, h, h0⟩
      · simp [met0] at h
      · exact hr l hl r h h0
    · exact hp r h h0


abbrev Opx := Int × Int × Int × Int × Int × Int × (Int × Int × Unit) × Unit
def shOk (s : Int × Int × Unit) : Bool := decide (0 ≤ s.1) && (decide (s.1 ≤ 4) && (decide (0 ≤ s.2.1) && decide (s.2.1 ≤ 4)))
def opOk (o : Opx) : Bool := decide (1 ≤ o.1) && (decide (o.1 ≤ 11) && (!(decide (o.1 = 1)) || shOk o.2.2.2.2.2.2.1))
/-- A place of a list. -/
def inB (i : Int) (n : Nat) : Prop := 0 ≤ i ∧ i < (n : Int)
instance (i : Int) (n : Nat) : Decidable (inB i n) := by unfold inB; infer_instance
/-- The code told ahead of an operation. -/
def beginC (o : Opx) (rs : List Int) (nil : Int) : Int :=
  if (o.1 = 8 ∧ rs.length = 0) ∨ (o.1 ≠ 1 ∧ o.1 ≠ 8 ∧ ¬ inB o.2.1 rs.length) ∨ ((o.1 = 3 ∨ o.1 = 6 ∨ o.1 = 7) ∧ ¬ inB o.2.2.1 rs.length) ∨ (o.1 = 7 ∧ ¬ inB o.2.2.2.1 rs.length) then 2
  else if o.1 ≠ 1 ∧ o.1 ≠ 6 ∧ o.1 ≠ 8 ∧ o.1 ≠ 9 ∧ rs.getD o.2.1.toNat 0 = nil then 3
  else if (o.1 = 1 ∨ o.1 = 2 ∨ o.1 = 9) ∧ rs.length = 8 then 5
  else 0
/-- The last place of a number. -/
def lastFrom : List Int → Int → Int → Int → Int
  | [], _, _, at' => at'
  | x :: l, a, i, at' => lastFrom l a (i + 1) (if x = a then i else at')
def lastP (l : List Int) (a : Int) : Int := lastFrom l a 0 (-1)

abbrev nd0 : Nd := ([], [], ())
/-- What an operation does when no code was told ahead. -/
def actG (g : Gr) (t : Int) (o : Opx) (rs : List Int) : Int × Int × Gr :=
  let ra := rs.getD o.2.1.toNat 0
  let rb := rs.getD o.2.2.1.toNat 0
  let rc := rs.getD o.2.2.2.1.toNat 0
  let n := g.1.getD ra.toNat nd0
  let f := o.2.2.2.2.1
  if o.1 = 1 then if g.1.length = 200 then (0, 6, g) else (0, 0, g.1 ++ [(List.replicate o.2.2.2.2.2.2.1.1.toNat (-1), List.replicate o.2.2.2.2.2.2.1.2.1.toNat 0, ())], g.2.1.set t.toNat (rs ++ [(g.1.length : Int)]), g.2.2.1, ())
  else if o.1 = 2 then if inB f n.1.length then (0, 0, g.1, g.2.1.set t.toNat (rs ++ [n.1.getD f.toNat 0]), g.2.2.1, ()) else (0, 4, g)
  else if o.1 = 3 then if inB f n.1.length then (0, 0, g.1.set ra.toNat (n.1.set f.toNat rb, n.2), g.2.1, g.2.2.1, ()) else (0, 4, g)
  else if o.1 = 4 then if inB f n.2.1.length then (0, 0, g.1.set ra.toNat (n.1, n.2.1.set f.toNat o.2.2.2.2.2.1, ()), g.2.1, g.2.2.1, ()) else (0, 4, g)
  else if o.1 = 5 then if inB f n.2.1.length then (n.2.1.getD f.toNat 0, 0, g) else (0, 4, g)
  else if o.1 = 6 then (if ra = rb then 1 else 0, 0, g)
  else if o.1 = 7 then if inB f n.1.length then (if n.1.getD f.toNat 0 = rb then (1, 0, g.1.set ra.toNat (n.1.set f.toNat rc, n.2), g.2.1, g.2.2.1, ()) else (0, 0, g)) else (0, 4, g)
  else if o.1 = 8 then (0, 0, g.1, g.2.1.set t.toNat (rs.take (rs.length - 1)), g.2.2.1, ())
  else if o.1 = 9 then (0, 0, g.1, g.2.1.set t.toNat (rs ++ [ra]), g.2.2.1, ())
  else if o.1 = 10 then if g.2.2.1.length = 8 then (0, 7, g) else (0, 0, g.1, g.2.1, g.2.2.1 ++ [ra], ())
  else if lastP g.2.2.1 ra < 0 then (0, 7, g) else (0, 0, g.1, g.2.1, g.2.2.1.take (lastP g.2.2.1 ra).toNat ++ g.2.2.1.drop ((lastP g.2.2.1 ra).toNat + 1), ())

/-- An operation on a graph: the answer, the code, the graph behind it. -/
def doG (g : Gr) (t : Int) (o : Opx) : Int × Int × Gr :=
  if okG g = true ∧ inB t g.2.1.length ∧ opOk o = true then
    (if beginC o (g.2.1.getD t.toNat []) (-1) = 0 then actG g t o (g.2.1.getD t.toNat []) else (0, beginC o (g.2.1.getD t.toNat []) (-1), g))
  else (0, 1, [], [], [], ())

theorem lastFrom_rng : ∀ (l : List Int) (a i at' : Int), -1 ≤ at' → at' < i → -1 ≤ lastFrom l a i at' ∧ lastFrom l a i at' < i + l.length
  | [], _, _, _, h, h' => by simp only [lastFrom, List.length_nil]; omega
  | x :: l, a, i, at', h, h' => by
    simp only [lastFrom]
    have := lastFrom_rng l a (i + 1) (if x = a then i else at') (by split <;> omega) (by split <;> omega)
    simp only [List.length_cons]
    omega

theorem opOk_kind {o : Opx} (h : opOk o = true) : 1 ≤ o.1 ∧ o.1 ≤ 11 := by
  simp only [opOk, Bool.and_eq_true, decide_eq_true_eq] at h
  exact ⟨h.1, h.2.1⟩

theorem kind_cases {k : Int} (h1 : 1 ≤ k) (h2 : k ≤ 11) : k = 1 ∨ k = 2 ∨ k = 3 ∨ k = 4 ∨ k = 5 ∨ k = 6 ∨ k = 7 ∨ k = 8 ∨ k = 9 ∨ k = 10 ∨ k = 11 := by omega

/-- It comes to an end, and what it comes to is so. -/
def Ret {α : Type} (o : Option α) (P : α → Prop) : Prop := ∃ r, o = some r ∧ P r

theorem Ret.pure {α : Type} {a : α} {P : α → Prop} (h : P a) : Ret (some a) P := ⟨a, rfl, h⟩
theorem Ret.bind {α β : Type} {o : Option α} {k : α → Option β} {P : β → Prop} (Q : α → Prop) (h : Ret o Q) (hk : ∀ r, Q r → Ret (k r) P) : Ret (o.bind k) P := by
  obtain ⟨r, e, hr⟩ := h
  rw [e]
  exact hk r hr
theorem Ret.bindE {α β : Type} {o : Option α} {k : α → Option β} {P : β → Prop} {r : α} (e : o = some r) (hk : Ret (k r) P) : Ret (o.bind k) P := by
  rw [e]; exact hk
theorem Ret.mono {α : Type} {o : Option α} {P Q : α → Prop} (h : Ret o P) (hm : ∀ r, P r → Q r) : Ret o Q := by
  obtain ⟨r, e, hr⟩ := h; exact ⟨r, e, hm r hr⟩
theorem Ret.bif {α : Type} {c : Bool} {a b : Option α} {P : α → Prop} (h1 : c = true → Ret a P) (h2 : c = false → Ret b P) : Ret (bif c then a else b) P := by
  cases c with
  | true => exact h1 rfl
  | false => exact h2 rfl
theorem Ret.dec {α : Type} {p : Prop} [Decidable p] {a b : Option α} {P : α → Prop} (h1 : p → Ret a P) (h2 : ¬ p → Ret b P) : Ret (_root_.cond (decide p) a b) P := by
  by_cases h : p
  · simpa [h] using h1 h
  · simpa [h] using h2 h
theorem Ret.guard {α : Type} {p : Prop} [Decidable p] {a : Option α} {P : α → Prop} (hp : p) (h : Ret a P) : Ret (_root_.cond (decide p) a none) P := by
  simpa [hp] using h
theorem Ret.guardN {α : Type} {p : Prop} [Decidable p] {a : Option α} {P : α → Prop} (hp : ¬ p) (h : Ret a P) : Ret (_root_.cond (decide p) none a) P := by
  simpa [hp] using h
theorem Ret.beq {α β : Type} [DecidableEq β] {x y : β} {a b : Option α} {P : α → Prop} (h1 : x = y → Ret a P) (h2 : ¬ x = y → Ret b P) : Ret (_root_.cond (x == y) a b) P := by
  rw [bif_beq]
  by_cases h : x = y
  · simpa [h] using h1 h
  · simpa [h] using h2 h
theorem obind_eq {α β : Type} {o : Option α} {r : α} {k : α → Option β} {z : Option β} (e : o = some r) (h : k r = z) : o.bind k = z := by
  rw [e]; exact h

abbrev Shx := Int × Int × Unit
abbrev Rgx := Int × Int × Int × Int × Int × Unit
def wordsOk (w : List Int) : Bool := decide (w.length % 16 = 0) && (decide (32 ≤ w.length) && decide (w.length ≤ 192))
theorem wordsOk_iff {w : List Int} : wordsOk w = true ↔ w.length % 16 = 0 ∧ 32 ≤ w.length ∧ w.length ≤ 192 := by
  simp only [wordsOk, Bool.and_eq_true, decide_eq_true_eq]
/-- So many words from an address on lie in one region behind the edge. -/
def fitsB (w : List Int) (a n : Int) : Bool := wordsOk w && (decide (1 ≤ n) && (decide (16 ≤ a) && (decide (a < (w.length : Int)) && decide (a % 16 + n ≤ 16))))
theorem fitsB_iff {w : List Int} {a n : Int} : fitsB w a n = true ↔ wordsOk w = true ∧ 1 ≤ n ∧ 16 ≤ a ∧ a < (w.length : Int) ∧ a % 16 + n ≤ 16 := by
  simp only [fitsB, Bool.and_eq_true, decide_eq_true_eq]
def shSz (s : Shx) : Int := if shOk s = true then 2 + s.1 + s.2.1 else 0
def shWd (s : Shx) : Int := if shOk s = true then 16 * s.1 + s.2.1 else -1
theorem shOk_iff {s : Shx} : shOk s = true ↔ 0 ≤ s.1 ∧ s.1 ≤ 4 ∧ 0 ≤ s.2.1 ∧ s.2.1 ≤ 4 := by
  simp only [shOk, Bool.and_eq_true, decide_eq_true_eq]
theorem shSz_rng {s : Shx} : 0 ≤ shSz s ∧ shSz s ≤ 10 := by
  unfold shSz
  split
  · rename_i h; have := shOk_iff.1 h; omega
  · omega
theorem fits_room {w : List Int} {a n : Int} (h : fitsB w a n = true) : a + n ≤ (w.length : Int) ∧ a < 192 ∧ w.length ≤ 192 := by
  obtain ⟨h1, h2, h3, h4, h5⟩ := fitsB_iff.1 h
  obtain ⟨h6, h7, h8⟩ := wordsOk_iff.1 h1
  omega
def thingMake (w : List Int) (a : Int) (s : Shx) : Bool × List Int :=
  if shOk s = true ∧ fitsB w a (shSz s) = true then (true, ((lay w a.toNat (List.replicate (shSz s).toNat 0)).set a.toNat a).set (a + 1).toNat (shWd s)) else (false, [])
def freeRow (r : Nat) : Rgx := (1, -1, 16 * (r : Int), 16 * (r : Int), 0, ())
def edgeRow : Rgx := (0, -1, 0, 0, 0, ())
def tableNew (R : Int) : List Rgx := edgeRow :: (List.range' 1 (R.toNat - 1)).map freeRow
def regBase (r : Int) : Int := if r < 0 ∨ r ≥ 12 then 0 else 16 * r
def regOf (a : Int) : Int := if a < 0 then -1 else a / 16

theorem wlay_len {α : Type} {xs ys : List α} {p : Nat} (h : p + ys.length ≤ xs.length) : (lay xs p ys).length = xs.length := by
  simp only [lay, List.length_append, List.length_take, List.length_drop]
  omega
/-- A loop that sets one place after the other. -/
theorem wlay_set {α : Type} {xs ys : List α} {p : Nat} {x : α} (h : p + ys.length < xs.length) : (lay xs p ys).set (p + ys.length) x = lay xs p (ys ++ [x]) := by
  simp only [lay]
  have e1 : p + ys.length = (xs.take p ++ ys).length := by simp; omega
  conv => lhs; rw [e1]
  rw [List.set_append_right _ _ (Nat.le_refl _), Nat.sub_self]
  have e2 : xs.drop (p + ys.length) = xs[p + ys.length] :: xs.drop (p + ys.length + 1) := List.drop_eq_getElem_cons h
  rw [← e1, e2]
  simp only [List.set_cons_zero, List.length_append, List.length_singleton, List.append_assoc, List.cons_append, List.nil_append]
  rfl

/-- A loop that puts one row behind the other. -/
theorem push_loop {α ρ : Type} {m : Nat} (f : Nat → α) {L : Nat → Nat → List α → Option ρ} {fin : List α → ρ} (hm : m ≤ 1048576)
    (h1 : ∀ n i s, i < m → s.length + 1 ≤ lim → w64 ((i : Int) + 1) = ((i + 1 : Nat) : Int) → L (n + 1) i s = L n (i + 1) (s ++ [f i])) (h3 : ∀ n s, L (n + 1) m s = some (fin s)) :
    ∀ (n i : Nat) (s : List α), i ≤ m → m - i < n → s.length + m ≤ 2097152 + i → L n i s = some (fin (s ++ (List.range' i (m - i)).map f))
  | 0, _, _, _, h, _ => absurd h (Nat.not_lt_zero _)
  | n + 1, i, s, hi, hn, hs => by
    have hlim : lim = 2147483648 := rfl
    by_cases h : i < m
    · rw [h1 n i s h (by omega) (w64_succ (by omega)), push_loop f hm h1 h3 n (i + 1) _ (by omega) (by omega) (by simp; omega)]
      have e : m - i = (m - (i + 1)) + 1 := by omega
      rw [e, List.range'_succ]
      simp
    · have : i = m := by omega
      subst this
      rw [h3]
      simp

abbrev Tgx := Int × Int × Shx × List Int × List Int × Unit
abbrev tg0 : Tgx := (0, 0, (0, 0, ()), [], [], ())
abbrev rg0 : Rgx := (0, 0, 0, 0, 0, ())
def shOf (w : Int) : Option Shx := if 0 ≤ w ∧ w / 16 ≤ 4 ∧ w % 16 ≤ 4 then some (w / 16, w % 16, ()) else none
def thingAt (w : List Int) (a : Int) : Option Tgx :=
  if fitsB w a 2 = true then (match shOf (w.getD (a + 1).toNat 0) with
    | some s => if fitsB w a (shSz s) = true then some (a, w.getD a.toNat 0, s, (w.drop (a.toNat + 2)).take s.1.toNat, (w.drop (a.toNat + 2 + s.1.toNat)).take s.2.1.toNat, ()) else none
    | none => none) else none
/-- Things one behind the other, until 'top'. -/
def thingsFrom (w : List Int) (top : Int) : Nat → Int → Option (List Tgx)
  | 0, _ => none
  | n + 1, a => if a < top then (match thingAt w a with
      | none => none
      | some t => if a + shSz t.2.2.1 > top then none else (thingsFrom w top n (a + shSz t.2.2.1)).map (t :: ·)) else some []
def thingsIn (w : List Int) (r top : Int) : Option (List Tgx) :=
  if wordsOk w = true ∧ 1 ≤ r ∧ r < ((w.length / 16 : Nat) : Int) ∧ 16 * r ≤ top ∧ top ≤ 16 * r + 16 then thingsFrom w top 17 (16 * r) else none
def thingsGo (w : List Int) (tb : List Rgx) : Nat → Nat → Option (List Tgx)
  | 0, _ => some []
  | k + 1, i => match thingsIn w (i : Int) (tb.getD i rg0).2.2.1 with
    | none => none
    | some l => (thingsGo w tb k (i + 1)).map (l ++ ·)
def thingsAll (w : List Int) (tb : List Rgx) : Option (List Tgx) := thingsGo w tb (tb.length - 1) 1

theorem shOf_some {w : Int} {s : Shx} (h : shOf w = some s) : shOk s = true ∧ w = 16 * s.1 + s.2.1 := by
  unfold shOf at h
  split at h
  · simp only [Option.some.injEq] at h
    subst h
    rw [shOk_iff]
    dsimp only
    omega
  · cases h
theorem thingAt_some {w : List Int} {a : Int} {t : Tgx} (h : thingAt w a = some t) : t.1 = a ∧ shOk t.2.2.1 = true ∧ fitsB w a (shSz t.2.2.1) = true ∧ t.2.1 = w.getD a.toNat 0 ∧ t.2.2.2.1.length = t.2.2.1.1.toNat ∧ t.2.2.2.2.1.length = t.2.2.1.2.1.toNat ∧
    2 ≤ shSz t.2.2.1 ∧ shSz t.2.2.1 ≤ 10 := by
  unfold thingAt at h
  split at h
  · split at h
    · rename_i s hs
      split at h
      · rename_i hf
        simp only [Option.some.injEq] at h
        subst h
        obtain ⟨h1, _⟩ := shOf_some hs
        have h2 := shOk_iff.1 h1
        have h3 : shSz s = 2 + s.1 + s.2.1 := by unfold shSz; rw [if_pos h1]
        obtain ⟨g1, g2, g3⟩ := fits_room hf
        obtain ⟨f1, f2, f3, f4, f5⟩ := fitsB_iff.1 hf
        refine ⟨rfl, h1, hf, rfl, ?_, ?_, by dsimp only; omega, by dsimp only; omega⟩
        · simp only [List.length_take, List.length_drop]; omega
        · simp only [List.length_take, List.length_drop]; omega
      · cases h
    · cases h
  · cases h

theorem range_get {w : List Int} : ∀ (n p i : Nat), p + i + n ≤ w.length → (List.range' i n).map (fun j => w.getD (p + j) 0) = (w.drop (p + i)).take n
  | 0, _, _, _ => by simp
  | n + 1, p, i, h => by
    rw [List.range'_succ, List.map_cons, range_get n p (i + 1) (by omega), drop_at (by omega : p + i < w.length), List.take_succ_cons, getD_lt (by omega : p + i < w.length)]
    rfl

/-- Where things begin. -/
theorem thingsFrom_at {w : List Int} {top : Int} : ∀ (n : Nat) (a : Int) (l : List Tgx), thingsFrom w top n a = some l → l.Pairwise (fun x y => x.1 < y.1) ∧ ∀ t ∈ l, a ≤ t.1 ∧ t.1 < top ∧ thingAt w t.1 = some t
  | 0, _, _, h => by simp [thingsFrom] at h
  | n + 1, a, l, h => by
    unfold thingsFrom at h
    split at h
    · rename_i hlt
      split at h
      · cases h
      · rename_i t ht
        split at h
        · cases h
        · simp only [Option.map_eq_some_iff] at h
          obtain ⟨l', h1, rfl⟩ := h
          obtain ⟨e1, _, _, _, _, _, e2, _⟩ := thingAt_some ht
          obtain ⟨p1, p2⟩ := thingsFrom_at n _ l' h1
          refine ⟨List.pairwise_cons.2 ⟨fun y hy => ?_, p1⟩, fun x hx => ?_⟩
          · have := (p2 y hy).1; omega
          · rcases List.mem_cons.1 hx with rfl | hx
            · exact ⟨by omega, by omega, by rw [e1]; exact ht⟩
            · have := p2 x hx; exact ⟨by omega, this.2⟩
    · simp only [Option.some.injEq] at h
      subst h
      exact ⟨List.Pairwise.nil, by simp⟩
theorem thingsFrom_len {w : List Int} {top : Int} : ∀ (n : Nat) (a : Int) (l : List Tgx), thingsFrom w top n a = some l → l.length ≤ n
  | 0, _, _, h => by simp [thingsFrom] at h
  | n + 1, a, l, h => by
    unfold thingsFrom at h
    split at h
    · split at h
      · cases h
      · split at h
        · cases h
        · simp only [Option.map_eq_some_iff] at h
          obtain ⟨l', h1, rfl⟩ := h
          have := thingsFrom_len n _ l' h1
          simp only [List.length_cons]; omega
    · simp only [Option.some.injEq] at h
      subst h
      simp

theorem thingsIn_at {w : List Int} {r top : Int} {l : List Tgx} (h : thingsIn w r top = some l) : l.Pairwise (fun x y => x.1 < y.1) ∧ (∀ t ∈ l, 16 * r ≤ t.1 ∧ t.1 < 16 * r + 16 ∧ t.1 < top ∧ thingAt w t.1 = some t) ∧ l.length ≤ 17 ∧ 1 ≤ r ∧ r < 12 := by
  unfold thingsIn at h
  split at h
  · rename_i hc
    have hw := wordsOk_iff.1 hc.1
    obtain ⟨h1, h2⟩ := thingsFrom_at _ _ _ h
    exact ⟨h1, fun t ht => by have := h2 t ht; exact ⟨this.1, by omega, this.2⟩, thingsFrom_len _ _ _ h, hc.2.1, by omega⟩
  · cases h

theorem thingsGo_at {w : List Int} {tb : List Rgx} : ∀ (k i : Nat) (l : List Tgx), thingsGo w tb k i = some l → l.Pairwise (fun x y => x.1 < y.1) ∧ (∀ t ∈ l, 16 * (i : Int) ≤ t.1 ∧ thingAt w t.1 = some t ∧ t.1 < 16 * ((i : Int) + k)) ∧ l.length ≤ 17 * k
  | 0, _, _, h => by simp only [thingsGo, Option.some.injEq] at h; subst h; simp
  | k + 1, i, l, h => by
    unfold thingsGo at h
    split at h
    · cases h
    · rename_i l1 h1
      simp only [Option.map_eq_some_iff] at h
      obtain ⟨l2, h2, rfl⟩ := h
      obtain ⟨a1, a2, a3, _⟩ := thingsIn_at h1
      obtain ⟨b1, b2, b3⟩ := thingsGo_at k (i + 1) l2 h2
      refine ⟨List.pairwise_append.2 ⟨a1, b1, fun x hx y hy => ?_⟩, fun t ht => ?_, ?_⟩
      · have c1 := a2 x hx
        have c2 := b2 y hy
        omega
      · rcases List.mem_append.1 ht with ht | ht
        · have c1 := a2 t ht; exact ⟨c1.1, c1.2.2.2, by omega⟩
        · have c2 := b2 t ht; exact ⟨by omega, c2.2.1, by omega⟩
      · simp only [List.length_append]; omega

theorem thingsAll_at {w : List Int} {tb : List Rgx} {l : List Tgx} (h : thingsAll w tb = some l) : l.Pairwise (fun x y => x.1 < y.1) ∧ (∀ t ∈ l, 16 ≤ t.1 ∧ thingAt w t.1 = some t ∧ t.1 < 16 * (1 + ((tb.length - 1 : Nat) : Int))) ∧ l.length ≤ 17 * (tb.length - 1) := by
  obtain ⟨h1, h2, h3⟩ := thingsGo_at _ _ _ h
  exact ⟨h1, fun t ht => by have := h2 t ht; exact ⟨by omega, this.2.1, by omega⟩, h3⟩

/-- Things by where they begin. -/
def tmap (l : List Tgx) : List (Int × Tgx) := l.map fun t => (t.1, t)
theorem mset_new {α : Type} {m : List (Int × α)} {a : Int} {x : α} (h : ∀ p ∈ m, p.1 ≠ a) : mset m a x = m ++ [(a, x)] := by
  induction m with
  | nil => rfl
  | cons p r ih =>
    obtain ⟨b, y⟩ := p
    have hb : ¬ a = b := fun e => h (b, y) (by simp) e.symm
    simp only [mset, hb, decide_false, cond_false, List.cons_append]
    rw [ih fun p hp => h p (by simp [hp])]
theorem tmap_get {l : List Tgx} {a : Int} : mget (tmap l) a = l.find? fun t => decide (t.1 = a) := by
  induction l with
  | nil => rfl
  | cons t l ih =>
    simp only [tmap, List.map_cons, mget, List.find?_cons] at ih ⊢
    by_cases h : a = t.1
    · simp [h]
    · have h' : ¬ t.1 = a := fun e => h e.symm
      simp only [h, h', decide_false, cond_false]
      exact ih
theorem tmap_push {l : List Tgx} {t : Tgx} (h : ∀ x ∈ l, x.1 < t.1) : mset (tmap l) t.1 t = tmap (l ++ [t]) := by
  rw [mset_new]
  · simp [tmap]
  · intro p hp
    simp only [tmap, List.mem_map] at hp
    obtain ⟨x, hx, rfl⟩ := hp
    have := h x hx
    dsimp only; omega

def rowOk (i : Nat) (x : Rgx) : Bool :=
  decide (1 ≤ x.1) && (decide (x.1 ≤ 4) && (decide (16 * (i : Int) ≤ x.2.2.1) && (decide (x.2.2.1 ≤ 16 * (i : Int) + 16) && (decide (16 * (i : Int) ≤ x.2.2.2.1) && (decide (x.2.2.2.1 ≤ x.2.2.1) && (decide (0 ≤ x.2.2.2.2.1) && (decide (x.2.2.2.2.1 ≤ x.2.2.1 - 16 * (i : Int)) &&
    ((!(decide (x.1 = 1)) || decide (x.2.2.1 = 16 * (i : Int))) && (if x.1 = 2 then decide (0 ≤ x.2.1) && decide (x.2.1 ≤ 3) else decide (x.2.1 = -1))))))))))
theorem rowOk_iff {i : Nat} {x : Rgx} : rowOk i x = true ↔ 1 ≤ x.1 ∧ x.1 ≤ 4 ∧ 16 * (i : Int) ≤ x.2.2.1 ∧ x.2.2.1 ≤ 16 * (i : Int) + 16 ∧ 16 * (i : Int) ≤ x.2.2.2.1 ∧ x.2.2.2.1 ≤ x.2.2.1 ∧ 0 ≤ x.2.2.2.2.1 ∧ x.2.2.2.2.1 ≤ x.2.2.1 - 16 * (i : Int) ∧
    (x.1 = 1 → x.2.2.1 = 16 * (i : Int)) ∧ ((x.1 = 2 ∧ 0 ≤ x.2.1 ∧ x.2.1 ≤ 3) ∨ (x.1 ≠ 2 ∧ x.2.1 = -1)) := by
  unfold rowOk
  simp only [Bool.and_eq_true, decide_eq_true_eq]
  refine and_congr_right fun _ => and_congr_right fun _ => and_congr_right fun _ => and_congr_right fun _ => and_congr_right fun _ => and_congr_right fun _ => and_congr_right fun _ => and_congr_right fun _ => ?_
  by_cases h2 : x.1 = 2
  · simp [h2]
  · by_cases h1 : x.1 = 1 <;> simp [h1, h2]
/-- An owner that a row ahead has. -/
def hadO (t : List Rgx) (i : Nat) (o : Int) : Bool := ((t.take i).drop 1).any fun x => decide (x.2.1 = o)
def tblGo (t : List Rgx) : Nat → Nat → Bool
  | 0, _ => true
  | k + 1, i => rowOk i (t.getD i rg0) && (!(decide (0 ≤ (t.getD i rg0).2.1) && hadO t i (t.getD i rg0).2.1) && tblGo t k (i + 1))
def tableOk (t : List Rgx) : Bool := decide (2 ≤ t.length) && (decide (t.length ≤ 12) && (decide (t.getD 0 rg0 = edgeRow) && tblGo t (t.length - 1) 1))
theorem hadO_succ {t : List Rgx} {i : Nat} {o : Int} (h1 : 1 ≤ i) (h : i < t.length) : hadO t (i + 1) o = (hadO t i o || decide ((t.getD i rg0).2.1 = o)) := by
  unfold hadO
  rw [List.take_succ_eq_append_getElem h, List.drop_append_of_le_length (by simp; omega), List.any_append, getD_lt h]
  simp
theorem tblGo_row {t : List Rgx} : ∀ (k i : Nat), tblGo t k i = true → ∀ j, i ≤ j → j < i + k → rowOk j (t.getD j rg0) = true
  | 0, _, _, _, h1, h2 => by omega
  | k + 1, i, h, j, h1, h2 => by
    simp only [tblGo, Bool.and_eq_true] at h
    by_cases e : j = i
    · subst e; exact h.1
    · exact tblGo_row k (i + 1) h.2.2 j (by omega) (by omega)
theorem tableOk_iff {t : List Rgx} (h : tableOk t = true) : 2 ≤ t.length ∧ t.length ≤ 12 ∧ t.getD 0 rg0 = edgeRow ∧ ∀ j, 1 ≤ j → j < t.length → rowOk j (t.getD j rg0) = true := by
  simp only [tableOk, Bool.and_eq_true, decide_eq_true_eq] at h
  exact ⟨h.1, h.2.1, h.2.2.1, fun j h1 h2 => tblGo_row _ _ h.2.2.2 j h1 (by omega)⟩
/-- Words, table and marks fit each other. -/
def wholeB (w : List Int) (tb : List Rgx) (mk : List Bool) : Bool := wordsOk w && (tableOk tb && (decide (tb.length * 16 = w.length) && decide (mk.length = w.length)))

theorem all_erase {α : Type} {q : α → Bool} : ∀ {l : List α} {i : Nat} (h : i < l.length), l.all q = (q l[i] && (l.eraseIdx i).all q)
  | [], _, h => absurd h (Nat.not_lt_zero _)
  | x :: l, 0, _ => by simp
  | x :: l, i + 1, h => by
    have hi : i < l.length := by simpa using h
    have := all_erase (q := q) (l := l) (i := i) hi
    simp only [List.all_cons, List.getElem_cons_succ, List.eraseIdx_cons_succ, this]
    cases q x <;> cases q l[i] <;> rfl
/-- Going over a map, in whatever order. -/
theorem anyall_loop {α ρ : Type} {P : α → Prop} (q : α → Bool) {L : Nat → List α → Option ρ} {yes no : ρ} (h0 : ∀ n, L (n + 1) [] = some yes)
    (h1 : ∀ n rest, rest ≠ [] → (∀ x ∈ rest, P x) → ∃ f, L (n + 1) rest = anyOf rest.length f ∧ ∀ i (h : i < rest.length), (q rest[i] = true → f i = L n (rest.eraseIdx i)) ∧ (q rest[i] = false → f i = some no)) :
    ∀ (n : Nat) (rest : List α), rest.length < n → (∀ x ∈ rest, P x) → L n rest = some (if rest.all q = true then yes else no)
  | 0, _, h, _ => absurd h (Nat.not_lt_zero _)
  | n + 1, rest, h, hP => by
    by_cases he : rest = []
    · subst he; rw [h0]; simp
    · obtain ⟨f, e, hf⟩ := h1 n rest he hP
      rw [e]
      have hpos : 0 < rest.length := List.length_pos_iff.2 he
      refine anyOf_eq hpos fun i hi => ?_
      obtain ⟨f1, f2⟩ := hf i hi
      rw [all_erase hi]
      cases hq : q rest[i] with
      | false => rw [f2 hq]; simp
      | true =>
        rw [f1 hq, anyall_loop q h0 h1 n (rest.eraseIdx i) (by rw [List.length_eraseIdx_of_lt hi]; omega) (fun x hx => hP x (List.mem_of_mem_eraseIdx hx))]
        simp
theorem find_of_idx {α : Type} {p : α → Bool} : ∀ {l : List α}, l.find? p = (l.findIdx? p).bind fun i => l[i]?
  | [] => by simp
  | x :: l => by
    have ih := find_of_idx (p := p) (l := l)
    simp only [List.find?_cons, List.findIdx?_cons]
    cases hx : p x with
    | true => simp
    | false =>
      simp only [ih]
      cases l.findIdx? p <;> simp

/-- How much of a region lives. -/
def keyR (t : List Rgx) (r : Int) : Int := (t.getD r.toNat rg0).2.2.2.2.1
def candB (t : List Rgx) (held : List Int) (i : Nat) : Bool :=
  decide ((t.getD i rg0).1 = 3) && (decide ((t.getD i rg0).2.2.1 = (t.getD i rg0).2.2.2.1) && (decide ((t.getD i rg0).2.2.2.2.1 < (t.getD i rg0).2.2.1 - 16 * (i : Int)) && !(held.contains (i : Int))))
def cand (t : List Rgx) (held : List Int) : List Int := ((List.range' 1 (t.length - 1)).filter (candB t held)).map fun (i : Nat) => (i : Int)
abbrev Chx := Int × List Int × List Int
def chStep (t : List Rgx) (st : Chx) (r : Int) : Chx :=
  if keyR t r = 0 then (st.1, st.2.1, st.2.2 ++ [r]) else if keyR t r ≤ st.1 then (w64 (st.1 - keyR t r), st.2.1 ++ [r], st.2.2) else st
/-- One row for each of the first so many keys. -/
def bucks (k : Int → Int) (l : List Int) (m : Nat) : List Int := (List.range m).flatMap fun (n : Nat) => l.filter fun r => decide (k r = (n : Int))
def choose (t : List Rgx) (left : Int) (held : List Int) : List Int × List Int :=
  if tableOk t = true then ((bucks (keyR t) (cand t held) 17).foldl (chStep t) (left, [], [])).2 else ([], [])

theorem bucks_succ (k : Int → Int) (l : List Int) (m : Nat) : bucks k l (m + 1) = bucks k l m ++ l.filter fun r => decide (k r = (m : Int)) := by
  simp [bucks, List.range_succ, List.flatMap_append]
theorem bucks_key {k : Int → Int} {l : List Int} : ∀ {m : Nat}, ∀ r ∈ bucks k l m, r ∈ l ∧ 0 ≤ k r ∧ k r < (m : Int)
  | 0, r, h => by simp [bucks] at h
  | m + 1, r, h => by
    rw [bucks_succ] at h
    rcases List.mem_append.1 h with h | h
    · have := bucks_key r h; exact ⟨this.1, this.2.1, by omega⟩
    · simp only [List.mem_filter, decide_eq_true_eq] at h
      exact ⟨h.1, by omega, by omega⟩
/-- One more goes behind all that are not greater. -/
theorem bucks_snoc {k : Int → Int} {l : List Int} {x : Int} (h0 : 0 ≤ k x) : ∀ (m : Nat), ∃ P Q, bucks k l m = P ++ Q ∧ (∀ r ∈ P, k r ≤ k x) ∧ (∀ r ∈ Q, k x < k r) ∧ bucks k (l ++ [x]) m = if k x < (m : Int) then P ++ x :: Q else P ++ Q
  | 0 => ⟨[], [], by simp [bucks], by simp, by simp, by rw [if_neg (by omega)]; simp [bucks]⟩
  | m + 1 => by
    obtain ⟨P, Q, e, hP, hQ, e2⟩ := bucks_snoc (k := k) (l := l) (x := x) h0 m
    rw [bucks_succ, bucks_succ, e, e2, List.filter_append]
    rcases Int.lt_trichotomy (k x) (m : Int) with h | h | h
    · refine ⟨P, Q ++ l.filter fun r => decide (k r = (m : Int)), by simp, hP, fun r hr => ?_, ?_⟩
      · rcases List.mem_append.1 hr with hr | hr
        · exact hQ r hr
        · simp only [List.mem_filter, decide_eq_true_eq] at hr; omega
      · have hne : ¬ k x = (m : Int) := by omega
        rw [if_pos h, if_pos (by omega)]
        simp [hne]
    · have hQ0 : Q = [] := by
        cases Q with
        | nil => rfl
        | cons q Q =>
          have h1 := hQ q (by simp)
          have h2 := (bucks_key (k := k) (l := l) (m := m) q (by rw [e]; simp)).2.2
          omega
      subst hQ0
      refine ⟨P ++ l.filter fun r => decide (k r = (m : Int)), [], by simp, fun r hr => ?_, by simp, ?_⟩
      · rcases List.mem_append.1 hr with hr | hr
        · exact hP r hr
        · simp only [List.mem_filter, decide_eq_true_eq] at hr; omega
      · rw [if_neg (by omega), if_pos (by omega)]
        simp [h]
    · refine ⟨P ++ Q ++ l.filter fun r => decide (k r = (m : Int)), [], by simp, fun r hr => ?_, by simp, ?_⟩
      · rcases List.mem_append.1 hr with hr | hr
        · have := (bucks_key (k := k) (l := l) (m := m) r (by rw [e]; exact hr)).2.2; omega
        · simp only [List.mem_filter, decide_eq_true_eq] at hr; omega
      · have hne : ¬ k x = (m : Int) := by omega
        rw [if_neg (by omega), if_neg (by omega)]
        simp [hne]
theorem bucks_nil {k : Int → Int} {m : Nat} : bucks k [] m = [] := by simp [bucks]
theorem bucks_len {k : Int → Int} : ∀ {l : List Int} {m : Nat}, (∀ r ∈ l, 0 ≤ k r ∧ k r < (m : Int)) → (bucks k l m).length = l.length := by
  intro l m
  have key : ∀ (l pre : List Int), (∀ r ∈ l, 0 ≤ k r ∧ k r < (m : Int)) → (bucks k (pre ++ l) m).length = (bucks k pre m).length + l.length := by
    intro l
    induction l with
    | nil => intro pre _; simp
    | cons x l ih =>
      intro pre h
      have hx := h x (by simp)
      obtain ⟨P, Q, e1, _, _, e2⟩ := bucks_snoc (k := k) (l := pre) (x := x) hx.1 m
      rw [if_pos hx.2] at e2
      have := ih (pre ++ [x]) fun r hr => h r (by simp [hr])
      rw [List.append_assoc, List.singleton_append] at this
      rw [this, e2, e1]
      simp only [List.length_append, List.length_cons]
      omega
  intro h
  have := key l [] h
  simpa [bucks_nil] using this
theorem cand_mem {t : List Rgx} {held : List Int} (ht : tableOk t = true) : ∀ r ∈ cand t held, 0 ≤ r ∧ r.toNat < t.length ∧ 0 ≤ keyR t r ∧ keyR t r < 17 := by
  intro r hr
  simp only [cand, List.mem_map, List.mem_filter, List.mem_range'] at hr
  obtain ⟨i, ⟨⟨j, hj, rfl⟩, hc⟩, rfl⟩ := hr
  have h2 := (tableOk_iff ht).2.2.2 (1 + 1 * j) (by omega) (by omega)
  have h3 := rowOk_iff.1 h2
  simp only [keyR, Int.toNat_natCast]
  omega
theorem foldl_fm {α β : Type} (f : β → α → β) (g : Nat → List α) : ∀ (ns : List Nat) (b : β), (ns.flatMap g).foldl f b = ns.foldl (fun b n => (g n).foldl f b) b
  | [], _ => rfl
  | n :: ns, b => by simp [List.flatMap_cons, List.foldl_append, foldl_fm f g ns]
theorem chStep_len {t : List Rgx} : ∀ {l : List Int} {st : Chx}, (l.foldl (chStep t) st).2.1.length ≤ st.2.1.length + l.length ∧ (l.foldl (chStep t) st).2.2.length ≤ st.2.2.length + l.length
  | [], st => by simp
  | r :: l, st => by
    have ih := chStep_len (t := t) (l := l) (st := chStep t st r)
    have h : (chStep t st r).2.1.length ≤ st.2.1.length + 1 ∧ (chStep t st r).2.2.length ≤ st.2.2.length + 1 := by
      unfold chStep
      split
      · simp
      · split <;> simp
    simp only [List.foldl_cons, List.length_cons]
    omega

section
variable {N : Nat}
end

section
variable {N : Nat} (hN : lim < N)
theorem iRegionBase_ok {r : Int} : FiRegionBase N (r, ()) = some (regBase r, ()) := by
  unfold FiRegionBase regBase
  dsimp only
  by_cases h1 : r < 0
  · simp [h1]
  · by_cases h2 : r ≥ 12
    · simp only [h1, h2, decide_true, decide_false, cond_true, cond_false, or_true, if_true]
    · have e : w64 (r * 16) = 16 * r := by rw [w64_id (by omega) (by omega)]; omega
      simp only [h1, h2, decide_false, cond_false, or_self, if_false, e]
include hN
end

abbrev Stx := List Int × List Rgx × List Bool × Int × Bool × Bool × Bool × Int × List (List Int × Int × Bool × Int × Unit) × List Int × List Int × Int × Int × Unit
theorem wholeB_iff {w : List Int} {tb : List Rgx} {mk : List Bool} : wholeB w tb mk = true ↔ wordsOk w = true ∧ tableOk tb = true ∧ tb.length * 16 = w.length ∧ mk.length = w.length := by
  simp only [wholeB, Bool.and_eq_true, decide_eq_true_eq]
theorem ibeq {a b : Int} : (a == b) = decide (a = b) := by by_cases h : a = b <;> simp [h]

section
variable {N : Nat} (hN : lim < N)
include hN

theorem iRegion_ok_ok {x : Rgx} {i : Nat} (hi : i < 12) : FiRegion_ok N (x, (i : Int), ()) = some (rowOk i x, ()) := by
  have eb : regBase (i : Int) = 16 * (i : Int) := by unfold regBase; rw [if_neg (by omega)]
  obtain ⟨k, o, tp, ta, lv, ⟨⟩⟩ := x
  have w1 : w64 (16 * (i : Int) + 16) = 16 * (i : Int) + 16 := w64_id (by omega) (by omega)
  have hiff := rowOk_iff (i := i) (x := (k, o, tp, ta, lv, ()))
  dsimp only at hiff
  unfold FiRegion_ok
  simp only [iRegionBase_ok, eb, Option.bind_some, w1]
  generalize rowOk i (k, o, tp, ta, lv, ()) = rv at hiff ⊢
  have no : ¬ (rv = true) → rv = false := by simp
  by_cases h1 : k < 1
  · rw [no (by rw [hiff]; omega)]; simp [h1]
  by_cases h2 : k > 4
  · rw [no (by rw [hiff]; omega)]; simp [h1, h2]
  by_cases h3 : tp < 16 * (i : Int)
  · rw [no (by rw [hiff]; omega)]; simp [h1, h2, h3]
  by_cases h4 : tp > 16 * (i : Int) + 16
  · rw [no (by rw [hiff]; omega)]; simp [h1, h2, h3, h4]
  by_cases h5 : ta < 16 * (i : Int)
  · rw [no (by rw [hiff]; omega)]; simp [h1, h2, h3, h4, h5]
  by_cases h6 : ta > tp
  · rw [no (by rw [hiff]; omega)]; simp [h1, h2, h3, h4, h5, h6]
  by_cases h7 : lv < 0
  · rw [no (by rw [hiff]; omega)]; simp [h1, h2, h3, h4, h5, h6, h7]
  have w2 : w64 (tp - 16 * (i : Int)) = tp - 16 * (i : Int) := w64_id (by omega) (by omega)
  by_cases h8 : lv > tp - 16 * (i : Int)
  · rw [no (by rw [hiff]; omega)]; simp [h1, h2, h3, h4, h5, h6, h7, w2, h8]
  simp only [h1, h2, h3, h4, h5, h6, h7, h8, w2, decide_false, cond_false, Option.bind_some, Sum.elim_inl, bif_beq, bif_bne]
  by_cases k1 : k = 1
  · have k2 : ¬ k = 2 := by omega
    by_cases h9 : tp = 16 * (i : Int)
    · simp only [k1, h9, if_true, Option.bind_some, Sum.elim_inl, show ¬ (1 : Int) = 2 by omega, if_false]
      by_cases h10 : o = -1
      · rw [(hiff.2 (by omega))]; simp [h10]
      · rw [no (by rw [hiff]; omega)]; simp [h10]
    · simp only [k1, h9, if_true, if_false, Option.bind_some, Sum.elim_inr]
      rw [no (by rw [hiff]; omega)]
  · simp only [k1, if_false, Option.bind_some, Sum.elim_inl]
    by_cases k2 : k = 2
    · simp only [k2, if_true]
      by_cases h10 : o ≥ 0
      · by_cases h11 : o ≤ 3
        · rw [hiff.2 (by omega)]; simp [h10, h11]
        · rw [no (by rw [hiff]; omega)]; simp [h10, h11]
      · rw [no (by rw [hiff]; omega)]; simp [h10]
    · simp only [k2, if_false]
      by_cases h10 : o = -1
      · rw [hiff.2 (by omega)]; simp [h10]
      · rw [no (by rw [hiff]; omega)]; simp [h10]

theorem iTable_loop {t : List Rgx} (hl : t.length ≤ 12) : ∀ (k n i : Nat) (m : List (Int × Bool)), 1 ≤ i → i + k = t.length → k < n → (∀ o, 0 ≤ o → (mget m o).getD false = hadO t i o) →
    liTableOk_0 N n (t, (t.length : Int), (i : Int), m, ()) = some (if tblGo t k i = true then .inl () else .inr (false, ()))
  | 0, n, i, m, _, he, hn, _ => by
    obtain ⟨n, rfl⟩ : ∃ n', n = n' + 1 := ⟨n - 1, by omega⟩
    have : ¬ (i : Int) < (t.length : Int) := by omega
    simp [liTableOk_0, this, tblGo]
  | k + 1, n, i, m, h1, he, hn, hm => by
    obtain ⟨n, rfl⟩ : ∃ n', n = n' + 1 := ⟨n - 1, by omega⟩
    have hlt : i < t.length := by omega
    have hlt' : (i : Int) < (t.length : Int) := by omega
    have i0 : ¬ (i : Int) = 0 := by omega
    have e1 : w64 ((i : Int) + 1) = ((i + 1 : Nat) : Int) := w64_succ (by omega)
    have eg : t.getD i (0, 0, 0, 0, 0, ()) = t.getD i rg0 := rfl
    unfold liTableOk_0 tblGo
    dsimp only
    have eta : ∀ x : Rgx, (x.1, x.2.1, x.2.2.1, x.2.2.2.1, x.2.2.2.2.1, ()) = x := fun x => rfl
    simp only [hlt', hlt, decide_true, cond_true, Int.natCast_nonneg, Int.toNat_natCast, eg, bif_beq, i0, if_false, eta, iRegion_ok_ok hN (show i < 12 by omega), Option.bind_some]
    cases hr : rowOk i (t.getD i rg0) with
    | false => simp
    | true =>
      have hm' : ∀ o, 0 ≤ o → (mget (mset m (t.getD i rg0).2.1 true) o).getD false = hadO t (i + 1) o := by
        intro o ho
        rw [mget_mset, hadO_succ h1 hlt, ← hm o ho]
        by_cases e : o = (t.getD i rg0).2.1
        · rw [if_pos e]; simp [e]
        · have : ¬ (t.getD i rg0).2.1 = o := fun h => e h.symm
          rw [if_neg e]; simp [-List.getD_eq_getElem?_getD, this]
      have ih := iTable_loop hl k n (i + 1) _ (by omega) (by omega) (by omega) hm'
      simp only [Bool.not_true, cond_false, e1, Bool.true_and]
      generalize t.getD i rg0 = x at *
      by_cases ho : x.2.1 ≥ 0
      · rw [hm _ ho]
        cases hh : hadO t i x.2.1 with
        | true =>
          have : decide (0 ≤ x.2.1) = true := by simpa using ho
          simp [ho, this]
        | false =>
          simp only [ho, decide_true, cond_true, cond_false, ih, Bool.and_false, Bool.not_false, Bool.true_and]
      · have : decide (0 ≤ x.2.1) = false := by simp; omega
        simp only [ho, decide_false, cond_false, ih, this, Bool.false_and, Bool.not_false, Bool.true_and]

theorem iTableOk_ok {t : List Rgx} (hl : t.length ≤ 1048576) : FiTableOk N (t, ()) = some (tableOk t, ()) := by
  have hlim : lim = 2147483648 := rfl
  unfold FiTableOk tableOk
  by_cases h1 : (t.length : Int) < 2
  · have : ¬ 2 ≤ t.length := by omega
    simp [h1, this]
  by_cases h2 : (t.length : Int) > 12
  · have : ¬ t.length ≤ 12 := by omega
    simp [h1, h2, this]
  have h3 : 2 ≤ t.length := by omega
  have h4 : t.length ≤ 12 := by omega
  have h5 : 0 < t.length := by omega
  have hL := iTable_loop hN h4 (t.length - 1) (N - 1) 1 (mset [] (t.getD 0 rg0).2.1 true)
  simp only [h1, h2, h3, h4, h5, decide_true, decide_false, cond_true, cond_false, Bool.true_and, Fiedge, Option.bind_some, show (0 : Int).toNat = 0 from rfl, Int.le_refl]
  have eg : t.getD 0 (0, 0, 0, 0, 0, ()) = t.getD 0 rg0 := rfl
  rw [eg]
  have hedge : (((t.getD 0 rg0).1 == 0) && (((t.getD 0 rg0).2.1 == -1) && (((t.getD 0 rg0).2.2.1 == 0) && (((t.getD 0 rg0).2.2.2.1 == 0) && (((t.getD 0 rg0).2.2.2.2.1 == 0) && true))))) = decide (t.getD 0 rg0 = edgeRow) := by
    generalize t.getD 0 rg0 = x
    obtain ⟨a, b, c, d, e, ⟨⟩⟩ := x
    simp only [edgeRow, Prod.mk.injEq, and_true, Bool.and_true, Bool.decide_and, ibeq]
  rw [hedge]
  by_cases he : t.getD 0 rg0 = edgeRow
  · have hN1 : N = (N - 1) + 1 := by omega
    have hL0 : liTableOk_0 N N (t, (t.length : Int), 0, [], ()) = some (if tblGo t (t.length - 1) 1 = true then .inl () else .inr (false, ())) := by
      have key : ∀ n, liTableOk_0 N (n + 1) (t, (t.length : Int), 0, [], ()) = liTableOk_0 N n (t, (t.length : Int), 1, [], ()) := by
        intro n
        have h6 : (0 : Int) < (t.length : Int) := by omega
        simp [liTableOk_0, h6, h5, w64_id]
      rw [show liTableOk_0 N N = liTableOk_0 N ((N - 1) + 1) by rw [← hN1], key]
      have := iTable_loop hN h4 (t.length - 1) (N - 1) 1 [] (by omega) (by omega) (by omega) (fun o _ => by simp [mget, hadO])
      simpa using this
    simp only [he, decide_true, Bool.not_true, cond_false, Option.bind_some, Sum.elim_inl, hL0, Bool.true_and]
    cases tblGo t (t.length - 1) 1 <;> rfl
  · simp only [he, decide_false, Bool.not_false, cond_true, Option.bind_some, Sum.elim_inr, Bool.false_and]

end

section
variable {N : Nat} (hN : lim < N)
include hN
theorem kContains_ok {xs : List Int} {a : Int} (hl : xs.length ≤ 1048576) : FkContains_Sint_int N (xs, a, ()) = some (xs.contains a, ()) := by
  have hlim : lim = 2147483648 := rfl
  have hL := find_loop (xs := xs) (n := N) (fun x => decide (a = x)) (L := fun n i => lkIndex_Sint_int_0 N n (xs, a, (xs.length : Int), (i : Int), ())) (yes := fun i => .inr ((i : Int), ())) (no := .inl ()) (by omega)
    (fun n i h hw hq => by
      have : ¬ a = xs[i] := by simpa using hq
      simp [lkIndex_Sint_int_0, h, hw, this])
    (fun n i h hq => by
      have : a = xs[i] := by simpa using hq
      simp only [lkIndex_Sint_int_0, Int.ofNat_lt, h, decide_true, cond_true, Int.natCast_nonneg, Int.toNat_natCast, getD_lt h, ← this, beq_self_eq_true])
    (fun n => by simp [lkIndex_Sint_int_0]) (by omega)
  simp only [Int.natCast_zero] at hL
  simp only [FkContains_Sint_int, FkIndex_Sint_int, hL, Option.bind_some]
  cases hf : xs.findIdx? (fun x => decide (a = x)) with
  | none =>
    rw [List.findIdx?_eq_none_iff] at hf
    have : xs.contains a = false := by
      rw [← Bool.not_eq_true, List.contains_iff_mem]
      intro hm
      have := hf a hm
      simp at this
    simp only [Option.bind_some, Sum.elim_inl, this]
    rfl
  | some i =>
    obtain ⟨hi, h1, _⟩ := List.findIdx?_eq_some_iff_getElem.1 hf
    have h2 : a = xs[i] := by simpa using h1
    have : xs.contains a = true := by rw [List.contains_iff_mem, h2]; exact List.getElem_mem hi
    have hi0 : (i : Int) ≥ 0 := by omega
    simp only [Option.bind_some, Sum.elim_inr, this, hi0, decide_true]

theorem iCmp_ok {t : List Rgx} {x y : Int} (hx : 0 ≤ x ∧ x.toNat < t.length) (hy : 0 ≤ y ∧ y.toNat < t.length) : ∃ c, FiTableChoose_1 N (x, y, t, ()) = some (c, ()) ∧ (c < 0 ↔ keyR t x < keyR t y) := by
  have eg : ∀ i : Nat, t.getD i (0, 0, 0, 0, 0, ()) = t.getD i rg0 := fun i => rfl
  simp only [FiTableChoose_1, hx.1, hx.2, hy.1, hy.2, decide_true, cond_true, eg, Fcmp_Compare_int, Fcmp_isNaN_int, Option.bind_some, bne_self_eq_false, cond_false]
  simp only [keyR]
  generalize (t.getD x.toNat rg0).2.2.2.2.1 = a
  generalize (t.getD y.toNat rg0).2.2.2.2.1 = b
  by_cases h1 : a < b
  · exact ⟨-1, by simp [h1], by omega⟩
  · by_cases h2 : a > b
    · exact ⟨1, by simp [h1, h2], by omega⟩
    · exact ⟨0, by simp [h1, h2], by omega⟩

/-- One element goes to its place. -/
theorem iIns_loop {t : List Rgx} {b i : Int} {P : List Int} {x : Int} {R : List Int} (hP : ∀ r ∈ P, keyR t r ≤ keyR t x) (hx : 0 ≤ x ∧ x.toNat < t.length) (hPt : ∀ r ∈ P, 0 ≤ r ∧ r.toNat < t.length) :
    ∀ (m : Nat) (Q Q' : List Int) (n : Nat), Q.length = m → (∀ r ∈ Q, keyR t x < keyR t r) → (∀ r ∈ Q, 0 ≤ r ∧ r.toNat < t.length) → Q.length < n → P.length + Q.length + Q'.length ≤ 1048576 →
      lkinsertionSortCmpFunc_int_iTableChoose_1_2 N n (0, b, t, i, ((P.length + Q.length : Nat) : Int), P ++ Q ++ x :: Q' ++ R, ()) = some (0, b, t, i, P ++ x :: (Q ++ Q') ++ R, ())
  | m, Q, Q', 0, _, _, _, h, _ => absurd h (Nat.not_lt_zero _)
  | m, Q, Q', n + 1, hm, hQ, hQt, hn, hl => by
    have hlim : lim = 2147483648 := rfl
    rw [lkinsertionSortCmpFunc_int_iTableChoose_1_2]
    dsimp only
    have hlen : (P ++ Q ++ x :: Q' ++ R).length = P.length + Q.length + 1 + Q'.length + R.length := by simp; omega
    have hj : P.length + Q.length < (P ++ Q ++ x :: Q' ++ R).length := by omega
    have ex : (P ++ Q ++ x :: Q' ++ R).getD (P.length + Q.length) 0 = x := by
      rw [getD_lt hj]
      have e1 : P ++ Q ++ x :: Q' ++ R = (P ++ Q) ++ (x :: (Q' ++ R)) := by simp
      have e2 : P.length + Q.length = (P ++ Q).length := by simp
      simp only [e1, e2, List.getElem_append_right (Nat.le_refl _), Nat.sub_self, List.getElem_cons_zero]
    by_cases h0 : P.length + Q.length = 0
    · have hP0 : P = [] := by cases P with | nil => rfl | cons => simp at h0
      have hQ0 : Q = [] := by cases Q with | nil => rfl | cons => simp at h0
      subst hP0 hQ0
      simp
    · have h1 : ((P.length + Q.length : Nat) : Int) > 0 := by omega
      have w1 : w64 (((P.length + Q.length : Nat) : Int) - 1) = ((P.length + Q.length - 1 : Nat) : Int) := by rw [w64_id (by omega) (by omega)]; omega
      have hj2 : P.length + Q.length - 1 < (P ++ Q ++ x :: Q' ++ R).length := by omega
      simp only [h1, decide_true, cond_true, Int.natCast_nonneg, Int.toNat_natCast, hj, ex, w1, hj2]
      rcases List.eq_nil_or_concat Q with hQ0 | ⟨Q1, y, hQ1⟩
      · subst hQ0
        have hPne : P ≠ [] := by intro h; subst h; simp at h0
        obtain ⟨P1, z, rfl⟩ := (List.eq_nil_or_concat P).resolve_left hPne
        rw [List.concat_eq_append] at *
        have ez : (P1 ++ [z] ++ [] ++ x :: Q' ++ R).getD ((P1 ++ [z]).length + ([] : List Int).length - 1) 0 = z := by
          have e2 : (P1 ++ [z]).length + ([] : List Int).length - 1 = P1.length := by simp
          rw [e2, getD_lt (by simp)]
          simp
        obtain ⟨c, e, hc⟩ := iCmp_ok hN (t := t) hx (hPt z (by simp))
        have hz := hP z (by simp)
        have hc0 : ¬ c < 0 := by rw [hc]; omega
        simp only [ez, e, Option.bind_some, hc0, decide_false, cond_false, Sum.elim_inl]
        simp
      · rw [List.concat_eq_append] at hQ1
        subst hQ1
        have ey : (P ++ (Q1 ++ [y]) ++ x :: Q' ++ R).getD (P.length + (Q1 ++ [y]).length - 1) 0 = y := by
          have e2 : P.length + (Q1 ++ [y]).length - 1 = (P ++ Q1).length := by simp <;> omega
          have e1 : P ++ (Q1 ++ [y]) ++ x :: Q' ++ R = (P ++ Q1) ++ (y :: x :: (Q' ++ R)) := by simp
          rw [e2, e1, getD_lt (by simp), List.getElem_append_right (Nat.le_refl _)]
          simp
        obtain ⟨c, e, hc⟩ := iCmp_ok hN (t := t) hx (hQt y (by simp))
        have hc0 : c < 0 := by rw [hc]; exact hQ y (by simp)
        simp only [ey, ex, w1, e, Option.bind_some, hc0, decide_true, cond_true, Sum.elim_inr, Int.natCast_nonneg, Int.toNat_natCast, hj2, hj, List.length_set]
        have ih := iIns_loop (b := b) (i := i) (R := R) hP hx hPt Q1.length Q1 (y :: Q') n rfl (fun r hr => hQ r (by simp [hr])) (fun r hr => hQt r (by simp [hr])) (by simp at hn; omega) (by simp at hl ⊢; omega)
        have el : P.length + (Q1 ++ [y]).length - 1 = P.length + Q1.length := by simp <;> omega
        have es : ((P ++ (Q1 ++ [y]) ++ x :: Q' ++ R).set (P.length + (Q1 ++ [y]).length) y).set (P.length + (Q1 ++ [y]).length - 1) x = P ++ Q1 ++ x :: (y :: Q') ++ R := by
          have e1 : P ++ (Q1 ++ [y]) ++ x :: Q' ++ R = (P ++ Q1 ++ [y]) ++ (x :: (Q' ++ R)) := by simp
          have e2 : P.length + (Q1 ++ [y]).length = (P ++ Q1 ++ [y]).length := by simp
          rw [e1, e2, List.set_append_right _ _ (Nat.le_refl _), Nat.sub_self, List.set_cons_zero]
          have e3 : P ++ Q1 ++ [y] ++ (y :: (Q' ++ R)) = (P ++ Q1) ++ (y :: y :: (Q' ++ R)) := by simp
          have e4 : (P ++ Q1 ++ [y]).length - 1 = (P ++ Q1).length := by simp
          rw [e3, e4, List.set_append_right _ _ (Nat.le_refl _), Nat.sub_self, List.set_cons_zero]
          simp
        rw [el] at es ⊢
        rw [es, ih]
        simp

theorem iSort_ok {t : List Rgx} {l : List Int} (hl : l.length < 20) (ht : ∀ r ∈ l, 0 ≤ r ∧ r.toNat < t.length ∧ 0 ≤ keyR t r ∧ keyR t r < 17) : FkSortStableFunc_Sint_int_iTableChoose_1 N (t, l, ()) = some (bucks (keyR t) l 17, ()) := by
  have hlim : lim = 2147483648 := rfl
  have hkey : ∀ r ∈ l, 0 ≤ keyR t r ∧ keyR t r < ((17 : Nat) : Int) := fun r hr => by have := ht r hr; omega
  have key : ∀ (m : Nat) (ys pre : List Int) (n : Nat), ys.length = m → pre ++ ys = l → 1 ≤ pre.length ∨ ys = [] → ys.length < n →
      lkinsertionSortCmpFunc_int_iTableChoose_1_0 N n (0, (l.length : Int), t, (pre.length : Int), bucks (keyR t) pre 17 ++ ys, ()) = some (bucks (keyR t) l 17, ()) := by
    intro m
    induction m with
    | zero =>
      intro ys pre n hm he _ hn
      have : ys = [] := List.eq_nil_of_length_eq_zero hm
      subst this
      obtain ⟨n, rfl⟩ : ∃ n', n = n' + 1 := ⟨n - 1, by simp at hn; omega⟩
      rw [List.append_nil] at he
      subst he
      simp [lkinsertionSortCmpFunc_int_iTableChoose_1_0]
    | succ m ih =>
      intro ys pre n hm he hp hn
      obtain ⟨x, ys, rfl⟩ : ∃ x r, ys = x :: r := by cases ys with | nil => simp at hm | cons x r => exact ⟨x, r, rfl⟩
      obtain ⟨n, rfl⟩ : ∃ n', n = n' + 1 := ⟨n - 1, by simp at hn; omega⟩
      have hlt : (pre.length : Int) < (l.length : Int) := by rw [← he]; simp; omega
      have hxl : x ∈ l := by rw [← he]; simp
      have hx := ht x hxl
      obtain ⟨P, Q, e1, hP, hQ, e2⟩ := bucks_snoc (k := keyR t) (l := pre) (x := x) hx.2.2.1 17
      rw [if_pos (by omega)] at e2
      have hpl : (bucks (keyR t) pre 17).length = pre.length := bucks_len fun r hr => hkey r (by rw [← he]; simp [hr])
      have hmem : ∀ r ∈ bucks (keyR t) pre 17, 0 ≤ r ∧ r.toNat < t.length := fun r hr => by
        have := ht r (by rw [← he]; simp [(bucks_key r hr).1])
        exact ⟨this.1, this.2.1⟩
      have hpq : P.length + Q.length = pre.length := by rw [← hpl, e1]; simp
      have hI := iIns_loop hN (t := t) (b := (l.length : Int)) (i := (pre.length : Int)) (R := ys) hP ⟨hx.1, hx.2.1⟩ (fun r hr => hmem r (by rw [e1]; simp [hr])) Q.length Q [] N rfl hQ (fun r hr => hmem r (by rw [e1]; simp [hr])) (by rw [← he] at hl; simp at hl; omega) (by rw [← he] at hl; simp at hl ⊢; omega)
      rw [hpq] at hI
      have w1 : w64 ((pre.length : Int) + 1) = ((pre.length + 1 : Nat) : Int) := w64_succ (by rw [← he] at hl; simp at hl; omega)
      have ea : bucks (keyR t) pre 17 ++ x :: ys = P ++ Q ++ [x] ++ ys := by rw [e1]; simp
      rw [lkinsertionSortCmpFunc_int_iTableChoose_1_0]
      simp only [hlt, decide_true, cond_true, ea, hI, Option.bind_some, w1]
      have ih := ih ys (pre ++ [x]) n (by simp at hm; omega) (by simpa using he) (by simp) (by simp at hn; omega)
      rw [e2] at ih
      simp only [List.length_append, List.length_singleton] at ih
      rw [List.append_nil]
      exact ih
  have hIns : FkinsertionSortCmpFunc_int_iTableChoose_1 N (0, (l.length : Int), t, l, ()) = some (bucks (keyR t) l 17, ()) := by
    simp only [FkinsertionSortCmpFunc_int_iTableChoose_1, show w64 (0 + 1) = 1 by decide]
    cases l with
    | nil =>
      obtain ⟨m, hm⟩ : ∃ m, N = m + 1 := ⟨N - 1, by omega⟩
      have : lkinsertionSortCmpFunc_int_iTableChoose_1_0 N (m + 1) (0, 0, t, 1, [], ()) = some ([], ()) := by simp [lkinsertionSortCmpFunc_int_iTableChoose_1_0]
      rw [← hm] at this
      simp [this, bucks_nil]
    | cons x l =>
      have hx := hkey x (by simp)
      obtain ⟨P, Q, e1, _, _, e2⟩ := bucks_snoc (k := keyR t) (l := []) (x := x) hx.1 17
      rw [bucks_nil] at e1
      obtain ⟨rfl, rfl⟩ := List.append_eq_nil_iff.1 e1.symm
      rw [if_pos hx.2] at e2
      have := key l.length l [x] N rfl rfl (by simp) (by simp at hl; omega)
      simp only [List.nil_append] at e2
      rw [e2] at this
      simp only [List.length_singleton, Int.natCast_one, List.singleton_append] at this
      simp only [this, Option.bind_some]
  have hn20 : ¬ (20 : Int) ≤ (l.length : Int) := by omega
  have hn20' : ¬ (20 : Int) < (l.length : Int) := by omega
  obtain ⟨m, hm⟩ : ∃ m, N = m + 1 := ⟨N - 1, by omega⟩
  have a1 : lkstableCmpFunc_int_iTableChoose_1_0 N (m + 1) ((l.length : Int), t, 20, 0, 20, l, ()) = some ((l.length : Int), t, 20, 0, l, ()) := by
    rw [lkstableCmpFunc_int_iTableChoose_1_0]; simp only [hn20, decide_false, cond_false]
  have a2 : lkstableCmpFunc_int_iTableChoose_1_2 N (m + 1) ((l.length : Int), t, 20, bucks (keyR t) l 17, ()) = some (bucks (keyR t) l 17, ()) := by
    rw [lkstableCmpFunc_int_iTableChoose_1_2]; simp only [hn20', decide_false, cond_false]
  rw [← hm] at a1 a2
  simp only [FkSortStableFunc_Sint_int_iTableChoose_1, FkstableCmpFunc_int_iTableChoose_1, a1, hIns, a2, Option.bind_some]

theorem iTableChoose_ok {t : List Rgx} {left : Int} {held : List Int} (hl : t.length ≤ 1048576) (hh : held.length ≤ 1048576) : FiTableChoose N (t, left, held, ()) = some ((choose t left held).1, (choose t left held).2, ()) := by
  have hlim : lim = 2147483648 := rfl
  unfold FiTableChoose choose
  simp only [iTableOk_ok hN hl, Option.bind_some]
  cases ht : tableOk t with
  | false => simp
  | true =>
    obtain ⟨t2, t12, te, trow⟩ := tableOk_iff ht
    have eg : ∀ i : Nat, t.getD i (0, 0, 0, 0, 0, ()) = t.getD i rg0 := fun i => rfl
    have hcm := cand_mem (held := held) ht
    have L0 : ∀ (k n i : Nat) (s : List Int), 1 ≤ i → i + k = t.length → k < n → s.length + k ≤ 1048576 → liTableChoose_0 N n (left, held, t, t, (t.length : Int), (i : Int), s, ()) = some (left, t, s ++ ((List.range' i k).filter (candB t held)).map (fun (i : Nat) => (i : Int)), ()) := by
      intro k
      induction k with
      | zero =>
        intro n i s h1 he hn hs
        obtain ⟨n, rfl⟩ : ∃ n', n = n' + 1 := ⟨n - 1, by omega⟩
        have : ¬ (i : Int) < (t.length : Int) := by omega
        simp [liTableChoose_0, this]
      | succ k ih =>
        intro n i s h1 he hn hs
        obtain ⟨n, rfl⟩ : ∃ n', n = n' + 1 := ⟨n - 1, by omega⟩
        have hlt : i < t.length := by omega
        have hlt' : (i : Int) < (t.length : Int) := by omega
        have w1 : w64 ((i : Int) + 1) = ((i + 1 : Nat) : Int) := w64_succ (by omega)
        have eb : regBase (i : Int) = 16 * (i : Int) := by unfold regBase; rw [if_neg (by omega)]
        have hrow := rowOk_iff.1 (trow i h1 hlt)
        have w2 : w64 ((t.getD i rg0).2.2.1 - 16 * (i : Int)) = (t.getD i rg0).2.2.1 - 16 * (i : Int) := w64_id (by omega) (by omega)
        have l1 : s.length + [(i : Int)].length ≤ lim := by simp only [List.length_cons, List.length_nil]; omega
        have ih1 := ih n (i + 1) s (by omega) (by omega) (by omega) (by omega)
        have ih2 := ih n (i + 1) (s ++ [(i : Int)]) (by omega) (by omega) (by omega) (by simp only [List.length_append, List.length_cons, List.length_nil]; omega)
        rw [liTableChoose_0]
        simp only [hlt', hlt, decide_true, cond_true, Int.natCast_nonneg, Int.toNat_natCast, eg, w1, iRegionBase_ok, eb, Option.bind_some, w2, kContains_ok hN hh, bif_beq, l1, ih1, ih2]
        rw [List.range'_succ, List.filter_cons]
        by_cases c1 : (t.getD i rg0).1 = 3
        · by_cases c2 : (t.getD i rg0).2.2.1 = (t.getD i rg0).2.2.2.1
          · by_cases c3 : (t.getD i rg0).2.2.2.2.1 < (t.getD i rg0).2.2.1 - 16 * (i : Int)
            · cases c4 : held.contains (i : Int) with
              | true =>
                have hc : candB t held i = false := by simp only [candB, c4, Bool.not_true, Bool.and_false]
                simp only [c1, c2, if_true, hc, Bool.not_true, cond_false, Bool.false_eq_true, if_false]
                rw [← c2]; simp only [c3, decide_true, cond_true]
              | false =>
                have hc : candB t held i = true := by simp only [candB, c1, c2, c4, decide_true, Bool.true_and, Bool.not_false, Bool.and_true, decide_eq_true_eq]; rw [← c2]; exact c3
                simp only [c1, c2, if_true, hc, Bool.not_false, cond_true]
                rw [← c2]; simp only [c3, decide_true, cond_true]
                simp
            · have hc : candB t held i = false := by simp only [candB, c3, decide_false, Bool.false_and, Bool.and_false]
              simp only [c1, c2, if_true, hc, Bool.false_eq_true, if_false]
              rw [← c2]; simp only [c3, decide_false, cond_false]
          · have hc : candB t held i = false := by simp only [candB, c2, decide_false, Bool.false_and, Bool.and_false]
            simp only [c1, c2, if_true, if_false, hc, Bool.false_eq_true]
        · have hc : candB t held i = false := by simp only [candB, c1, decide_false, Bool.false_and]
          simp only [c1, if_false, hc, Bool.false_eq_true]
    have L0' : liTableChoose_0 N N (left, held, t, t, (t.length : Int), 0, [], ()) = some (left, t, cand t held, ()) := by
      obtain ⟨m, hm⟩ : ∃ m, N = m + 1 := ⟨N - 1, by omega⟩
      have h0 : (0 : Int) < (t.length : Int) := by omega
      have h0' : 0 < t.length := by omega
      have key : liTableChoose_0 N (m + 1) (left, held, t, t, (t.length : Int), 0, [], ()) = liTableChoose_0 N m (left, held, t, t, (t.length : Int), 1, [], ()) := by
        rw [liTableChoose_0]
        simp only [h0, h0', decide_true, cond_true, show (0 : Int).toNat = 0 from rfl, Int.le_refl, eg, te, edgeRow, show ((0 : Int) == 3) = false from rfl, cond_false, show w64 (0 + 1) = 1 by decide]
      rw [show liTableChoose_0 N N = liTableChoose_0 N (m + 1) by rw [← hm], key]
      have := L0 (t.length - 1) m 1 [] (by omega) (by omega) (by omega) (by simp; omega)
      simpa [cand] using this
    have hcl : (cand t held).length < 20 := by
      simp only [cand, List.length_map]
      have := List.length_filter_le (candB t held) (List.range' 1 (t.length - 1))
      simp only [List.length_range'] at this
      omega
    have hS := iSort_ok hN (t := t) (l := cand t held) hcl hcm
    have hbm : ∀ r ∈ bucks (keyR t) (cand t held) 17, 0 ≤ r ∧ r.toNat < t.length ∧ 0 ≤ keyR t r ∧ keyR t r < 17 := fun r hr => hcm r (bucks_key r hr).1
    have hbl : (bucks (keyR t) (cand t held) 17).length = (cand t held).length := bucks_len fun r hr => by have := hcm r hr; omega
    generalize bucks (keyR t) (cand t held) 17 = l at hS hbm hbl ⊢
    have L2 : ∀ (n i : Nat) (st : Chx), i ≤ l.length → l.length - i < n → st.2.1.length + l.length ≤ 1048576 + i → st.2.2.length + l.length ≤ 1048576 + i → liTableChoose_2 N n (st.1, t, (l.length : Int), (i : Int), st.2.1, st.2.2, l, ()) = some ((((l.drop i).foldl (chStep t) st)).2.1, (((l.drop i).foldl (chStep t) st)).2.2, ()) := by
      intro n
      induction n with
      | zero => intro i st _ h; exact absurd h (Nat.not_lt_zero _)
      | succ n ih =>
        intro i st hi hn hs1 hs2
        rw [liTableChoose_2]
        by_cases h : i < l.length
        · have h' : (i : Int) < (l.length : Int) := by omega
          have w1 : w64 ((i : Int) + 1) = ((i + 1 : Nat) : Int) := w64_succ (by omega)
          have hm := hbm _ (List.getElem_mem h)
          have l1 : st.2.2.length + [l[i]].length ≤ lim := by simp only [List.length_cons, List.length_nil]; omega
          have l2 : st.2.1.length + [l[i]].length ≤ lim := by simp only [List.length_cons, List.length_nil]; omega
          have ih := fun st' h1 h2 => ih (i + 1) st' (by omega) (by omega) h1 h2
          rw [drop_at h, List.foldl_cons]
          have ek : (t.getD l[i].toNat rg0).2.2.2.2.1 = keyR t l[i] := rfl
          simp only [h', h, decide_true, cond_true, Int.natCast_nonneg, Int.toNat_natCast, getD_lt h, hm.1, hm.2.1, eg, ek, l1, l2, w1, bif_beq]
          unfold chStep
          by_cases k0 : keyR t l[i] = 0
          · rw [if_pos k0, if_pos k0]
            exact ih (st.1, st.2.1, st.2.2 ++ [l[i]]) (by dsimp only; omega) (by simp only [List.length_append, List.length_cons, List.length_nil]; omega)
          · rw [if_neg k0, if_neg k0]
            by_cases k1 : keyR t l[i] ≤ st.1
            · simp only [k1, decide_true, cond_true, if_true]
              exact ih (w64 (st.1 - keyR t l[i]), st.2.1 ++ [l[i]], st.2.2) (by simp only [List.length_append, List.length_cons, List.length_nil]; omega) (by dsimp only; omega)
            · simp only [k1, decide_false, cond_false, if_false]
              exact ih st (by omega) (by omega)
        · have : i = l.length := by omega
          subst this
          simp
    have hL2 := L2 N 0 (left, [], []) (by omega) (by omega) (by simp; omega) (by simp; omega)
    simp only [Int.natCast_zero, List.drop_zero] at hL2
    simp only [Bool.not_true, cond_false, L0', hS, hL2, Option.bind_some, if_true]
end

section
variable {N : Nat}
end

section
variable {N : Nat} (hN : lim < N)
theorem sRegionBase_ok {r : Int} : FsRegionBase N (r, ()) = some (regBase r, ()) := by
  unfold FsRegionBase regBase
  dsimp only
  by_cases h1 : r < 0
  · simp [h1]
  · by_cases h2 : r ≥ 12
    · simp only [h1, h2, decide_true, decide_false, cond_true, cond_false, or_true, if_true]
    · have e : w64 (r * 16) = 16 * r := by rw [w64_id (by omega) (by omega)]; omega
      simp only [h1, h2, decide_false, cond_false, or_self, if_false, e]
include hN
end

section
variable {N : Nat} (hN : lim < N)
include hN

end

section
variable {N : Nat} (hN : lim < N)
include hN

theorem sOwners_loop {t : List Rgx} {k tp ta lv : Int} {i : Nat} {o : Int} (hi : i < t.length) (hl : t.length ≤ 12) : ∀ (n j : Nat), 1 ≤ j → j ≤ i → i - j < n →
    lsTableOk_2 N n (t, (i : Int), (j : Int), k, o, tp, ta, lv, ()) = some (if 0 ≤ o ∧ (((t.take i).drop j).any fun x => decide (x.2.1 = o)) = true then .inr (false, ()) else .inl (t, (i : Int), ()))
  | 0, _, _, _, h => absurd h (Nat.not_lt_zero _)
  | n + 1, j, h1, hj, hn => by
    unfold lsTableOk_2
    dsimp only
    by_cases h : j < i
    · have h' : (j : Int) < (i : Int) := by omega
      have e1 : w64 ((j : Int) + 1) = ((j + 1 : Nat) : Int) := w64_succ (by omega)
      have ih := sOwners_loop (k := k) (tp := tp) (ta := ta) (lv := lv) (o := o) hi hl n (j + 1) (by omega) (by omega) (by omega)
      have hjt : j < t.length := by omega
      have ed : ((t.take i).drop j) = t[j] :: (t.take i).drop (j + 1) := by
        rw [drop_at (by simp; omega)]
        simp
      have eg : t.getD j (0, 0, 0, 0, 0, ()) = t[j] := getD_lt hjt
      rw [ed]
      simp only [h', decide_true, cond_true, Int.natCast_nonneg, Int.toNat_natCast, hjt, eg, e1, ih, List.any_cons, bif_beq]
      by_cases ho : o ≥ 0
      · have ho' : 0 ≤ o := ho
        simp only [ho, ho', decide_true, cond_true, true_and]
        by_cases he : t[j].2.1 = o
        · simp [he]
        · simp only [he, if_false, decide_false, Bool.false_or]
      · have ho' : ¬ 0 ≤ o := ho
        simp only [ho, ho', decide_false, cond_false, false_and, if_false]
    · have : j = i := by omega
      subst this
      have : (t.take j).drop j = [] := List.drop_eq_nil_of_le (by simp; omega)
      simp [this]

theorem sTable_loop {t : List Rgx} (hl : t.length ≤ 12) (hx : ∀ x ∈ t, -9223372036854775808 ≤ x.2.1 ∧ x.2.1 < 9223372036854775808) : ∀ (k n i : Nat), 1 ≤ i → i + k = t.length → k < n → lsTableOk_0 N n (t, (i : Int), ()) = some (if tblGo t k i = true then .inl () else .inr (false, ()))
  | 0, n, i, _, he, hn => by
    obtain ⟨n, rfl⟩ : ∃ n', n = n' + 1 := ⟨n - 1, by omega⟩
    have : ¬ (i : Int) < (t.length : Int) := by omega
    simp [lsTableOk_0, this, tblGo]
  | c + 1, n, i, h1, he, hn => by
    obtain ⟨n, rfl⟩ : ∃ n', n = n' + 1 := ⟨n - 1, by omega⟩
    have hlim : lim = 2147483648 := rfl
    have hlt : i < t.length := by omega
    have hlt' : (i : Int) < (t.length : Int) := by omega
    have e1 : w64 ((i : Int) + 1) = ((i + 1 : Nat) : Int) := w64_succ (by omega)
    have eb : regBase (i : Int) = 16 * (i : Int) := by unfold regBase; rw [if_neg (by omega)]
    have eg : t.getD i (0, 0, 0, 0, 0, ()) = t.getD i rg0 := rfl
    have ih := sTable_loop hl hx c n (i + 1) (by omega) (by omega) (by omega)
    unfold lsTableOk_0 tblGo
    dsimp only
    simp only [hlt', hlt, decide_true, cond_true, Int.natCast_nonneg, Int.toNat_natCast, eg, sRegionBase_ok, eb, Option.bind_some]
    have hiff := rowOk_iff (i := i) (x := t.getD i rg0)
    have ow := fun k tp ta lv o => sOwners_loop hN (t := t) (k := k) (tp := tp) (ta := ta) (lv := lv) (i := i) (o := o) hlt hl N 1 (by omega) h1 (by omega)
    simp only [Int.natCast_one] at ow
    have hho : hadO t i (t.getD i rg0).2.1 = (((t.take i).drop 1).any fun x => decide (x.2.1 = (t.getD i rg0).2.1)) := rfl
    rw [hho]
    generalize t.getD i rg0 = x at hiff ⊢
    obtain ⟨k, o, tp, ta, lv, ⟨⟩⟩ := x
    dsimp only at hiff ⊢
    generalize rowOk i (k, o, tp, ta, lv, PUnit.unit) = rv at hiff ⊢
    have no : ¬ (rv = true) → rv = false := by simp
    have w1 : w64 (16 * (i : Int) + 16) = 16 * (i : Int) + 16 := w64_id (by omega) (by omega)
    simp only [w1]
    by_cases g1 : k < 1
    · rw [no (by rw [hiff]; omega)]; simp [g1]
    by_cases g2 : k > 4
    · rw [no (by rw [hiff]; omega)]; simp [g1, g2]
    by_cases g3 : tp < 16 * (i : Int)
    · rw [no (by rw [hiff]; omega)]; simp [g1, g2, g3]
    by_cases g4 : tp > 16 * (i : Int) + 16
    · rw [no (by rw [hiff]; omega)]; simp [g1, g2, g3, g4]
    by_cases g5 : ta < 16 * (i : Int)
    · rw [no (by rw [hiff]; omega)]; simp [g1, g2, g3, g4, g5]
    by_cases g6 : ta > tp
    · rw [no (by rw [hiff]; omega)]; simp [g1, g2, g3, g4, g5, g6]
    by_cases g7 : lv < 0
    · rw [no (by rw [hiff]; omega)]; simp [g1, g2, g3, g4, g5, g6, g7]
    have w2 : w64 (tp - 16 * (i : Int)) = tp - 16 * (i : Int) := w64_id (by omega) (by omega)
    by_cases g8 : lv > tp - 16 * (i : Int)
    · rw [no (by rw [hiff]; omega)]; simp [g1, g2, g3, g4, g5, g6, g7, w2, g8]
    simp only [g1, g2, g3, g4, g5, g6, g7, g8, w2, decide_false, cond_false, Option.bind_some, Sum.elim_inl, bif_beq, bif_bne]
    have first : ∀ {β : Type} {z : Option β} {K : _ → Option β}, (k = 1 → tp = 16 * (i : Int)) → K (.inl (t, (i : Int), k, o, tp, ta, lv, ())) = z →
        Option.bind (if k = 1 then (if tp = 16 * (i : Int) then some (.inl (t, (i : Int), k, o, tp, ta, lv, ())) else some (.inr (false, ()))) else some (.inl (t, (i : Int), k, o, tp, ta, lv, ())) : Option (_ ⊕ (Bool × Unit))) K = z := by
      intro β z K h hK
      by_cases c1 : k = 1
      · simp only [c1, h c1, if_true]; rw [← c1, ← h c1]; exact hK
      · simp only [c1, if_false]; exact hK
    by_cases g9 : k = 1 → tp = 16 * (i : Int)
    · refine first g9 ?_
      clear first
      dsimp only [Sum.elim_inl]
      by_cases c2 : k = 2
      · by_cases o1 : o ≥ 0
        · have o2 : ¬ o < -1 := by omega
          by_cases o3 : o > 3
          · rw [no (by rw [hiff]; omega)]
            simp [c2, o1, o2, o3]
          · rw [hiff.2 (by omega)]
            have o4 : 0 ≤ o := o1
            have q1 : (k == 2) = true := by simp [c2]
            simp only [q1, o1, o2, o3, decide_true, decide_false, beq_self_eq_true, Bool.not_true, cond_false, Option.bind_some, Sum.elim_inl, ow, Bool.true_and]
            cases hb : ((t.take i).drop 1).any fun x => decide (x.2.1 = o) with
            | true => simp [o4]
            | false => simp only [o4, true_and, Bool.false_eq_true, if_false, Option.bind_some, Sum.elim_inl, e1, ih, Bool.and_false, Bool.not_false, Bool.true_and]
        · rw [no (by rw [hiff]; omega)]
          simp [c2, o1]
      · have q1 : (k == 2) = false := by simp [c2]
        by_cases o1 : o ≥ 0
        · rw [no (by rw [hiff]; omega)]
          simp [q1, o1]
        · by_cases o2 : o < -1
          · rw [no (by rw [hiff]; omega)]
            simp [q1, o1, o2]
          · rw [hiff.2 (by omega)]
            have o3 : ¬ o > 3 := by omega
            have o4 : ¬ 0 ≤ o := o1
            simp only [q1, o1, o2, o3, o4, decide_false, beq_self_eq_true, Bool.not_true, cond_false, Option.bind_some, Sum.elim_inl, ow, false_and, if_false, e1, ih, Bool.false_and, Bool.not_false, Bool.true_and]
    · have c1 : k = 1 := by
        by_cases c1 : k = 1
        · exact c1
        · exact absurd (fun h => absurd h c1) g9
      have c2 : ¬ tp = 16 * (i : Int) := fun h => g9 fun _ => h
      rw [no (by rw [hiff]; omega)]
      simp [c1, c2]

theorem sTableOk_ok {t : List Rgx} (hl : t.length ≤ 1048576) (hx : ∀ x ∈ t, -9223372036854775808 ≤ x.2.1 ∧ x.2.1 < 9223372036854775808) : FsTableOk N (t, ()) = some (tableOk t, ()) := by
  have hlim : lim = 2147483648 := rfl
  unfold FsTableOk tableOk
  by_cases h1 : (t.length : Int) < 2
  · have : ¬ 2 ≤ t.length := by omega
    simp [h1, this]
  by_cases h2 : (t.length : Int) > 12
  · have : ¬ t.length ≤ 12 := by omega
    simp [h1, h2, this]
  have h3 : 2 ≤ t.length := by omega
  have h4 : t.length ≤ 12 := by omega
  have h5 : 0 < t.length := by omega
  simp only [h1, h2, h3, h4, h5, decide_true, decide_false, cond_true, cond_false, Bool.true_and, Option.bind_some, show (0 : Int).toNat = 0 from rfl, Int.le_refl]
  have eg : t.getD 0 (0, 0, 0, 0, 0, ()) = t.getD 0 rg0 := rfl
  rw [eg]
  have hedge : (((t.getD 0 rg0).1 == 0) && (((t.getD 0 rg0).2.1 == -1) && (((t.getD 0 rg0).2.2.1 == 0) && (((t.getD 0 rg0).2.2.2.1 == 0) && (((t.getD 0 rg0).2.2.2.2.1 == 0) && true))))) = decide (t.getD 0 rg0 = edgeRow) := by
    generalize t.getD 0 rg0 = x
    obtain ⟨a, b, c, d, e, ⟨⟩⟩ := x
    simp only [edgeRow, Prod.mk.injEq, and_true, Bool.and_true, Bool.decide_and, ibeq]
  rw [hedge]
  by_cases he : t.getD 0 rg0 = edgeRow
  · have hL := sTable_loop hN h4 hx (t.length - 1) N 1 (by omega) (by omega) (by omega)
    simp only [Int.natCast_one] at hL
    simp only [he, decide_true, Bool.not_true, cond_false, Option.bind_some, Sum.elim_inl, hL, Bool.true_and]
    cases tblGo t (t.length - 1) 1 <;> rfl
  · simp only [he, decide_false, Bool.not_false, cond_true, Option.bind_some, Sum.elim_inr, Bool.false_and]

end

section
variable {N : Nat} (hN : lim < N)
include hN
theorem sl4Has_ok {xs : List Int} {a : Int} (hl : xs.length ≤ 1048576) : Fsl4Has N (xs, a, ()) = some (xs.contains a, ()) := by
  have hlim : lim = 2147483648 := rfl
  have hL := find_loop (xs := xs) (n := N) (fun x => decide (x = a)) (L := fun n i => lsl4Has_0 N n (xs, a, (i : Int), ())) (yes := fun i => .inr (true, ())) (no := .inl ()) (by omega)
    (fun n i h hw hq => by
      have : ¬ xs[i] = a := by simpa using hq
      simp [lsl4Has_0, h, hw, this])
    (fun n i h hq => by
      have : xs[i] = a := by simpa using hq
      simp only [lsl4Has_0, Int.ofNat_lt, h, decide_true, cond_true, Int.natCast_nonneg, Int.toNat_natCast, getD_lt h, this, beq_self_eq_true])
    (fun n => by simp [lsl4Has_0]) (by omega)
  simp only [Int.natCast_zero] at hL
  simp only [Fsl4Has, hL, Option.bind_some]
  cases hf : xs.findIdx? (fun x => decide (x = a)) with
  | none =>
    rw [List.findIdx?_eq_none_iff] at hf
    have : xs.contains a = false := by
      rw [← Bool.not_eq_true, List.contains_iff_mem]
      intro hm
      have := hf a hm
      simp at this
    simp only [Option.bind_some, Sum.elim_inl, this]
  | some i =>
    obtain ⟨hi, h1, _⟩ := List.findIdx?_eq_some_iff_getElem.1 hf
    have h2 : xs[i] = a := by simpa using h1
    have : xs.contains a = true := by rw [List.contains_iff_mem, ← h2]; exact List.getElem_mem hi
    simp only [Option.bind_some, Sum.elim_inr, this]

theorem sTableChoose_ok {t : List Rgx} {left : Int} {held : List Int} (hl : t.length ≤ 1048576) (hh : held.length ≤ 1048576) (hx : ∀ x ∈ t, -9223372036854775808 ≤ x.2.1 ∧ x.2.1 < 9223372036854775808) : FsTableChoose N (t, left, held, ()) = some ((choose t left held).1, (choose t left held).2, ()) := by
  have hlim : lim = 2147483648 := rfl
  unfold FsTableChoose choose
  simp only [sTableOk_ok hN hl hx, Option.bind_some]
  cases ht : tableOk t with
  | false => simp
  | true =>
    obtain ⟨t2, t12, te, trow⟩ := tableOk_iff ht
    have eg : ∀ i : Nat, t.getD i (0, 0, 0, 0, 0, ()) = t.getD i rg0 := fun i => rfl
    -- one round over the regions
    have L2 : ∀ (k n i m : Nat) (st : Chx), m ≤ 16 → 1 ≤ i → i + k = t.length → k < n → st.2.1.length + k ≤ 1048576 → st.2.2.length + k ≤ 1048576 →
        lsTableChoose_2 N n (t, held, st.1, (m : Int), (i : Int), st.2.1, st.2.2, ()) =
          some (t, held, (((((List.range' i k).filter (candB t held)).map (fun (i : Nat) => (i : Int))).filter (fun r => decide (keyR t r = (m : Int)))).foldl (chStep t) st).1, (m : Int),
            (((((List.range' i k).filter (candB t held)).map (fun (i : Nat) => (i : Int))).filter (fun r => decide (keyR t r = (m : Int)))).foldl (chStep t) st).2.1,
            (((((List.range' i k).filter (candB t held)).map (fun (i : Nat) => (i : Int))).filter (fun r => decide (keyR t r = (m : Int)))).foldl (chStep t) st).2.2, ()) := by
      intro k
      induction k with
      | zero =>
        intro n i m st hm h1 he hn _ _
        obtain ⟨n, rfl⟩ : ∃ n', n = n' + 1 := ⟨n - 1, by omega⟩
        have : ¬ (i : Int) < (t.length : Int) := by omega
        simp [lsTableChoose_2, this]
      | succ k ih =>
        intro n i m st hm h1 he hn hs1 hs2
        obtain ⟨n, rfl⟩ : ∃ n', n = n' + 1 := ⟨n - 1, by omega⟩
        have hlt : i < t.length := by omega
        have hlt' : (i : Int) < (t.length : Int) := by omega
        have w1 : w64 ((i : Int) + 1) = ((i + 1 : Nat) : Int) := w64_succ (by omega)
        have eb : regBase (i : Int) = 16 * (i : Int) := by unfold regBase; rw [if_neg (by omega)]
        have hrow := rowOk_iff.1 (trow i h1 hlt)
        have w2 : w64 ((t.getD i rg0).2.2.1 - 16 * (i : Int)) = (t.getD i rg0).2.2.1 - 16 * (i : Int) := w64_id (by omega) (by omega)
        have l1 : st.2.1.length + [(i : Int)].length ≤ lim := by simp only [List.length_cons, List.length_nil]; omega
        have l2 : st.2.2.length + [(i : Int)].length ≤ lim := by simp only [List.length_cons, List.length_nil]; omega
        have ih := fun st' h1 h2 => ih n (i + 1) m st' hm (by omega) (by omega) (by omega) h1 h2
        have ih0 := ih st (by omega) (by omega)
        have ek : keyR t (i : Int) = (t.getD i rg0).2.2.2.2.1 := by simp only [keyR, Int.toNat_natCast]
        rw [lsTableChoose_2]
        simp only [hlt', hlt, decide_true, cond_true, Int.natCast_nonneg, Int.toNat_natCast, eg, sRegionBase_ok, eb, Option.bind_some, w2, sl4Has_ok hN hh, bif_beq, bif_bne]
        rw [List.range'_succ, List.filter_cons]
        by_cases c1 : (t.getD i rg0).1 = 3
        · by_cases c2 : (t.getD i rg0).2.2.1 = (t.getD i rg0).2.2.2.1
          · by_cases c5 : (t.getD i rg0).2.2.2.2.1 = (m : Int)
            · by_cases c3 : (t.getD i rg0).2.2.2.2.1 ≥ (t.getD i rg0).2.2.1 - 16 * (i : Int)
              · have c3' : ¬ (t.getD i rg0).2.2.2.2.1 < (t.getD i rg0).2.2.1 - 16 * (i : Int) := by omega
                have hc : candB t held i = false := by simp only [candB, c3', decide_false, Bool.false_and, Bool.and_false]
                have d3 : decide ((t.getD i rg0).2.2.2.2.1 ≥ (t.getD i rg0).2.2.1 - 16 * (i : Int)) = true := by simpa using c3
                rw [if_pos c1, if_pos c2, if_pos c5, d3, if_neg (by rw [hc]; simp)]
                simp only [cond_true, Option.bind_some, Sum.elim_inl, w1]
                exact ih0
              · have c3' : (t.getD i rg0).2.2.2.2.1 < (t.getD i rg0).2.2.1 - 16 * (i : Int) := by omega
                have d3 : decide ((t.getD i rg0).2.2.2.2.1 ≥ (t.getD i rg0).2.2.1 - 16 * (i : Int)) = false := by simpa using c3'
                cases c4 : held.contains (i : Int) with
                | true =>
                  have hc : candB t held i = false := by simp only [candB, c4, Bool.not_true, Bool.and_false]
                  rw [if_pos c1, if_pos c2, if_pos c5, d3, if_neg (by rw [hc]; simp)]
                  simp only [cond_true, cond_false, Option.bind_some, Sum.elim_inl, w1]
                  exact ih0
                | false =>
                  have hc : candB t held i = true := by simp only [candB, c1, c2, c4, decide_true, Bool.true_and, Bool.not_false, Bool.and_true, decide_eq_true_eq]; rw [← c2]; exact c3'
                  have hf : ((((i : Nat) :: (List.range' (i + 1) k).filter (candB t held)).map (fun (i : Nat) => (i : Int))).filter (fun r => decide (keyR t r = (m : Int)))) = (i : Int) :: ((((List.range' (i + 1) k).filter (candB t held)).map (fun (i : Nat) => (i : Int))).filter (fun r => decide (keyR t r = (m : Int)))) := by
                    rw [List.map_cons, List.filter_cons, if_pos (by rw [ek, c5]; simp)]
                  rw [if_pos c1, if_pos c2, if_pos c5, d3, if_pos hc, hf, List.foldl_cons]
                  simp only [cond_false, Option.bind_some, Sum.elim_inr, w1, l1, l2, decide_true, cond_true]
                  unfold chStep
                  rw [ek, c5]
                  by_cases k0 : (m : Int) = 0
                  · rw [if_pos k0, if_pos k0]
                    exact ih (st.1, st.2.1, st.2.2 ++ [(i : Int)]) (by dsimp only; omega) (by simp only [List.length_append, List.length_cons, List.length_nil]; omega)
                  · rw [if_neg k0, if_neg k0]
                    by_cases k1 : (m : Int) ≤ st.1
                    · simp only [k1, decide_true, cond_true, if_true]
                      exact ih (w64 (st.1 - (m : Int)), st.2.1 ++ [(i : Int)], st.2.2) (by simp only [List.length_append, List.length_cons, List.length_nil]; omega) (by dsimp only; omega)
                    · simp only [k1, decide_false, cond_false, if_false]
                      exact ih0
            · rw [if_pos c1, if_pos c2, if_neg c5]
              simp only [Option.bind_some, Sum.elim_inl, w1]
              rw [ih0]
              cases hc : candB t held i with
              | false => simp
              | true =>
                have hf : ((((i : Nat) :: (List.range' (i + 1) k).filter (candB t held)).map (fun (i : Nat) => (i : Int))).filter (fun r => decide (keyR t r = (m : Int)))) = ((((List.range' (i + 1) k).filter (candB t held)).map (fun (i : Nat) => (i : Int))).filter (fun r => decide (keyR t r = (m : Int)))) := by
                  rw [List.map_cons, List.filter_cons, if_neg (by rw [ek]; simpa using c5)]
                rw [if_pos rfl, hf]
          · have hc : candB t held i = false := by simp only [candB, c2, decide_false, Bool.false_and, Bool.and_false]
            rw [if_pos c1, if_neg c2, if_neg (by rw [hc]; simp)]
            simp only [Option.bind_some, Sum.elim_inl, w1]
            exact ih0
        · have hc : candB t held i = false := by simp only [candB, c1, decide_false, Bool.false_and]
          rw [if_neg c1, if_neg (by rw [hc]; simp)]
          simp only [Option.bind_some, Sum.elim_inl, w1]
          exact ih0
    have L2' : ∀ (m : Nat) (st : Chx), m ≤ 16 → st.2.1.length ≤ 1000000 → st.2.2.length ≤ 1000000 → lsTableChoose_2 N N (t, held, st.1, (m : Int), 1, st.2.1, st.2.2, ()) =
        some (t, held, (((cand t held).filter (fun r => decide (keyR t r = (m : Int)))).foldl (chStep t) st).1, (m : Int), (((cand t held).filter (fun r => decide (keyR t r = (m : Int)))).foldl (chStep t) st).2.1, (((cand t held).filter (fun r => decide (keyR t r = (m : Int)))).foldl (chStep t) st).2.2, ()) :=
      fun m st hm h1 h2 => L2 (t.length - 1) N 1 m st hm (by omega) (by omega) (by omega) (by omega) (by omega)
    have hcl : (cand t held).length < 20 := by
      simp only [cand, List.length_map]
      have := List.length_filter_le (candB t held) (List.range' 1 (t.length - 1))
      simp only [List.length_range'] at this
      omega
    have L0 : ∀ (k n m : Nat) (st : Chx), m + k = 17 → k < n → st.2.1.length + 20 * k ≤ 1000000 → st.2.2.length + 20 * k ≤ 1000000 →
        lsTableChoose_0 N n (t, held, st.1, (m : Int), st.2.1, st.2.2, ()) =
          some (((List.range' m k).foldl (fun b (n : Nat) => ((cand t held).filter (fun r => decide (keyR t r = (n : Int)))).foldl (chStep t) b) st).2.1, ((List.range' m k).foldl (fun b (n : Nat) => ((cand t held).filter (fun r => decide (keyR t r = (n : Int)))).foldl (chStep t) b) st).2.2, ()) := by
      intro k
      induction k with
      | zero =>
        intro n m st he hn _ _
        obtain ⟨n, rfl⟩ : ∃ n', n = n' + 1 := ⟨n - 1, by omega⟩
        have : ¬ (m : Int) ≤ 16 := by omega
        simp [lsTableChoose_0, this]
      | succ k ih =>
        intro n m st he hn h1 h2
        obtain ⟨n, rfl⟩ : ∃ n', n = n' + 1 := ⟨n - 1, by omega⟩
        have hm : (m : Int) ≤ 16 := by omega
        have w1 : w64 ((m : Int) + 1) = ((m + 1 : Nat) : Int) := w64_succ (by omega)
        have hq := chStep_len (t := t) (l := (cand t held).filter (fun r => decide (keyR t r = (m : Int)))) (st := st)
        have hfl := List.length_filter_le (fun r => decide (keyR t r = (m : Int))) (cand t held)
        rw [lsTableChoose_0]
        simp only [hm, decide_true, cond_true, L2' m st (by omega) (by omega) (by omega), Option.bind_some, w1]
        rw [ih n (m + 1) _ (by omega) (by omega) (by omega) (by omega), List.range'_succ, List.foldl_cons]
    have := L0 17 N 0 (left, [], []) (by omega) (by omega) (by simp) (by simp)
    simp only [Int.natCast_zero] at this
    have e : ((List.range' 0 17).foldl (fun b (n : Nat) => ((cand t held).filter (fun r => decide (keyR t r = (n : Int)))).foldl (chStep t) b) (left, [], [])) = (bucks (keyR t) (cand t held) 17).foldl (chStep t) (left, [], []) := by
      unfold bucks
      rw [foldl_fm, List.range_eq_range']
    rw [e] at this
    simp only [Bool.not_true, cond_false, this, Option.bind_some, if_true]
end

theorem wf_u8 {n : Int} (h : (Lit.int .u8 n).wf = true) : 0 ≤ n ∧ n < 256 := by
  simp only [Lit.wf, IntKind.min, IntKind.max, IntKind.signed, IntKind.bits] at h
  simp at h
  omega
theorem wf_i64 {n : Int} (h : (Lit.int .i64 n).wf = true) : -9223372036854775808 ≤ n ∧ n < 9223372036854775808 := by
  simp only [Lit.wf, IntKind.min, IntKind.max, IntKind.signed, IntKind.bits] at h
  simp at h
  omega

/-- Rows of at most so many elements. -/
def lnT : (t : Ty) → t.den → Prop
  | .pair a b, x => lnT a x.1 ∧ lnT b x.2
  | .sl t, xs => xs.length ≤ 1048576 ∧ ∀ x ∈ xs, lnT t x
  | .fz t, x => lnT t x
  | _, _ => True

/-- Marks, one element behind the other. -/
def mkS {α : Type} (f : Int → α → Int × α) : Int → List α → Int × List α
  | k, [] => (k, [])
  | k, x :: r => ((mkS f (f k x).1 r).1, (f k x).2 :: (mkS f (f k x).1 r).2)

/-- Marks in an element. -/
def markE : (t : Ty) → Int → t.den → Int × t.den
  | .int _, k, _ => (k + 1, k)
  | .bool, k, _ => (k + 1, Int.tmod k 3 == 0)
  | .pair a b, k, x => ((markE b (markE a k x.1).1 x.2).1, ((markE a k x.1).2, (markE b (markE a k x.1).1 x.2).2))
  | .sl t, k, xs => mkS (markE t) k xs
  | .fz t, k, x => markE t k x
  | .str, k, x => (k, x)
  | .unit, k, x => (k, x)
  | .mp _, k, x => (k, x)

/-- So many marks at most. -/
def bndT : Ty → Int
  | .int _ | .bool => 1
  | .pair a b => bndT a + bndT b
  | .sl t => 1048576 * bndT t
  | .fz t => bndT t
  | _ => 0

theorem bndT_nn : ∀ t : Ty, 0 ≤ bndT t
  | .int _ | .bool => by simp [bndT]
  | .pair a b => by have := bndT_nn a; have := bndT_nn b; simp only [bndT]; omega
  | .sl t => by have := bndT_nn t; simp only [bndT]; omega
  | .fz t => by have := bndT_nn t; simp only [bndT]; omega
  | .str | .unit | .mp _ => by simp [bndT]

theorem mkS_rng {α : Type} {f : Int → α → Int × α} {P : α → Prop} {B : Int} (hB : ∀ k x, P x → k ≤ (f k x).1 ∧ (f k x).1 ≤ k + B) : ∀ {xs : List α} (k : Int), (∀ x ∈ xs, P x) → k ≤ (mkS f k xs).1 ∧ (mkS f k xs).1 ≤ k + B * xs.length
  | [], k, _ => by simp [mkS]
  | x :: r, k, h => by
    have h1 := hB k x (h x (by simp))
    have h2 := mkS_rng hB (xs := r) (f k x).1 fun y hy => h y (by simp [hy])
    simp only [mkS, List.length_cons, Int.natCast_add, Int.natCast_one, Int.mul_add, Int.mul_one]
    omega

theorem mkS_len {α : Type} {f : Int → α → Int × α} : ∀ {xs : List α} (k : Int), (mkS f k xs).2.length = xs.length
  | [], _ => rfl
  | x :: r, k => by simp [mkS, mkS_len]

theorem markE_rng : ∀ {t : Ty} {x : t.den} (k : Int), lnT t x → k ≤ (markE t k x).1 ∧ (markE t k x).1 ≤ k + bndT t
  | .int _, _, _, _ | .bool, _, _, _ => by simp only [markE, bndT]; omega
  | .pair a b, x, k, h => by
    have h1 := markE_rng (t := a) (x := x.1) k h.1
    have h2 := markE_rng (t := b) (x := x.2) (markE a k x.1).1 h.2
    simp only [markE, bndT]; omega
  | .sl t, xs, k, h => by
    have h1 := mkS_rng (f := markE t) (P := lnT t) (B := bndT t) (fun k x hx => markE_rng k hx) (xs := xs) k h.2
    have h2 : bndT t * (xs.length : Int) ≤ bndT t * 1048576 := Int.mul_le_mul_of_nonneg_left (by have := h.1; omega) (bndT_nn t)
    simp only [markE, bndT]; omega
  | .fz t, x, k, h => markE_rng (t := t) (x := x) k h
  | .str, _, _, _ | .unit, _, _, _ | .mp _, _, _, _ => by simp only [markE, bndT]; omega

/-- Marking goes element by element. -/
theorem mark_loop {α ρ : Type} {f : Int → α → Int × α} {P : α → Prop} {B : Int} {xs : List α} {L : Nat → Int → Nat → List α → Option ρ} {fin : Int → List α → ρ} (hl : xs.length ≤ lim) (hx : ∀ x ∈ xs, P x) (b0 : 0 ≤ B)
    (hB : ∀ k x, P x → k ≤ (f k x).1 ∧ (f k x).1 ≤ k + B)
    (h1 : ∀ n k i (s : List α) (h : i < s.length), P s[i] → 0 ≤ k → k + B ≤ 4611686018427387904 → w64 ((i : Int) + 1) = ((i + 1 : Nat) : Int) → L (n + 1) k i s = L n (f k s[i]).1 (i + 1) (s.set i (f k s[i]).2))
    (h3 : ∀ n k s, L (n + 1) k s.length s = some (fin k s)) {n : Nat} (hn : xs.length < n) {k : Int} (h0 : 0 ≤ k) (hk : k + B * xs.length ≤ 4611686018427387904) : L n k 0 xs = some (fin (mkS f k xs).1 (mkS f k xs).2) := by
  have key : ∀ (ys pre : List α) (n : Nat) (k : Int), (∀ x ∈ ys, P x) → pre.length + ys.length ≤ lim → ys.length < n → 0 ≤ k → k + B * ys.length ≤ 4611686018427387904 →
      L n k pre.length (pre ++ ys) = some (fin (mkS f k ys).1 (pre ++ (mkS f k ys).2)) := by
    intro ys
    induction ys with
    | nil =>
      intro pre n k _ _ hn _ _
      obtain ⟨n, rfl⟩ : ∃ n', n = n' + 1 := ⟨n - 1, by simp at hn; omega⟩
      have := h3 n k pre
      simpa [mkS] using this
    | cons y ys ih =>
      intro pre n k hy hl hn h0 hk
      obtain ⟨n, rfl⟩ : ∃ n', n = n' + 1 := ⟨n - 1, by simp at hn; omega⟩
      have hlim : lim = 2147483648 := rfl
      simp only [List.length_cons, Int.natCast_add, Int.natCast_one, Int.mul_add, Int.mul_one] at hl hn hk
      have b1 : 0 ≤ B * (ys.length : Int) := Int.mul_nonneg b0 (by omega)
      have hlt : pre.length < (pre ++ y :: ys).length := by simp
      have hg : (pre ++ y :: ys)[pre.length] = y := by simp
      have hPy := hy y (by simp)
      have h4 := hB k y hPy
      have := h1 n k pre.length (pre ++ y :: ys) hlt (by rw [hg]; exact hPy) h0 (by omega) (w64_succ (by omega))
      rw [this, hg]
      have e : (pre ++ y :: ys).set pre.length (f k y).2 = (pre ++ [(f k y).2]) ++ ys := by simp
      have := ih (pre ++ [(f k y).2]) n (f k y).1 (fun x hx => hy x (by simp [hx])) (by simp; omega) (by omega) (by omega) (by omega)
      simp only [List.length_append, List.length_singleton] at this
      rw [e, this]
      simp [mkS]
  have := key xs [] n k hx (by simpa using hl) hn h0 hk
  simpa using this

/-- What was marked is held. -/
theorem held_loop {α ρ : Type} {f : Int → α → Int × α} {P : α → Prop} {B : Int} {xs : List α} {L : Nat → List α → Int → Nat → Option ρ} {fin : Int → ρ} (hl : xs.length ≤ lim) (hx : ∀ x ∈ xs, P x) (b0 : 0 ≤ B)
    (hB : ∀ k x, P x → k ≤ (f k x).1 ∧ (f k x).1 ≤ k + B)
    (h1 : ∀ n k i (s : List α) (h : i < s.length) x, s[i] = (f k x).2 → P x → 0 ≤ k → k + B ≤ 4611686018427387904 → w64 ((i : Int) + 1) = ((i + 1 : Nat) : Int) → L (n + 1) s k i = L n s (f k x).1 (i + 1))
    (h3 : ∀ n k s, L (n + 1) s k s.length = some (fin k)) {n : Nat} (hn : xs.length < n) {k : Int} (h0 : 0 ≤ k) (hk : k + B * xs.length ≤ 4611686018427387904) : L n (mkS f k xs).2 k 0 = some (fin (mkS f k xs).1) := by
  have key : ∀ (ys pre : List α) (n : Nat) (k : Int), (∀ x ∈ ys, P x) → pre.length + ys.length ≤ lim → ys.length < n → 0 ≤ k → k + B * ys.length ≤ 4611686018427387904 →
      L n (pre ++ (mkS f k ys).2) k pre.length = some (fin (mkS f k ys).1) := by
    intro ys
    induction ys with
    | nil =>
      intro pre n k _ _ hn _ _
      obtain ⟨n, rfl⟩ : ∃ n', n = n' + 1 := ⟨n - 1, by simp at hn; omega⟩
      have := h3 n k pre
      simpa [mkS] using this
    | cons y ys ih =>
      intro pre n k hy hl hn h0 hk
      obtain ⟨n, rfl⟩ : ∃ n', n = n' + 1 := ⟨n - 1, by simp at hn; omega⟩
      have hlim : lim = 2147483648 := rfl
      simp only [List.length_cons, Int.natCast_add, Int.natCast_one, Int.mul_add, Int.mul_one] at hl hn hk
      have b1 : 0 ≤ B * (ys.length : Int) := Int.mul_nonneg b0 (by omega)
      have hPy := hy y (by simp)
      have h4 := hB k y hPy
      simp only [mkS]
      generalize hq : (mkS f (f k y).1 ys).2 = q
      have hlt : pre.length < (pre ++ (f k y).2 :: q).length := by simp
      have hg : (pre ++ (f k y).2 :: q)[pre.length] = (f k y).2 := by simp
      rw [h1 n k pre.length _ hlt y hg hPy h0 (by omega) (w64_succ (by omega))]
      have := ih (pre ++ [(f k y).2]) n (f k y).1 (fun x hx => hy x (by simp [hx])) (by simp; omega) (by omega) (by omega) (by omega)
      rw [hq] at this
      simp only [List.length_append, List.length_singleton, List.append_assoc, List.cons_append, List.nil_append] at this
      exact this
  have := key xs [] n k hx (by simpa using hl) hn h0 hk
  simpa using this

theorem getD_set_i {α : Type} {l : List α} {i : Nat} {x d : α} (h : i < l.length) : (l.set i x).getD i d = x := by
  rw [getD_lt (by simpa using h)]; exact List.getElem_set_self _

theorem ne_step {α : Type} [DecidableEq α] {a b : α} {c : Bool} : (_root_.cond (a != b) (some (false, ())) (some (c, ())) : Option (Bool × Unit)) = some (decide (a = b) && c, ()) := by
  by_cases h : a = b <;> simp [h]
theorem not_step {d c : Bool} : (_root_.cond (!d) (some (false, ())) (some (c, ())) : Option (Bool × Unit)) = some (d && c, ()) := by
  cases d <;> rfl
theorem bool_beq {a b : Bool} : (a == b) = decide (a = b) := by cases a <;> cases b <;> rfl

/-- A row's size. -/
theorem sz_loop {α : Type} {xs : List α} (P : α → Prop) {L : Nat → Nat → Int → Option ((Int × Unit) ⊕ (Int × Unit))} {N : Nat} (hN : lim < N) {left : Int} (hx : (xs.length : Int) ≤ 9223372036854775807) (h0 : 0 ≤ left) (h1' : left ≤ 1048576)
    (h1 : ∀ n i (h : i < xs.length) (left : Int), 0 ≤ left → left ≤ 1048576 → w64 ((i : Int) + 1) = ((i + 1 : Nat) : Int) →
      L (n + 1) i left = some (.inr (-1, ())) ∨ ∃ r, 0 ≤ r ∧ r ≤ left ∧ P xs[i] ∧ L (n + 1) i left = L n (i + 1) r)
    (h3 : ∀ n left, L (n + 1) xs.length left = some (.inl (left, ()))) :
    ∃ r : Int, (_root_.cond (decide (w64 (left - (xs.length : Int)) < 0)) (some ((-1 : Int), ())) ((L N 0 (w64 (left - (xs.length : Int)))).bind fun o => Sum.elim (fun o => some (o.1, ())) (fun o => some (o.1, ())) o) : Option (Int × Unit)) = some (r, ()) ∧
      (r < 0 ∨ (0 ≤ r ∧ r ≤ left ∧ xs.length ≤ 1048576 ∧ ∀ x ∈ xs, P x)) := by
  rw [w64_id (by omega) (by omega)]
  by_cases h : left - (xs.length : Int) < 0
  · exact ⟨-1, by simp [h], by simp⟩
  · simp only [h, decide_false, cond_false]
    have hlim : lim = 2147483648 := rfl
    rcases size_loop (xs := xs) (n := N) P (by omega) h1 h3 (by omega) (left := left - xs.length) (by omega) (by omega) with hL | ⟨r, h2, h3, h4, hL⟩
    · exact ⟨-1, by rw [hL]; rfl, by simp⟩
    · exact ⟨r, by rw [hL]; rfl, .inr ⟨h2, by omega, by omega, h4⟩⟩

abbrev tIntS : Ty := (.sl (.int .i64))
abbrev tBoolS : Ty := (.sl .bool)
abbrev tShape : Ty := (.pair (.int .i64) (.pair (.int .i64) .unit))
abbrev tOp : Ty := (.pair (.int .i64) (.pair (.int .i64) (.pair (.int .i64) (.pair (.int .i64) (.pair (.int .i64) (.pair (.int .i64) (.pair (.pair (.int .i64) (.pair (.int .i64) .unit)) .unit)))))))
abbrev tOpS : Ty := (.sl (.pair (.int .i64) (.pair (.int .i64) (.pair (.int .i64) (.pair (.int .i64) (.pair (.int .i64) (.pair (.int .i64) (.pair (.pair (.int .i64) (.pair (.int .i64) .unit)) .unit))))))))
abbrev tOpSS : Ty := (.sl (.sl (.pair (.int .i64) (.pair (.int .i64) (.pair (.int .i64) (.pair (.int .i64) (.pair (.int .i64) (.pair (.int .i64) (.pair (.pair (.int .i64) (.pair (.int .i64) .unit)) .unit)))))))))
abbrev tEvent : Ty := (.pair (.int .i64) (.pair (.int .i64) (.pair (.int .i64) (.pair (.int .i64) .unit))))
abbrev tEventS : Ty := (.sl (.pair (.int .i64) (.pair (.int .i64) (.pair (.int .i64) (.pair (.int .i64) .unit)))))
abbrev tRegion : Ty := (.pair (.int .i64) (.pair (.int .i64) (.pair (.int .i64) (.pair (.int .i64) (.pair (.int .i64) .unit)))))
abbrev tRegionS : Ty := (.sl (.pair (.int .i64) (.pair (.int .i64) (.pair (.int .i64) (.pair (.int .i64) (.pair (.int .i64) .unit))))))
abbrev tThread : Ty := (.pair (.sl (.int .i64)) (.pair (.int .i64) (.pair .bool (.pair (.int .i64) .unit))))
abbrev tThreadS : Ty := (.sl (.pair (.sl (.int .i64)) (.pair (.int .i64) (.pair .bool (.pair (.int .i64) .unit)))))
abbrev tState : Ty := (.pair (.sl (.int .i64)) (.pair (.sl (.pair (.int .i64) (.pair (.int .i64) (.pair (.int .i64) (.pair (.int .i64) (.pair (.int .i64) .unit)))))) (.pair (.sl .bool) (.pair (.int .i64) (.pair .bool (.pair .bool (.pair .bool (.pair (.int .i64) (.pair (.sl (.pair (.sl (.int .i64)) (.pair (.int .i64) (.pair .bool (.pair (.int .i64) .unit))))) (.pair (.sl (.int .i64)) (.pair (.sl (.int .i64)) (.pair (.int .i64) (.pair (.int .i64) .unit)))))))))))))
abbrev tConfig : Ty := (.pair (.int .i64) (.pair (.int .i64) (.pair (.int .i64) .unit)))
abbrev tCall : Ty := (.pair (.int .i64) (.pair (.int .i64) (.pair (.int .i64) (.pair (.int .i64) (.pair (.int .i64) (.pair (.int .i64) .unit))))))
abbrev tCallS : Ty := (.sl (.pair (.int .i64) (.pair (.int .i64) (.pair (.int .i64) (.pair (.int .i64) (.pair (.int .i64) (.pair (.int .i64) .unit)))))))
abbrev tNode : Ty := (.pair (.sl (.int .i64)) (.pair (.sl (.int .i64)) .unit))
abbrev tNodeS : Ty := (.sl (.pair (.sl (.int .i64)) (.pair (.sl (.int .i64)) .unit)))
abbrev tIntSS : Ty := (.sl (.sl (.int .i64)))
abbrev tGraph : Ty := (.pair (.sl (.pair (.sl (.int .i64)) (.pair (.sl (.int .i64)) .unit))) (.pair (.sl (.sl (.int .i64))) (.pair (.sl (.int .i64)) .unit)))
instance decOp_6 : DecidableEq ((Int × Int × Unit) × Unit) := @instDecidableEqProd _ _ inferInstance inferInstance
instance decOp_5 : DecidableEq (Int × ((Int × Int × Unit) × Unit)) := @instDecidableEqProd _ _ inferInstance decOp_6
instance decOp_4 : DecidableEq (Int × (Int × (Int × Int × Unit) × Unit)) := @instDecidableEqProd _ _ inferInstance decOp_5
instance decOp_3 : DecidableEq (Int × (Int × Int × (Int × Int × Unit) × Unit)) := @instDecidableEqProd _ _ inferInstance decOp_4
instance decOp_2 : DecidableEq (Int × (Int × Int × Int × (Int × Int × Unit) × Unit)) := @instDecidableEqProd _ _ inferInstance decOp_3
instance decOp_1 : DecidableEq (Int × (Int × Int × Int × Int × (Int × Int × Unit) × Unit)) := @instDecidableEqProd _ _ inferInstance decOp_2
instance decOp_0 : DecidableEq (Int × (Int × Int × Int × Int × Int × (Int × Int × Unit) × Unit)) := @instDecidableEqProd _ _ inferInstance decOp_1
instance decRegion_4 : DecidableEq (Int × Unit) := @instDecidableEqProd _ _ inferInstance inferInstance
instance decRegion_3 : DecidableEq (Int × (Int × Unit)) := @instDecidableEqProd _ _ inferInstance decRegion_4
instance decRegion_2 : DecidableEq (Int × (Int × Int × Unit)) := @instDecidableEqProd _ _ inferInstance decRegion_3
instance decRegion_1 : DecidableEq (Int × (Int × Int × Int × Unit)) := @instDecidableEqProd _ _ inferInstance decRegion_2
instance decRegion_0 : DecidableEq (Int × (Int × Int × Int × Int × Unit)) := @instDecidableEqProd _ _ inferInstance decRegion_1
instance decState_12 : DecidableEq (Int × Unit) := @instDecidableEqProd _ _ inferInstance inferInstance
instance decState_11 : DecidableEq (Int × (Int × Unit)) := @instDecidableEqProd _ _ inferInstance decState_12
instance decState_10 : DecidableEq ((List Int) × (Int × Int × Unit)) := @instDecidableEqProd _ _ inferInstance decState_11
instance decState_9 : DecidableEq ((List Int) × ((List Int) × Int × Int × Unit)) := @instDecidableEqProd _ _ inferInstance decState_10
instance decState_8 : DecidableEq ((List ((List Int) × Int × Bool × Int × Unit)) × ((List Int) × (List Int) × Int × Int × Unit)) := @instDecidableEqProd _ _ inferInstance decState_9
instance decState_7 : DecidableEq (Int × ((List ((List Int) × Int × Bool × Int × Unit)) × (List Int) × (List Int) × Int × Int × Unit)) := @instDecidableEqProd _ _ inferInstance decState_8
instance decState_6 : DecidableEq (Bool × (Int × (List ((List Int) × Int × Bool × Int × Unit)) × (List Int) × (List Int) × Int × Int × Unit)) := @instDecidableEqProd _ _ inferInstance decState_7
instance decState_5 : DecidableEq (Bool × (Bool × Int × (List ((List Int) × Int × Bool × Int × Unit)) × (List Int) × (List Int) × Int × Int × Unit)) := @instDecidableEqProd _ _ inferInstance decState_6
instance decState_4 : DecidableEq (Bool × (Bool × Bool × Int × (List ((List Int) × Int × Bool × Int × Unit)) × (List Int) × (List Int) × Int × Int × Unit)) := @instDecidableEqProd _ _ inferInstance decState_5
instance decState_3 : DecidableEq (Int × (Bool × Bool × Bool × Int × (List ((List Int) × Int × Bool × Int × Unit)) × (List Int) × (List Int) × Int × Int × Unit)) := @instDecidableEqProd _ _ inferInstance decState_4
instance decState_2 : DecidableEq ((List Bool) × (Int × Bool × Bool × Bool × Int × (List ((List Int) × Int × Bool × Int × Unit)) × (List Int) × (List Int) × Int × Int × Unit)) := @instDecidableEqProd _ _ inferInstance decState_3
instance decState_1 : DecidableEq ((List (Int × Int × Int × Int × Int × Unit)) × ((List Bool) × Int × Bool × Bool × Bool × Int × (List ((List Int) × Int × Bool × Int × Unit)) × (List Int) × (List Int) × Int × Int × Unit)) := @instDecidableEqProd _ _ inferInstance decState_2
instance decState_0 : DecidableEq ((List Int) × ((List (Int × Int × Int × Int × Int × Unit)) × (List Bool) × Int × Bool × Bool × Bool × Int × (List ((List Int) × Int × Bool × Int × Unit)) × (List Int) × (List Int) × Int × Int × Unit)) := @instDecidableEqProd _ _ inferInstance decState_1
instance decCall_5 : DecidableEq (Int × Unit) := @instDecidableEqProd _ _ inferInstance inferInstance
instance decCall_4 : DecidableEq (Int × (Int × Unit)) := @instDecidableEqProd _ _ inferInstance decCall_5
instance decCall_3 : DecidableEq (Int × (Int × Int × Unit)) := @instDecidableEqProd _ _ inferInstance decCall_4
instance decCall_2 : DecidableEq (Int × (Int × Int × Int × Unit)) := @instDecidableEqProd _ _ inferInstance decCall_3
instance decCall_1 : DecidableEq (Int × (Int × Int × Int × Int × Unit)) := @instDecidableEqProd _ _ inferInstance decCall_2
instance decCall_0 : DecidableEq (Int × (Int × Int × Int × Int × Int × Unit)) := @instDecidableEqProd _ _ inferInstance decCall_1

section
variable {N : Nat} (hN : lim < N)
include hN

theorem wszRegionS_ok {xs : (List (Int × Int × Int × Int × Int × Unit))} {left : Int} (hx : Wf tRegionS xs) (h0 : 0 ≤ left) (h1 : left ≤ 1048576) : ∃ r, FvszRegionS N (xs, left, ()) = some (r, ()) ∧ (r < 0 ∨ (0 ≤ r ∧ r ≤ left ∧ lnT tRegionS xs)) := by
  have hx1 := hx.1
  simp only [maxLen] at hx1
  simp only [FvszRegionS]
  rw [w64_id (by omega) (by omega)]
  by_cases h : left - (xs.length : Int) < 0
  · simp [h]
  · refine ⟨left - (xs.length : Int), by simp [h], .inr ⟨by omega, by omega, by omega, fun x _ => ?_⟩⟩
    simp [lnT]
end

section
variable {N : Nat} (hN : lim < N)
include hN

theorem wtoRegion_ok {x : (Int × Int × Int × Int × Int × Unit)} (hx : lnT tRegion x) : FvtoRegion N (x, ()) = some (x.1, x.2.1, x.2.2.1, x.2.2.2.1, x.2.2.2.2.1, ()) := by
  simp [FvtoRegion]
end

section
variable {N : Nat} (hN : lim < N)
include hN

theorem wtoRegionS_ok {xs : (List (Int × Int × Int × Int × Int × Unit))} (hx : lnT tRegionS xs) : FvtoRegionS N (xs, ()) = some (xs, ()) := by
  have hlim : lim = 2147483648 := rfl
  have hl : xs.length ≤ lim := by have := hx.1; omega
  have hL := fill_loop (xs := xs) (n := N) id (L := fun n i s => lvtoRegionS_0 N n (xs, (i : Int), s, ())) (fin := fun s => (s, ())) hl
    (fun n i s h hw hs => by
      have hs' : i < s.length := by omega
      simp [lvtoRegionS_0, h, hs', hw, wtoRegion_ok hN (hx.2 xs[i] (List.getElem_mem h))])
    (fun n s hs => by simp [lvtoRegionS_0]) (by omega) (s := List.replicate xs.length ((0 : Int), (0 : Int), (0 : Int), (0 : Int), (0 : Int), ())) (by simp)
  simp only [Int.natCast_zero] at hL
  simp [FvtoRegionS, hL, hl]
end

section
variable {N : Nat} (hN : lim < N)
include hN

theorem wtoIntS_ok {xs : (List Int)} (hx : lnT tIntS xs) : FvtoIntS N (xs, ()) = some (xs, ()) := by
  have hlim : lim = 2147483648 := rfl
  have hl : xs.length ≤ lim := by have := hx.1; omega
  have hL := fill_loop (xs := xs) (n := N) id (L := fun n i s => lvtoIntS_0 N n (xs, (i : Int), s, ())) (fin := fun s => (s, ())) hl
    (fun n i s h hw hs => by
      have hs' : i < s.length := by omega
      simp [lvtoIntS_0, h, hs', hw])
    (fun n s hs => by simp [lvtoIntS_0]) (by omega) (s := List.replicate xs.length (0 : Int)) (by simp)
  simp only [Int.natCast_zero] at hL
  simp [FvtoIntS, hL, hl]
end

section
variable {N : Nat} (hN : lim < N)
include hN

theorem weqIntS_ok {xs ys : (List Int)} (hx : lnT tIntS xs) : FveqIntS N (xs, ys, ()) = some (decide (xs = ys), ()) := by
  have hlim : lim = 2147483648 := rfl
  have hl : xs.length ≤ lim := by have := hx.1; omega
  by_cases hlen : xs.length = ys.length
  · have hL := eq_loop (xs := xs) (ys := ys) (n := N) (L := fun n i => lveqIntS_0 N n (xs, ys, (i : Int), ())) (yes := .inl ()) (no := .inr (false, ())) hl hlen
      (fun n i h1 h2 hw hq => by
        simp [lveqIntS_0, h1, h2, hw, hq])
      (fun n i h1 h2 hq => by simp [lveqIntS_0, h1, h2, hq])
      (fun n => by simp [lveqIntS_0, hlen]) (by omega)
    simp only [Int.natCast_zero] at hL
    rcases Decidable.em (xs = ys) with rfl | h
    · simp [FveqIntS, hL]
    · simp [FveqIntS, hL, h, hlen]
  · have h : xs ≠ ys := fun h => hlen (by rw [h])
    have h2 : (xs.length : Int) ≠ ys.length := by omega
    simp [FveqIntS, h, h2]
end

section
variable {N : Nat} (hN : lim < N)
include hN

theorem weqRegion_ok {x y : (Int × Int × Int × Int × Int × Unit)} (hx : lnT tRegion x) : FveqRegion N (x, y, ()) = some (decide (x = y), ()) := by
  obtain ⟨xa, xb, xc, xd, xe, ⟨⟩⟩ := x
  obtain ⟨ya, yb, yc, yd, ye, ⟨⟩⟩ := y
  simp only [FveqRegion, Option.bind_some, ne_step, not_step, bool_beq]
  simp only [Prod.mk.injEq, Bool.decide_and, and_true, Bool.and_true, decide_true]
end

section
variable {N : Nat} (hN : lim < N)
include hN

theorem weqRegionS_ok {xs ys : (List (Int × Int × Int × Int × Int × Unit))} (hx : lnT tRegionS xs) : FveqRegionS N (xs, ys, ()) = some (decide (xs = ys), ()) := by
  have hlim : lim = 2147483648 := rfl
  have hl : xs.length ≤ lim := by have := hx.1; omega
  by_cases hlen : xs.length = ys.length
  · have hL := eq_loop (xs := xs) (ys := ys) (n := N) (L := fun n i => lveqRegionS_0 N n (xs, ys, (i : Int), ())) (yes := .inl ()) (no := .inr (false, ())) hl hlen
      (fun n i h1 h2 hw hq => by
        have e := weqRegion_ok hN (y := ys[i]) (hx.2 _ (List.getElem_mem h1))
        rw [decide_eq_true hq] at e
        simp [lveqRegionS_0, h1, h2, hw, e])
      (fun n i h1 h2 hq => by simp [lveqRegionS_0, h1, h2, hq, weqRegion_ok hN (y := ys[i]) (hx.2 _ (List.getElem_mem h1))])
      (fun n => by simp [lveqRegionS_0, hlen]) (by omega)
    simp only [Int.natCast_zero] at hL
    rcases Decidable.em (xs = ys) with rfl | h
    · simp [FveqRegionS, hL]
    · simp [FveqRegionS, hL, h, hlen]
  · have h : xs ≠ ys := fun h => hlen (by rw [h])
    have h2 : (xs.length : Int) ≠ ys.length := by omega
    simp [FveqRegionS, h, h2]
end

section
variable {N : Nat} (hN : lim < N)
include hN

theorem wmarkRegionS_ok {k : Int} {xs : (List (Int × Int × Int × Int × Int × Unit))} (hx : lnT tRegionS xs) (h0 : 0 ≤ k) (h1 : k + bndT tRegionS ≤ 4611686018427387904) : FvmarkRegionS N (k, xs, ()) = some ((markE tRegionS k xs).1, (markE tRegionS k xs).2, ()) := by
  have hlim : lim = 2147483648 := rfl
  have hx1 := hx.1
  have hL := mark_loop (f := markE tRegion) (P := lnT tRegion) (B := bndT tRegion) (xs := xs) (n := N) (k := k) (L := fun n k i s => lvmarkRegionS_0 N n (k, (i : Int), s, ())) (fin := fun k s => (k, s, ())) (by omega) hx.2 (bndT_nn _) (fun k x hx => markE_rng k hx)
    (fun n k i s h hP hk0 hk hw => by
      have hb := hk; simp only [bndT] at hb
      have w0 : w64 (k + 1) = k + 1 := w64_id (by omega) (by omega)
      have w1 : w64 (k + 1 + 1) = k + 1 + 1 := w64_id (by omega) (by omega)
      have w2 : w64 (k + 1 + 1 + 1) = k + 1 + 1 + 1 := w64_id (by omega) (by omega)
      have w3 : w64 (k + 1 + 1 + 1 + 1) = k + 1 + 1 + 1 + 1 := w64_id (by omega) (by omega)
      have w4 : w64 (k + 1 + 1 + 1 + 1 + 1) = k + 1 + 1 + 1 + 1 + 1 := w64_id (by omega) (by omega)
      simp only [lvmarkRegionS_0, Int.ofNat_lt, h, decide_true, cond_true, Int.natCast_nonneg, Int.toNat_natCast, List.length_set, getD_set_i h, List.set_set, getD_lt h, hw, Option.bind_some, w0, w1, w2, w3, w4, show decide ((3 : Int) = 0) = false from rfl, cond_false]
      try simp only [markE])
    (fun n k s => by simp [lvmarkRegionS_0]) (by omega) h0 (by
      have : bndT tRegion * (xs.length : Int) ≤ bndT tRegion * 1048576 := Int.mul_le_mul_of_nonneg_left (by omega) (bndT_nn _)
      have e2 : bndT tRegionS = 1048576 * bndT tRegion := rfl
      omega)
  simp only [Int.natCast_zero] at hL
  simp only [FvmarkRegionS, hL, Option.bind_some, markE]
end

section
variable {N : Nat} (hN : lim < N)
include hN

theorem wmarkIntS_ok {k : Int} {xs : (List Int)} (hx : lnT tIntS xs) (h0 : 0 ≤ k) (h1 : k + bndT tIntS ≤ 4611686018427387904) : FvmarkIntS N (k, xs, ()) = some ((markE tIntS k xs).1, (markE tIntS k xs).2, ()) := by
  have hlim : lim = 2147483648 := rfl
  have hx1 := hx.1
  have hL := mark_loop (f := markE (.int .i64)) (P := lnT (.int .i64)) (B := bndT (.int .i64)) (xs := xs) (n := N) (k := k) (L := fun n k i s => lvmarkIntS_0 N n (k, (i : Int), s, ())) (fin := fun k s => (k, s, ())) (by omega) hx.2 (bndT_nn _) (fun k x hx => markE_rng k hx)
    (fun n k i s h hP hk0 hk hw => by
      have hb := hk; simp only [bndT] at hb
      have w0 : w64 (k + 1) = k + 1 := w64_id (by omega) (by omega)
      simp only [lvmarkIntS_0, Int.ofNat_lt, h, decide_true, cond_true, Int.natCast_nonneg, Int.toNat_natCast, List.length_set, getD_set_i h, List.set_set, getD_lt h, hw, Option.bind_some, w0, show decide ((3 : Int) = 0) = false from rfl, cond_false]
      try simp only [markE])
    (fun n k s => by simp [lvmarkIntS_0]) (by omega) h0 (by
      have : bndT (.int .i64) * (xs.length : Int) ≤ bndT (.int .i64) * 1048576 := Int.mul_le_mul_of_nonneg_left (by omega) (bndT_nn _)
      have e2 : bndT tIntS = 1048576 * bndT (.int .i64) := rfl
      omega)
  simp only [Int.natCast_zero] at hL
  simp only [FvmarkIntS, hL, Option.bind_some, markE]
end

section
variable {N : Nat} (hN : lim < N)
include hN

theorem wheldIntS_ok {k : Int} {xs : (List Int)} (hx : lnT tIntS xs) (h0 : 0 ≤ k) (h1 : k + bndT tIntS ≤ 4611686018427387904) : FvheldIntS N ((markE tIntS k xs).2, k, ()) = some ((markE tIntS k xs).1, ()) := by
  have hlim : lim = 2147483648 := rfl
  have hx1 := hx.1
  have hL := held_loop (f := markE (.int .i64)) (P := lnT (.int .i64)) (B := bndT (.int .i64)) (xs := xs) (n := N) (k := k) (L := fun n s k i => lvheldIntS_0 N n (s, k, (i : Int), ())) (fin := fun k => .inl (k, ())) (by omega) hx.2 (bndT_nn _) (fun k x hx => markE_rng k hx)
    (fun n k i s h x hg hP hk0 hk hw => by
      have hb := hk; simp only [bndT] at hb
      have w0 : w64 (k + 1) = k + 1 := w64_id (by omega) (by omega)
      have hE : markE (.int .i64) k x = (k + 1, k) := rfl
      rw [hE] at hg ⊢
      simp only [lvheldIntS_0, Int.ofNat_lt, h, decide_true, cond_true, Int.natCast_nonneg, Int.toNat_natCast, getD_lt h, hg, hw, Option.bind_some, w0, bif_bne, if_true, decide_false, cond_false, beq_self_eq_true, Bool.not_true, show decide ((3 : Int) = 0) = false from rfl])
    (fun n k s => by simp [lvheldIntS_0]) (by omega) h0 (by
      have : bndT (.int .i64) * (xs.length : Int) ≤ bndT (.int .i64) * 1048576 := Int.mul_le_mul_of_nonneg_left (by omega) (bndT_nn _)
      have e2 : bndT tIntS = 1048576 * bndT (.int .i64) := rfl
      omega)
  simp only [Int.natCast_zero] at hL
  unfold FvheldIntS
  dsimp only
  rw [show markE tIntS k xs = mkS (markE (.int .i64)) k xs from rfl, hL]
  rfl
end

section
variable {N : Nat} (hN : lim < N)
include hN
theorem choose_len {t : List Rgx} {left : Int} {held : List Int} : (choose t left held).1.length ≤ 1000 ∧ (choose t left held).2.length ≤ 1000 := by
  unfold choose
  cases ht : tableOk t with
  | false => simp
  | true =>
    have h := chStep_len (t := t) (l := bucks (keyR t) (cand t held) 17) (st := (left, [], []))
    have hb : (bucks (keyR t) (cand t held) 17).length = (cand t held).length := bucks_len fun r hr => by have := cand_mem (held := held) ht r hr; omega
    have hc : (cand t held).length ≤ t.length - 1 := by
      simp only [cand, List.length_map]
      have := List.length_filter_le (candB t held) (List.range' 1 (t.length - 1))
      simpa using this
    have := tableOk_iff ht
    simp only [List.length_nil] at h
    simp only [if_true]
    omega
theorem FnExactTableChoose_ok {t : List Rgx} {left : Int} {held : List Int} (h1 : Wf tRegionS t) (h2 : Wf tIntS held) : FvFnExactTableChoose N (t, left, held, ()) = some (true, ()) := by
  unfold FvFnExactTableChoose
  by_cases hbig : (held.length : Int) > 1048576
  · simp [hbig]
  obtain ⟨r1, e1, hh⟩ := wszRegionS_ok hN h1 (left := 1048576) (by omega) (by omega)
  simp only [hbig, e1, Option.bind_some, decide_false, cond_false]
  rcases hh with hh | ⟨c1, d1, l1⟩
  · simp only [hh, decide_true, cond_true]
  have n1 : ¬ r1 < 0 := by omega
  have l2 : lnT tIntS held := ⟨by omega, fun x _ => by simp [lnT]⟩
  have hx : ∀ x ∈ t, -9223372036854775808 ≤ x.2.1 ∧ x.2.1 < 9223372036854775808 := fun x hx => wf_i64 (h1.2 x hx).2.1
  have es := sTableChoose_ok hN (left := left) (held := held) l1.1 l2.1 hx
  have ei := iTableChoose_ok hN (t := t) (left := left) (held := held) l1.1 l2.1
  obtain ⟨cl1, cl2⟩ := choose_len hN (t := t) (left := left) (held := held)
  generalize choose t left held = c at es ei cl1 cl2
  obtain ⟨u, v⟩ := c
  dsimp only at es ei cl1 cl2
  have l3 : lnT tIntS u := ⟨by omega, fun x _ => by simp [lnT]⟩
  have l4 : lnT tIntS v := ⟨by omega, fun x _ => by simp [lnT]⟩
  have t0 := wtoRegionS_ok hN l1
  have t1 := wtoIntS_ok hN l2
  have q1 := weqRegionS_ok hN (ys := t) l1
  have q2 := weqIntS_ok hN (ys := held) l2
  have q3 := weqIntS_ok hN (ys := u) l3
  have q4 := weqIntS_ok hN (ys := v) l4
  have k1 := wmarkRegionS_ok hN (k := 1) l1 (by omega) (by simp only [bndT]; omega)
  have b1 := markE_rng (t := tRegionS) (x := t) 1 l1
  simp only [bndT] at b1
  have k2 := wmarkIntS_ok hN (k := (markE tRegionS 1 t).1) l2 (by omega) (by simp only [bndT]; omega)
  have b2 := markE_rng (t := tIntS) (x := held) (markE tRegionS 1 t).1 l2
  have n2 : ¬ (markE tIntS (markE tRegionS 1 t).1 held).1 < 0 := by omega
  have k3 := wmarkIntS_ok hN (k := 1) l3 (by omega) (by simp only [bndT]; omega)
  have h3 := wheldIntS_ok hN (k := 1) l3 (by omega) (by simp only [bndT]; omega)
  have b3 := markE_rng (t := tIntS) (x := u) 1 l3
  simp only [bndT] at b3
  generalize markE tIntS 1 u = m3 at k3 h3 b3
  obtain ⟨m3, u'⟩ := m3
  dsimp only at k3 h3 b3
  have k4 := wmarkIntS_ok hN (k := m3) l4 (by omega) (by simp only [bndT]; omega)
  have h4 := wheldIntS_ok hN (k := m3) l4 (by omega) (by simp only [bndT]; omega)
  have b4 := markE_rng (t := tIntS) (x := v) m3 l4
  generalize markE tIntS m3 v = m4 at k4 h4 b4
  obtain ⟨m4, v'⟩ := m4
  dsimp only at k4 h4 b4
  have n3 : ¬ m3 < 0 := by omega
  have n4 : ¬ m4 < 0 := by omega
  simp only [n1, t0, t1, es, ei, q1, q2, q3, q4, k1, k2, k3, k4, h3, h4, n2, n3, n4, decide_true, decide_false, Bool.not_true, cond_false, Option.bind_some, Sum.elim_inl, beq_self_eq_true, bif_bne, if_true]
end
end Go.Fl
