/- An evaluator of loaded functions, and that it is sound (part 2); no conditions. -/
import Derived.Test.YtemafmecjmgafaaDoorK1
import Derived.Great.BuildSlice
import Derived.Deep.AppendSrc
import Derived.Laws.Slices
import Derived.MapKept
import Derived.Maps.RangeRun
import Derived.Laws.BytesString
import Derived.Laws.CopyRow
import Derived.Laws.IdiomCopy
import Derived.Lib.SliceRun
set_option linter.all false
/- Stores. -/
namespace Go.Fl
open Go

theorem apart_two {bx : Bxs} {γ : Gam} (h : (owned bx γ).Nodup) {b d : Nat} {x y : Box} (hb : find bx b = some x) (hd : find bx d = some y) (hne : b ≠ d) {n : Nat} (h1 : n ∈ (γ b).F) (h2 : n ∈ (γ d).F) : False :=
  owned_split (q := fun p => p.1 == b) h (mem_owned_iff.2 ⟨(b, x), List.mem_filter.2 ⟨find_mem hb, by simp⟩, h1⟩)
    (mem_owned_iff.2 ⟨(d, y), List.mem_filter.2 ⟨find_mem hd, by simpa using Ne.symm hne⟩, h2⟩)

theorem box_nodup {bx : Bxs} {γ : Gam} (h : (owned bx γ).Nodup) {b : Nat} {x : Box} (hb : find bx b = some x) : (γ b).F.Nodup :=
  (List.sublist_flatten_of_mem (List.mem_map.2 ⟨_, find_mem hb, rfl⟩)).nodup h

theorem mem_FsOf {γ : Nat → Gh} {ds : List Nat} {n : Nat} : n ∈ FsOf γ ds ↔ ∃ d ∈ ds, n ∈ (γ d).F := by
  constructor
  · intro h
    obtain ⟨l, hl, hn⟩ := List.mem_flatten.1 h
    obtain ⟨d, hd, rfl⟩ := List.mem_map.1 hl
    exact ⟨d, hd, hn⟩
  · rintro ⟨d, hd, hn⟩
    exact List.mem_flatten.2 ⟨_, List.mem_map.2 ⟨d, hd, rfl⟩, hn⟩

theorem FsOf_nodup {bx : Bxs} {γ : Gam} (h : (owned bx γ).Nodup) : ∀ {ds : List Nat}, ds.Nodup → (∀ d ∈ ds, ∃ x, find bx d = some x) → (FsOf γ ds).Nodup := by
  intro ds
  induction ds with
  | nil => intro _ _; simp [FsOf]
  | cons d r ih =>
    intro hn hx
    obtain ⟨hd, hr⟩ := List.nodup_cons.1 hn
    have : FsOf γ (d :: r) = (γ d).F ++ FsOf γ r := by simp [FsOf]
    rw [this, List.nodup_append]
    obtain ⟨x, hx'⟩ := hx d (by simp)
    refine ⟨box_nodup h hx', ih hr fun e he => hx e (by simp [he]), fun a ha b hb hab => ?_⟩
    subst hab
    obtain ⟨e, he, hne⟩ := mem_FsOf.1 hb
    obtain ⟨y, hy⟩ := hx e (by simp [he])
    exact apart_two h hx' hy (fun h' => hd (h' ▸ he)) ha hne

theorem nodupB_spec : ∀ {l : List Nat}, nodupB l = true → l.Nodup := by
  intro l
  induction l with
  | nil => intro _; exact List.nodup_nil
  | cons x r ih =>
    intro h
    simp only [nodupB, Bool.and_eq_true, Bool.not_eq_true', List.contains_eq_mem, decide_eq_false_iff_not] at h
    exact List.nodup_cons.2 ⟨h.1, ih h.2⟩

theorem owned_contains {bx : Bxs} {γ : Gam} {ds : List Nat} (hx : ∀ d ∈ ds, ∃ x, find bx d = some x) {n : Nat} : n ∈ FsOf γ ds → n ∈ owned (bx.filter fun p => ds.contains p.1) γ := by
  intro h
  obtain ⟨d, hd, hn⟩ := mem_FsOf.1 h
  obtain ⟨x, hx'⟩ := hx d hd
  exact mem_owned_iff.2 ⟨(d, x), List.mem_filter.2 ⟨find_mem hx', by simpa using hd⟩, hn⟩

section
variable {P : Program} {te : List (Nat × Ty)} {T : Nat} {t : Ty} {w : World}

theorem ex_store {o : Oper} {x y : Operand} {ρ : Operand → Value} {u v : Value} {w' : World} (ho : o.op = .store T x y) (hx : ρ x = u) (hy : ρ y = v)
    (hr : (Instr.storeAt T u v).run P w = .ok () w') : (execOp ρ o).run P w = .ok .skip w' := by
  simp [execOp, ho, hx, hy, hr]

theorem run_storeAt {T : Nat} {bl off : Nat} {v : Value} {cs : List Value} {cur : Array Value} {e : TypeId} (hf : TyFact P te T t) (hc : v.cells = cs.toArray) (hl : cs.length = t.sz)
    (h1 : ∀ c ∈ cs, c.oneCell' = true) (hg : w.heap[bl]? = some (.cells cur e (0, 0))) (hsz : off + cs.length ≤ cur.size) :
    (Instr.storeAt T (.pointer (some ⟨bl, off, none⟩)) v).run P w = .ok () (w.setRow bl (cur.toList.take off ++ cs ++ cur.toList.drop (off + cs.length)).toArray) := by
  have hst := run_storeCells_at P bl off e cs 0 cur w hg (by simpa using hsz) h1
  simp only [Nat.add_zero] at hst
  simp [Instr.storeAt, Instr.sureAddr, storeVar, hc, hf.size, hl, hst]

theorem setRow_heapEq (w : World) (bl : Nat) (cs : Array Value) {n : Nat} (h : n ≠ bl) : (w.setRow bl cs).heap[n]? = w.heap[n]? := setRow_other w bl n cs h

/-- A box is turned, others are taken in: the handles that are not dead stay. -/
theorem StG.turn2 {w0 w' : World} {own0 : Ow} {s : S} {γ : Gam} {a : Act} (h : StG w0 own0 s γ a w) {b : Nat} {x y : Box} {ds dead : List Nat} (hb : find s.bx b = some x) (hl : x.like y)
    (hds : ∀ d ∈ ds, ∃ z, find s.bx d = some z) (hdd : ∀ d ∈ ds, d ∈ dead)
    (hos : w'.os = w.os) (htape : w'.tape = w.tape) (hout : w'.output = w.output) (hsize : w.heap.size = w'.heap.size)
    (hkeep : ∀ n, n ∉ (γ b).F → n ∉ FsOf γ ds → w'.heap[n]? = w.heap[n]?) {F' : List Nat} (hF' : F'.Nodup) (hFs : ∀ n ∈ F', n ∈ (γ b).F ∨ n ∈ FsOf γ ds)
    (hhs : nid b ∉ dead → Hs w w' (γ b) x)
    (hbox : ∀ (ok' : Nat → Prop) (bx' : Bxs) (γ' : Gam), (∀ n, okOf w s.bx γ n → ok' n) → (∀ n, okOf w s.bx γ n → w'.heap[n]? = w.heap[n]?) → Pres id w s.bx γ w' bx' γ' (dead.contains ·) →
      γ' b = { γ b with F := F' } → BoxRel w' ok' bx' γ' b y) :
    ∃ γ', StG w0 own0 (s.reb [(b, y)] ((b :: ds).contains ·) (dead.contains ·)) γ' a w' ∧ ∀ n, okOf w s.bx γ n → okOf w' (s.reb [(b, y)] ((b :: ds).contains ·) (dead.contains ·)).bx γ' n := by
  have hfind : find [(b, y)] b = some y := by simp [find]
  have hall : ∀ d ∈ b :: ds, ∃ z, find s.bx d = some z := fun d hd => (List.mem_cons.1 hd).elim (fun e => ⟨x, e ▸ hb⟩) (hds d)
  have hD : ∀ n, n ∈ (γ b).F ∨ n ∈ FsOf γ ds → n ∈ owned (s.bx.filter fun p => (b :: ds).contains p.1) γ := fun n hn =>
    owned_contains hall (by rcases hn with hn | hn
                            · exact mem_FsOf.2 ⟨b, by simp, hn⟩
                            · obtain ⟨d, hd, hnd⟩ := mem_FsOf.1 hn
                              exact mem_FsOf.2 ⟨d, by simp [hd], hnd⟩)
  refine ⟨_, And.imp id And.left (h.reb (w' := w') (nb := [(b, y)]) (D := ((b :: ds).contains ·)) (dead := (dead.contains ·)) (g := fun _ => { γ b with F := F' }) hos htape hout (Nat.le_of_eq hsize) ?_ (by simp) ?_ ?_ ?_ ?_ ?_)⟩
  · intro n _ hn; exact hkeep n (fun hm => hn (hD n (.inl hm))) fun hm => hn (hD n (.inr hm))
  · intro p hp; simp at hp; subst hp; exact .inl (by simp)
  · simpa [owned] using hF'
  · intro n hn
    have hn' : n ∈ F' := by simpa [owned] using hn
    have := hD n (hFs n hn')
    exact ⟨by have := h.inv.below n (owned_filter_mem this); omega, .inr this⟩
  · intro k z hk hkD hz
    have hk' : k ∉ dead := by simpa using hk
    have hkb : k = b := by
      have : k ∈ b :: ds := by simpa using hkD
      rcases List.mem_cons.1 this with h | h
      · exact h
      · exact absurd (hdd k h) hk'
    subst hkb
    rw [hb] at hz
    cases hz
    exact ⟨y, hfind, hl, rfl, fun _ => rfl, fun hd => hhs (by simpa using hd)⟩
  · intro hok hwk hp k z hk
    simp only [find_cons] at hk
    split at hk
    · rename_i hkb; subst hkb; cases hk; exact hbox _ _ _ hok hwk hp (over_new hfind)
    · simp [find] at hk

theorem StG.turn {w0 w' : World} {own0 : Ow} {s : S} {γ : Gam} {a : Act} (h : StG w0 own0 s γ a w) {b : Nat} {x y : Box} {ds dead : List Nat} (hb : find s.bx b = some x) (hl : x.like y)
    (hds : ∀ d ∈ ds, ∃ z, find s.bx d = some z) (hdd : ∀ d ∈ ds, d ∈ dead)
    (hos : w'.os = w.os) (htape : w'.tape = w.tape) (hout : w'.output = w.output) (hsize : w.heap.size = w'.heap.size)
    (hkeep : ∀ n, n ∉ (γ b).F → n ∉ FsOf γ ds → w'.heap[n]? = w.heap[n]?) {F' : List Nat} (hF' : F'.Nodup) (hFs : ∀ n ∈ F', n ∈ (γ b).F ∨ n ∈ FsOf γ ds)
    (hhs : nid b ∉ dead → Hs w w' (γ b) x)
    (hbox : ∀ (ok' : Nat → Prop) (bx' : Bxs) (γ' : Gam), (∀ n, okOf w s.bx γ n → ok' n) → (∀ n, okOf w s.bx γ n → w'.heap[n]? = w.heap[n]?) → Pres id w s.bx γ w' bx' γ' (dead.contains ·) →
      γ' b = { γ b with F := F' } → BoxRel w' ok' bx' γ' b y) :
    ∃ γ', StG w0 own0 (s.reb [(b, y)] ((b :: ds).contains ·) (dead.contains ·)) γ' a w' :=
  let ⟨γ', h1, _⟩ := h.turn2 (dead := dead) hb hl hds hdd hos htape hout hsize hkeep hF' hFs hhs hbox
  ⟨γ', h1⟩

theorem Hs.var (w w' : World) (g : Gh) (ls : List L) : Hs w w' g (.var ls) := fun t n h => by simp [Box.hd] at h

/-- The cells of a variable's block, one part replaced. -/
theorem sim_store_ptr {o : Oper} {s : S} {x y : Operand} {b off : Nat} {ls : List L} {v : W} {site : Nat} {nl : List (Nat × Ty)} (hte : TyOk P te) (ho : o.op = .store T x y) (ht : find te T = some t)
    (hx : s.opv x = .w (.one (.ptr b off))) (hy : s.opv y = .w v) (hb : find s.bx b = some (.var ls)) (hl : (nilRows site nl v.leaves).1.length = t.sz) (ho2 : off + t.sz ≤ ls.length) (hz : t.sz ≠ 0)
    {e : Ef} (he : e = unE ((b, .var (ls.take off ++ (nilRows site nl v.leaves).1 ++ ls.drop (off + t.sz))) :: (nilRows site nl v.leaves).2) [b] []) (hok : e.okB s.bx = true) :
    OpSim P o s (s.app o.dst e) := by
  intro w0 own0 a w ⟨γ, hst⟩ next Q hn
  subst he
  rw [app_eq] at hn
  rw [nilRows_len] at hl
  obtain ⟨hnd, hfr⟩ := nodup_of_okB hok
  simp only [unE, List.map_cons] at hnd hfr hn
  have hnb : b ∉ (nilRows site nl v.leaves).2.map (·.1) := (List.nodup_cons.1 hnd).1
  have hfr' : ∀ p ∈ (nilRows site nl v.leaves).2, find s.bx p.1 = none := fun p hp => by
    rcases hfr p (List.mem_cons_of_mem _ hp) with h | h
    · have : p.1 = b := by simpa using h
      exact absurd (List.mem_map.2 ⟨p, hp, this⟩) hnb
    · exact h
  have rx := hst.opv x
  have ry := hst.opv y
  rw [hx] at rx
  rw [hy] at ry
  have hne : v.leaves ≠ [] := by intro e; rw [e] at hl; exact hz hl.symm
  obtain ⟨cs, hcells, hrel, hone, hc1, _⟩ := W.leaves_rel ry (.inl hne)
  obtain ⟨ls2, bl, hb2, hA, hcv⟩ := rx
  rw [hb] at hb2
  cases hb2
  obtain ⟨bl2, cur, e, hA2, hF, hh, hone0, hc0, hrel0⟩ := hst.inv.boxes b _ hb
  rw [hA] at hA2
  simp at hA2
  subst hA2
  have hlc : cs.length = t.sz := by rw [← hl]; exact hrel.len_eq
  have hlcur : cur.toList.length = ls.length := hrel0.len_eq
  have hlcur' : cur.size = ls.length := by simpa using hlcur
  have hrun := run_storeAt (P := P) (w := w) (off := off) (hte T _ ht) hcells hlc hc1 hh (by omega)
  let w' := w.setRow bl (cur.toList.take off ++ cs ++ cur.toList.drop (off + cs.length)).toArray
  let nb := (b, Box.var (ls.take off ++ (nilRows site nl v.leaves).1 ++ ls.drop (off + t.sz))) :: (nilRows site nl v.leaves).2
  let g : Nat → Gh := fun k => if k = b then γ b else gNil k
  have hg : ∀ p ∈ (nilRows site nl v.leaves).2, g p.1 = gNil p.1 := by
    intro p hp
    have : p.1 ≠ b := fun e => hnb (List.mem_map.2 ⟨p, hp, e⟩)
    simp [g, this]
  have hgb : g b = γ b := by simp [g]
  have hown : owned nb g = [bl] := by
    show owned (_ :: _) g = _
    rw [owned_cons, owned_congr hg, nilRows_owned, hgb, hF]; simp
  have hf1 : find nb b = some (.var (ls.take off ++ (nilRows site nl v.leaves).1 ++ ls.drop (off + t.sz))) := by show find (_ :: _) b = _; rw [find_cons, if_pos rfl]
  have hndn : (nb.map (·.1)).Nodup := by simpa [nb] using hnd
  have hmem : bl ∈ owned (s.bx.filter fun p => [b].contains p.1) γ := mem_owned_iff.2 ⟨(b, _), List.mem_filter.2 ⟨find_mem hb, by simp⟩, by rw [hF]; simp⟩
  have hst' := (hst.reb (w' := w') (nb := nb) (D := ([b].contains ·)) (dead := (([] : List Nat).contains ·)) (g := g) rfl rfl rfl (by simp [w'])
    (fun n _ hno => setRow_heapEq _ _ _ fun e => hno (e ▸ hmem)) hndn (fun p hp => by
      rcases List.mem_cons.1 hp with rfl | hp
      · exact .inl (by simp)
      · exact .inr (hfr' p hp)) (by rw [hown]; simp) (by
      rw [hown]; intro n hn'; simp at hn'; subst hn'
      exact ⟨by simpa [w'] using hst.inv.below n (owned_filter_mem hmem), .inr hmem⟩)
    (fun k z _ hk hz' => by
      have hkb : k = b := by simpa using hk
      subst hkb
      rw [hb] at hz'
      cases hz'
      refine ⟨_, hf1, ⟨_, rfl, ?_⟩, by rw [hgb], fun h => by simp [Box.hd] at h, fun _ => Hs.var _ _ _ _⟩
      simp [nilRows_len]; omega)
    (fun hok' hwk hp k z hk => by
      have hHas : ∀ p ∈ (nilRows site nl v.leaves).2, find (s.reb nb ([b].contains ·) (([] : List Nat).contains ·)).bx p.1 = some p.2 ∧ over nb g γ p.1 = gNil p.1 := by
        intro p hp'
        have hfp : find nb p.1 = some p.2 := find_of_mem hndn (List.mem_cons_of_mem _ hp')
        refine ⟨?_, ?_⟩
        · show find (nb ++ _) p.1 = _; rw [find_append, hfp]; rfl
        · rw [over_new hfp]; exact hg p hp'
      by_cases hkb : k = b
      · subst hkb
        rw [hf1] at hk
        cases hk
        have hgs : over nb g γ k = γ k := by rw [over_new hf1]; exact hgb
        have h1 : LsRel w' _ _ _ ls cur.toList := LsRel.mono hwk hok' hp (fun _ _ _ _ => rfl) hrel0
        have h2 : LsRel w' _ _ _ v.leaves cs := LsRel.mono hwk hok' hp (fun _ _ _ _ => rfl) hrel
        obtain ⟨g1, g2⟩ := nilRows_rel site nl v.leaves cs hHas h2
        refine ⟨bl, _, e, by rw [hgs]; exact hA, by rw [hgs]; exact hF, setRow_heap w bl cur _ e _ hh, ?_, ?_, ?_⟩
        · intro l hlm
          simp only [List.mem_append] at hlm
          rcases hlm with (hlm | hlm) | hlm
          · exact hone0 l (List.mem_of_mem_take hlm)
          · exact g2 hone l hlm
          · exact hone0 l (List.mem_of_mem_drop hlm)
        · intro c hcm
          simp only [List.mem_append] at hcm
          rcases hcm with (hcm | hcm) | hcm
          · exact hc0 c (List.mem_of_mem_take hcm)
          · exact hc1 c hcm
          · exact hc0 c (List.mem_of_mem_drop hcm)
        · have := All2.append (All2.append (All2.take h1 off) g1) (All2.drop h1 (off + t.sz))
          rw [← hlc] at this ⊢
          exact this
      · have hk2 : (k, z) ∈ (nilRows site nl v.leaves).2 := by
          rcases List.mem_cons.1 (find_mem hk) with h | h
          · simp at h; exact absurd h.1 hkb
          · exact h
        exact nilRows_ok site nl v.leaves (List.nodup_cons.1 hnd).2 _ _ hHas (k, z) hk2)).1
  exact wp_skip' (ex_store ho hcv rfl hrun) (hn _ _ ⟨_, hst'.put o.dst (VRel.un _)⟩)

/-- The cells of element i replaced. -/
theorem splice_get {cells : Array Value} {o sz i n : Nat} {us : List Value} (hu : us.length = sz) (hfit : o + n * sz ≤ cells.size) (hi : i < n) (k j : Nat) (hj : j < sz) (hk : k < n) :
    (cells.toList.take (o + i * sz) ++ us ++ cells.toList.drop (o + i * sz + us.length)).toArray[o + k * sz + j]? = if k = i then us[j]? else cells[o + k * sz + j]? := by
  have hin : o + i * sz + sz ≤ cells.size := by
    have : (i + 1) * sz ≤ n * sz := Nat.mul_le_mul_right _ hi
    rw [Nat.add_mul] at this; omega
  have htl : (cells.toList.take (o + i * sz)).length = o + i * sz := by simp; omega
  simp only [List.getElem?_toArray]
  by_cases hki : k = i
  · subst hki
    rw [if_pos rfl, List.append_assoc, List.getElem?_append_right (by omega), List.getElem?_append_left (by omega)]
    congr 1; omega
  · rw [if_neg hki]
    rcases Nat.lt_or_ge k i with hlt | hge
    · have : (k + 1) * sz ≤ i * sz := Nat.mul_le_mul_right _ hlt
      rw [Nat.add_mul] at this
      rw [List.append_assoc, List.getElem?_append_left (by omega), List.getElem?_take, if_pos (by omega)]
      simp
    · have : (i + 1) * sz ≤ k * sz := Nat.mul_le_mul_right _ (by omega)
      rw [Nat.add_mul] at this
      rw [List.getElem?_append_right (by simp; omega), List.getElem?_drop]
      simp only [List.length_append, htl, hu]
      rw [show o + i * sz + sz + (o + k * sz + j - (o + i * sz + sz)) = o + k * sz + j from by omega]
      simp

theorem flatten_set {Fs : List (List Nat)} {i : Nat} {G : List Nat} {n : Nat} (h : n ∈ (Fs.set i G).flatten) : n ∈ Fs.flatten ∨ n ∈ G := by
  obtain ⟨l, hl, hn⟩ := List.mem_flatten.1 h
  rcases List.mem_or_eq_of_mem_set hl with h1 | h1
  · exact .inl (List.mem_flatten.2 ⟨l, h1, hn⟩)
  · exact .inr (h1 ▸ hn)

theorem flatten_set_nodup : ∀ {Fs : List (List Nat)} {i : Nat} {G : List Nat}, Fs.flatten.Nodup → G.Nodup → (∀ n ∈ G, n ∉ Fs.flatten) → (Fs.set i G).flatten.Nodup := by
  intro Fs
  induction Fs with
  | nil => intro i G h _ _; simp
  | cons F r ih =>
    intro i G h hG hd
    simp only [List.flatten_cons, List.nodup_append] at h
    cases i with
    | zero =>
      simp only [List.set_cons_zero, List.flatten_cons, List.nodup_append]
      exact ⟨hG, h.2.1, fun a ha b hb e => hd a ha (by subst e; simp only [List.flatten_cons, List.mem_append]; exact .inr hb)⟩
    | succ i =>
      simp only [List.set_cons_succ, List.flatten_cons, List.nodup_append]
      refine ⟨h.1, ih h.2.1 hG fun n hn hm => hd n hn (by simp only [List.flatten_cons, List.mem_append]; exact .inr hm), fun a ha b hb e => ?_⟩
      subst e
      rcases flatten_set hb with h1 | h1
      · exact h.2.2 a ha a h1 rfl
      · exact hd a h1 (by simp only [List.flatten_cons, List.mem_append]; exact .inl ha)

/-- An element of an owned row is written. -/
theorem own_set {ok : Nat → Prop} {xs : List t.den} {A : Option Addr} {c : Nat} {F : List Nat} (h : OwnG w t.sz (Rdo w ok t) xs A c F) (hoF : ∀ n ∈ F, ¬ ok n) (hnd : F.Nodup) {i : Nat} (hi : i < xs.length) {y : t.den} {us : List Value} {G : List Nat}
    (hlen : us.length = t.sz) (hGF : ∀ n ∈ G, n ∉ F) (hGn : G.Nodup) (hy : Rdo w ok t y us G) :
    ∃ (bl off : Nat) (cur : Array Value) (e : TypeId) (F' : List Nat), A = some ⟨bl, off, none⟩ ∧ bl ∈ F ∧ w.heap[bl]? = some (.cells cur e (0, 0)) ∧ off + i * t.sz + us.length ≤ cur.size ∧
      F'.Nodup ∧ (∀ n ∈ F', n ∈ F ∨ n ∈ G) ∧ ∀ (ok' : Nat → Prop), (∀ n, ok n → ok' n) →
      let w' := w.setRow bl (cur.toList.take (off + i * t.sz) ++ us ++ cur.toList.drop (off + i * t.sz + us.length)).toArray
      OwnG w' t.sz (Rdo w' ok' t) (xs.set i y) A c F' := by
  obtain ⟨bl, off, cells, e, Fs, hA, hF, hh, hc, hsz, hl, hel⟩ := own_head h hi
  have hfit : off + xs.length * t.sz ≤ cells.size := by
    have : xs.length * t.sz ≤ c * t.sz := Nat.mul_le_mul_right _ hc
    omega
  have hfi : off + i * t.sz + us.length ≤ cells.size := by
    have : (i + 1) * t.sz ≤ xs.length * t.sz := Nat.mul_le_mul_right _ hi
    rw [Nat.add_mul] at this; omega
  subst hF
  have hblG : bl ∉ G := fun hm => hGF bl hm (by simp)
  have hnd' := List.nodup_cons.1 hnd
  have hother : ∀ n, n ≠ bl → (w.setRow bl (cells.toList.take (off + i * t.sz) ++ us ++ cells.toList.drop (off + i * t.sz + us.length)).toArray).heap[n]? = w.heap[n]? := fun n hn => setRow_heapEq _ _ _ hn
  refine ⟨bl, off, cells, e, bl :: (Fs.set i G).flatten, hA, by simp, hh, hfi, ?_, ?_, fun ok' hoo => ?_⟩
  · refine List.nodup_cons.2 ⟨fun hm => ?_, flatten_set_nodup hnd'.2 hGn fun n hn hm => hGF n hn (List.mem_cons_of_mem _ hm)⟩
    rcases flatten_set hm with h1 | h1
    · exact hnd'.1 h1
    · exact hblG h1
  · intro n hn
    rcases List.mem_cons.1 hn with rfl | hn
    · exact .inl (by simp)
    · rcases flatten_set hn with h1 | h1
      · exact .inl (List.mem_cons_of_mem _ h1)
      · exact .inr h1
  · have hto : OkTo w ok (w.setRow bl (cells.toList.take (off + i * t.sz) ++ us ++ cells.toList.drop (off + i * t.sz + us.length)).toArray) ok' := fun n hn => ⟨hoo n hn, hother n fun e => hoF bl (by simp) (e ▸ hn)⟩
    refine .inr ⟨bl, off, _, e, Fs.set i G, hA, rfl, setRow_heap w bl cells _ e _ hh, by simpa using hc, ?_, by simpa using hl, fun k hk hk' => ?_⟩
    · simp only [List.size_toArray, List.length_append, List.length_take, List.length_drop, Array.length_toList]; omega
    · have hk2 : k < xs.length := by simpa using hk
      by_cases hki : k = i
      · subst hki
        refine ⟨us, ?_, hlen, fun j v hj => ?_⟩
        · simp only [List.getElem_set_self]
          exact hy.mono hto fun n hn => hother n fun e => hblG (e ▸ hn)
        · have hjl : j < t.sz := by
            rw [← hlen]
            rcases Nat.lt_or_ge j us.length with h | h
            · exact h
            · rw [List.getElem?_eq_none h] at hj; cases hj
          rw [splice_get hlen hfit hi k j hjl hk2, if_pos rfl]
          exact hj
      · obtain ⟨vs, h1, h2, h3⟩ := hel k hk2 (by omega)
        refine ⟨vs, ?_, h2, fun j v hj => ?_⟩
        · simp only [List.getElem_set_ne (Ne.symm hki)]
          refine Rdo.mono hto (fun n hn => hother n fun e => hnd'.1 ?_) h1
          rw [← e]; exact mem_flatten_get hn
        · have hjl : j < t.sz := by
            rw [← h2]
            rcases Nat.lt_or_ge j vs.length with h | h
            · exact h
            · rw [List.getElem?_eq_none h] at hj; cases hj
          rw [splice_get hlen hfit hi k j hjl hk2, if_neg hki]
          exact h3 j v hj

theorem one_get {cells : Array Value} {p k : Nat} {v : Value} (hp : p < cells.size) :
    (cells.toList.take p ++ [v] ++ cells.toList.drop (p + [v].length)).toArray[k]? = if k = p then some v else cells[k]? := by
  simp only [List.getElem?_toArray, List.length_singleton]
  have htl : (cells.toList.take p).length = p := by simp; omega
  by_cases hk : k = p
  · subst hk
    rw [if_pos rfl, List.append_assoc, List.getElem?_append_right (by omega), htl]
    simp
  · rw [if_neg hk]
    rcases Nat.lt_or_ge k p with h | h
    · rw [List.append_assoc, List.getElem?_append_left (by omega), List.getElem?_take, if_pos h]; simp
    · rw [List.getElem?_append_right (by simp; omega), List.getElem?_drop]
      simp only [List.length_append, htl, List.length_singleton]
      rw [show p + 1 + (k - (p + 1)) = k from by omega]
      simp

theorem Rdf.setLeafF {ok : Nat → Prop} {bx : Bxs} {γ : Gam} {l : L} {cv : Value} (hl : LRel w ok bx γ l cv) : ∀ {t : Ty} {x y : t.den} {us : List Value} {o : Nat},
    Rdf w ok t x us → t.setLeafF o x l = some y → o < t.sz ∧ Rdf w ok t y (us.set o cv) := by
  have one : ∀ {t ft : Ty} {z : ft.den} {y : t.den}, l = .val ft z → castT ft t z = some y → t.one = true → Rdf w ok t y [cv] := by
    intro t ft z y he hc h1
    subst he
    obtain ⟨rfl, rfl⟩ := castT_some hc
    obtain ⟨cs, hr, rfl⟩ := hl
    have hlen := hr.len
    rw [Ty.one_sz h1] at hlen
    match cs, hlen with
    | [c], _ => rw [pack_one h1]; exact hr
  have set1 : ∀ {us : List Value}, us.length = 1 → us.set 0 cv = [cv] := by
    intro us h
    match us, h with
    | [u], _ => rfl
  intro t
  induction t with
  | pair a b iha ihb =>
    intro x y us o h hs
    obtain ⟨u, v, rfl, h1, h2⟩ := h
    simp only [Ty.setLeafF] at hs
    split at hs
    · rename_i ho
      simp only [Option.map_eq_some_iff] at hs
      obtain ⟨z, hz, rfl⟩ := hs
      obtain ⟨h3, h4⟩ := iha h1 hz
      refine ⟨by simp [Ty.sz]; omega, ?_⟩
      rw [List.set_append_left _ _ (by rw [h1.len]; exact ho)]
      exact ⟨_, v, rfl, h4, h2⟩
    · rename_i ho
      simp only [Option.map_eq_some_iff] at hs
      obtain ⟨z, hz, rfl⟩ := hs
      obtain ⟨h3, h4⟩ := ihb h2 hz
      refine ⟨by simp [Ty.sz]; omega, ?_⟩
      rw [List.set_append_right _ _ (by rw [h1.len]; omega), h1.len]
      exact ⟨u, _, rfl, h1, h4⟩
  | int k =>
    intro x y us o h hs
    cases o with
    | succ o => cases l <;> simp [Ty.setLeafF] at hs
    | zero =>
      cases l with
      | val ft z => exact ⟨by simp [Ty.sz], by rw [set1 h.len]; exact one rfl hs rfl⟩
      | _ => simp [Ty.setLeafF] at hs
  | bool =>
    intro x y us o h hs
    cases o with
    | succ o => cases l <;> simp [Ty.setLeafF] at hs
    | zero =>
      cases l with
      | val ft z => exact ⟨by simp [Ty.sz], by rw [set1 h.len]; exact one rfl hs rfl⟩
      | _ => simp [Ty.setLeafF] at hs
  | str =>
    intro x y us o h hs
    cases o with
    | succ o => cases l <;> simp [Ty.setLeafF] at hs
    | zero =>
      cases l with
      | val ft z => exact ⟨by simp [Ty.sz], by rw [set1 h.len]; exact one rfl hs rfl⟩
      | _ => simp [Ty.setLeafF] at hs
  | sl t _ =>
    intro x y us o h hs
    cases o with
    | succ o => cases l <;> simp [Ty.setLeafF] at hs
    | zero =>
      cases l with
      | val ft z => exact ⟨by simp [Ty.sz], by rw [set1 h.len]; exact one rfl hs rfl⟩
      | nil =>
        simp [Ty.setLeafF] at hs
        subst hs
        refine ⟨by simp [Ty.sz], ?_⟩
        rw [set1 h.len]
        exact ⟨none, 0, by rw [show cv = .slice none 0 0 from hl]; rfl, Nat.le_refl _, fun i hi => absurd hi (Nat.not_lt_zero _)⟩
      | _ => simp [Ty.setLeafF] at hs
  | _ => intro x y us o h hs; simp [Ty.setLeafF] at hs

theorem Rdo.setLeaf {ok : Nat → Prop} {bx : Bxs} {γ : Gam} {l : L} {cv : Value} (hl : LRel w ok bx γ l cv) : ∀ {t : Ty} {x y : t.den} {us : List Value} {F : List Nat} {o : Nat},
    Rdo w ok t x us F → t.setLeaf o x l = some y → o < t.sz ∧ Rdo w ok t y (us.set o cv) F := by
  have one : ∀ {t ft : Ty} {z : ft.den} {y : t.den}, l = .val ft z → castT ft t z = some y → ∃ cs, Rdf w ok t y cs ∧ cv = pack t cs := by
    intro t ft z y he hc
    subst he
    obtain ⟨rfl, rfl⟩ := castT_some hc
    exact hl
  intro t
  induction t with
  | pair a b iha ihb =>
    intro x y us F o h hs
    obtain ⟨u, v, G, H, rfl, rfl, h1, h2⟩ := h
    simp only [Ty.setLeaf] at hs
    split at hs
    · rename_i ho
      simp only [Option.map_eq_some_iff] at hs
      obtain ⟨z, hz, rfl⟩ := hs
      obtain ⟨h3, h4⟩ := iha h1 hz
      refine ⟨by simp [Ty.sz]; omega, ?_⟩
      rw [List.set_append_left _ _ (by rw [h1.len]; exact ho)]
      exact ⟨_, v, G, H, rfl, rfl, h4, h2⟩
    · rename_i ho
      simp only [Option.map_eq_some_iff] at hs
      obtain ⟨z, hz, rfl⟩ := hs
      obtain ⟨h3, h4⟩ := ihb h2 hz
      refine ⟨by simp [Ty.sz]; omega, ?_⟩
      rw [List.set_append_right _ _ (by rw [h1.len]; omega), h1.len]
      exact ⟨u, _, G, H, rfl, rfl, h1, h4⟩
  | int k =>
    intro x y us F o h hs
    obtain ⟨rfl, rfl⟩ := h
    cases o with
    | succ o => cases l <;> simp [Ty.setLeaf] at hs
    | zero =>
      cases l with
      | val ft z =>
        obtain ⟨cs, h1, h2⟩ := one rfl (show castT ft (.int k) z = some y from hs)
        simp [Rdf] at h1
        subst h1
        exact ⟨by simp [Ty.sz], by simp [h2, pack, Ty.one], rfl⟩
      | _ => simp [Ty.setLeaf] at hs
  | bool =>
    intro x y us F o h hs
    obtain ⟨rfl, rfl⟩ := h
    cases o with
    | succ o => cases l <;> simp [Ty.setLeaf] at hs
    | zero =>
      cases l with
      | val ft z =>
        obtain ⟨cs, h1, h2⟩ := one rfl (show castT ft .bool z = some y from hs)
        simp [Rdf] at h1
        subst h1
        exact ⟨by simp [Ty.sz], by simp [h2, pack, Ty.one], rfl⟩
      | _ => simp [Ty.setLeaf] at hs
  | str =>
    intro x y us F o h hs
    obtain ⟨rfl, rfl⟩ := h
    cases o with
    | succ o => cases l <;> simp [Ty.setLeaf] at hs
    | zero =>
      cases l with
      | val ft z =>
        obtain ⟨cs, h1, h2⟩ := one rfl (show castT ft .str z = some y from hs)
        simp [Rdf] at h1
        subst h1
        exact ⟨by simp [Ty.sz], by simp [h2, pack, Ty.one], rfl⟩
      | _ => simp [Ty.setLeaf] at hs
  | fz t _ => intro x y us F o h hs; exact ⟨(Rdf.setLeafF hl h.1 hs).1, (Rdf.setLeafF hl h.1 hs).2, h.2⟩
  | _ => intro x y us F o h hs; simp [Ty.setLeaf] at hs

/-- A cell of an element is written. -/
theorem own_leaf {ok : Nat → Prop} {xs : List t.den} {A : Option Addr} {c : Nat} {F : List Nat} (h : OwnG w t.sz (Rdo w ok t) xs A c F) (hoF : ∀ n ∈ F, ¬ ok n) (hnd : F.Nodup) {i o : Nat} (hi : i < xs.length) (ho : o < t.sz) {y : t.den} {v : Value}
    (hy : ∀ us G, Rdo w ok t xs[i] us G → Rdo w ok t y (us.set o v) G) :
    ∃ (bl off : Nat) (cur : Array Value) (e : TypeId), A = some ⟨bl, off, none⟩ ∧ bl ∈ F ∧ w.heap[bl]? = some (.cells cur e (0, 0)) ∧ off + i * t.sz + o + 1 ≤ cur.size ∧ ∀ (ok' : Nat → Prop), (∀ n, ok n → ok' n) →
      let w' := w.setRow bl (cur.toList.take (off + i * t.sz + o) ++ [v] ++ cur.toList.drop (off + i * t.sz + o + [v].length)).toArray
      OwnG w' t.sz (Rdo w' ok' t) (xs.set i y) A c F := by
  obtain ⟨bl, off, cells, e, Fs, hA, hF, hh, hc, hsz, hl, hel⟩ := own_head h hi
  have hfit : off + xs.length * t.sz ≤ cells.size := by
    have : xs.length * t.sz ≤ c * t.sz := Nat.mul_le_mul_right _ hc
    omega
  have hfi : off + i * t.sz + o < cells.size := by
    have : (i + 1) * t.sz ≤ xs.length * t.sz := Nat.mul_le_mul_right _ hi
    rw [Nat.add_mul] at this; omega
  subst hF
  have hnd' := List.nodup_cons.1 hnd
  have hother : ∀ n, n ≠ bl → (w.setRow bl (cells.toList.take (off + i * t.sz + o) ++ [v] ++ cells.toList.drop (off + i * t.sz + o + [v].length)).toArray).heap[n]? = w.heap[n]? := fun n hn => setRow_heapEq _ _ _ hn
  refine ⟨bl, off, cells, e, hA, by simp, hh, hfi, fun ok' hoo => ?_⟩
  have hto : OkTo w ok (w.setRow bl (cells.toList.take (off + i * t.sz + o) ++ [v] ++ cells.toList.drop (off + i * t.sz + o + [v].length)).toArray) ok' := fun n hn => ⟨hoo n hn, hother n fun e => hoF bl (by simp) (e ▸ hn)⟩
  refine .inr ⟨bl, off, _, e, Fs, hA, rfl, setRow_heap w bl cells _ e _ hh, by simpa using hc, ?_, by simpa using hl, fun k hk hk' => ?_⟩
  · simp only [List.size_toArray, List.length_append, List.length_take, List.length_drop, Array.length_toList, List.length_singleton]; omega
  · have hk2 : k < xs.length := by simpa using hk
    obtain ⟨vs, h1, h2, h3⟩ := hel k hk2 hk'
    have hkeep : ∀ n ∈ Fs[k], (w.setRow bl (cells.toList.take (off + i * t.sz + o) ++ [v] ++ cells.toList.drop (off + i * t.sz + o + [v].length)).toArray).heap[n]? = w.heap[n]? :=
      fun n hn => hother n fun e => hnd'.1 (by rw [← e]; exact mem_flatten_get hn)
    have hlt : ∀ {us : List Value} {j : Nat} {u : Value}, us.length = t.sz → us[j]? = some u → j < t.sz := by
      intro us j u hul hj
      rw [← hul]
      rcases Nat.lt_or_ge j us.length with h | h
      · exact h
      · rw [List.getElem?_eq_none h] at hj; cases hj
    by_cases hki : k = i
    · subst hki
      refine ⟨vs.set o v, ?_, by simpa using h2, fun j u hj => ?_⟩
      · simp only [List.getElem_set_self]
        exact Rdo.mono hto hkeep (hy vs _ h1)
      · have hjl := hlt (by simpa using h2) hj
        rw [one_get hfi]
        rw [List.getElem?_set] at hj
        by_cases hjo : o = j
        · subst hjo
          rw [if_pos rfl]
          simpa [h2, hjl] using hj
        · rw [if_neg hjo] at hj
          rw [if_neg (by omega)]
          exact h3 j u hj
    · refine ⟨vs, ?_, h2, fun j u hj => ?_⟩
      · simp only [List.getElem_set_ne (Ne.symm hki)]
        exact Rdo.mono hto hkeep h1
      · have hjl := hlt h2 hj
        rw [one_get hfi, if_neg ?_]
        · exact h3 j u hj
        · rcases Nat.lt_or_ge k i with hlt | hge
          · have : (k + 1) * t.sz ≤ i * t.sz := Nat.mul_le_mul_right _ hlt
            rw [Nat.add_mul] at this; omega
          · have : (i + 1) * t.sz ≤ k * t.sz := Nat.mul_le_mul_right _ (by omega)
            rw [Nat.add_mul] at this; omega


end
end Go.Fl
/- Stores into the elements of rows. -/
namespace Go.Fl
open Go

theorem slAt_lt : ∀ {t : Ty} {o : Nat} {te : Ty}, t.slAt o = some te → o < t.sz := by
  intro t
  induction t with
  | pair a b iha ihb =>
    intro o te h
    simp only [Ty.slAt] at h
    split at h
    · rename_i ho; simp [Ty.sz]; omega
    · have := ihb h; simp [Ty.sz]; omega
  | sl t _ =>
    intro o te h
    cases o with
    | zero => simp [Ty.sz]
    | succ o => simp [Ty.slAt] at h
  | _ => intro o te h; simp [Ty.slAt] at h

theorem noOwn_slAt : ∀ {t : Ty} {o : Nat}, t.noOwn = true → t.slAt o = none := by
  intro t
  induction t with
  | pair a b iha ihb =>
    intro o h
    simp only [Ty.noOwn, Bool.and_eq_true] at h
    simp only [Ty.slAt]
    split
    · exact iha h.1
    · exact ihb h.2
  | sl t _ => intro o h; simp [Ty.noOwn] at h
  | _ => intro o _; rfl

theorem setLeaf_slAt : ∀ {t : Ty} {o : Nat} {x y : t.den} {l : L}, t.setLeaf o x l = some y → t.slAt o = none := by
  intro t
  induction t with
  | pair a b iha ihb =>
    intro o x y l h
    simp only [Ty.setLeaf] at h
    simp only [Ty.slAt]
    split at h
    · rename_i ho
      rw [if_pos ho]
      simp only [Option.map_eq_some_iff] at h
      obtain ⟨z, hz, _⟩ := h
      exact iha hz
    · rename_i ho
      rw [if_neg ho]
      simp only [Option.map_eq_some_iff] at h
      obtain ⟨z, hz, _⟩ := h
      exact ihb hz
  | sl t _ => intro o x y l h; cases o <;> cases l <;> simp [Ty.setLeaf] at h
  | _ => intro o x y l _; rfl

section
variable {P : Program} {te : List (Nat × Ty)} {T : Nat} {t : Ty} {w : World}

/-- The cells of rows in elements are not where another cell of an element is. -/
theorem Hs.leaf {bl off p : Nat} {cur : Array Value} {e : TypeId} {v : Value} {g : Gh} {x : Box} {i o n : Nat} (hd : x.hd = some (t, n)) (hA : g.A = some ⟨bl, off, none⟩) (hh : w.heap[bl]? = some (.cells cur e (0, 0)))
    (hp : p = off + i * t.sz + o) (ho : o < t.sz) (hno : t.slAt o = none) (hfit : p + 1 ≤ cur.size) :
    Hs w (w.setRow bl (cur.toList.take p ++ [v] ++ cur.toList.drop (p + [v].length)).toArray) g x := by
  intro t' n' hd' a ha k q te' hk hq
  rw [hd] at hd'
  cases hd'
  rw [hA] at ha
  cases ha
  have hql := slAt_lt hq
  simp only [World.cell?, setRow_heap w bl cur _ e _ hh, hh]
  have hne : off + k * t.sz + q ≠ p := by
    intro he
    subst hp
    have h1 : k * t.sz + q = i * t.sz + o := by omega
    have h2 : (k * t.sz + q) % t.sz = (i * t.sz + o) % t.sz := by rw [h1]
    rw [Nat.mul_comm k, Nat.mul_comm i, Nat.mul_add_mod, Nat.mul_add_mod, Nat.mod_eq_of_lt hql, Nat.mod_eq_of_lt ho] at h2
    subst h2
    rw [hno] at hq
    cases hq
  have := one_get (cells := cur) (p := p) (k := off + k * t.sz + q) (v := v) (by omega)
  rw [if_neg hne] at this
  simpa using this

theorem sim_store_leaf {o : Oper} {s : S} {x y : Operand} {b i off : Nat} {te' : Ty} {xs : List te'.den} {l : L} {z : te'.den} (hte : TyOk P te) (ho : o.op = .store T x y) (ht : find te T = some t)
    (hx : s.opv x = .w (.one (.ept b i off))) (hy : s.opv y = .w (.one l)) (hb : find s.bx b = some (.row te' xs)) (h1 : t.one = true) (hset : te'.setLeaf off (xs.getD i te'.zero) l = some z) :
    OpSim P o s (s.app o.dst (unE [(b, .row te' (xs.set i z))] [b] [])) := by
  intro w0 own0 a w ⟨γ, hst⟩ next Q hn
  rw [app_eq] at hn
  have rx := hst.opv x
  have ry := hst.opv y
  rw [hx] at rx
  rw [hy] at ry
  obtain ⟨x2, t2, n2, ad, hb2, hd2, hi, hA, hcv⟩ := rx
  rw [hb] at hb2
  cases hb2
  have hd2' := hd2
  simp [Box.hd] at hd2
  obtain ⟨rfl, rfl⟩ := hd2
  have hget : xs.getD i te'.zero = xs[i] := by simp [List.getD, hi]
  rw [hget] at hset
  have hbox := hst.inv.boxes b _ hb
  have hFnd := box_nodup hst.inv.apart hb
  obtain ⟨bl0, off0, cells0, e0, Fs0, _, _, _, _, _, hl0, hel0⟩ := own_head hbox hi
  obtain ⟨us0, hr0, hul0, _⟩ := hel0 i hi (by omega)
  obtain ⟨hoff, hr1⟩ := Rdo.setLeaf ry hr0 hset
  have hc1 : (a.eval y).oneCell' = true := hr1.oneCell _ (List.mem_of_getElem? (by rw [List.getElem?_set_self (by omega)]))
  obtain ⟨bl, o2, cur, e, hA2, hblF, hh, hfit, hown⟩ := own_leaf hbox (fun n hn h => h.2.1 (mem_owned hb hn)) hFnd hi hoff (fun us G h => (Rdo.setLeaf ry h hset).2)
  have hA0 := hA
  rw [hA] at hA2
  simp at hA2
  subst hA2
  have hcells : (a.eval y).cells = #[a.eval y] := by cases hv : a.eval y <;> simp_all [Value.cells, Value.oneCell']
  have hrun := run_storeAt (P := P) (w := w) (off := o2 + i * te'.sz + off) (hte T _ ht) (cs := [a.eval y]) (by simpa using hcells) (by simp [Ty.one_sz h1]) (by simpa using hc1) hh (by simpa using hfit)
  obtain ⟨γ', hst'⟩ := hst.turn (w' := w.setRow bl (cur.toList.take (o2 + i * te'.sz + off) ++ [a.eval y] ++ cur.toList.drop (o2 + i * te'.sz + off + [a.eval y].length)).toArray) hb
    (y := .row te' (xs.set i z)) (ds := []) (dead := []) (by simp [Box.like, Box.hd]) (by simp) (by simp) rfl rfl rfl (by simp) (fun n hnF _ => setRow_heapEq _ _ _ fun e => hnF (e ▸ hblF)) hFnd (fun n hnF => .inl hnF)
    (fun _ => Hs.leaf hd2' hA0 hh rfl hoff (setLeaf_slAt hset) hfit)
    (fun ok' bx' γ' hok _ _ hg => by simp only [BoxRel, hg]; exact hown ok' hok)
  exact wp_skip' (ex_store ho hcv rfl hrun) (hn _ _ ⟨γ', hst'.put o.dst (VRel.un _)⟩)

/-- A whole element, with rows of its own. -/
theorem sim_store_elem {o : Oper} {s : S} {x y : Operand} {b i : Nat} {te' : Ty} (het : te' = t ∨ te' = .fz t) {xs : List te'.den} {v : W} {z : te'.den} {ds : List Nat} (hte : TyOk P te) (ho : o.op = .store T x y) (ht : find te T = some t)
    (hx : s.opv x = .w (.one (.ept b i 0))) (hy : s.opv y = .w v) (hb : find s.bx b = some (.row te' xs)) (hv : ownW s.bx te' v = some (z, ds)) (hnd : nodupB (b :: ds) = true) :
    OpSim P o s (s.app o.dst (unE [(b, .row te' (xs.set i z))] (b :: ds) (if te'.noOwn then ds else nid b :: ds))) := by
  intro w0 own0 a w ⟨γ, hst⟩ next Q hn
  rw [app_eq] at hn
  have hts : te'.sz = t.sz := by rcases het with rfl | rfl <;> rfl
  have hpk' : ∀ cs, pack te' cs = pack t cs := by intro cs; rcases het with rfl | rfl <;> rfl
  have rx := hst.opv x
  have ry := hst.opv y
  rw [hx] at rx
  rw [hy] at ry
  obtain ⟨x2, t2, n2, ad, hb2, hd2, hi, hA, hcv⟩ := rx
  rw [hb] at hb2
  cases hb2
  simp [Box.hd] at hd2
  obtain ⟨rfl, rfl⟩ := hd2
  obtain ⟨hbds, hdsn⟩ := List.nodup_cons.1 (nodupB_spec hnd)
  have hbox := hst.inv.boxes b _ hb
  have hFnd := box_nodup hst.inv.apart hb
  obtain ⟨cs, hr, hpk, hrows⟩ := ownW_rel (fun b t xs h => hst.inv.boxes b _ h) ry hv
  have hfd : ∀ d ∈ ds, ∃ x, find s.bx d = some x := fun d hd => let ⟨te, xs, h⟩ := hrows d hd; ⟨_, h⟩
  have hdis : ∀ n ∈ FsOf γ ds, n ∉ (γ b).F := by
    intro n hn hm
    obtain ⟨d, hd, hnd⟩ := mem_FsOf.1 hn
    obtain ⟨y, hy⟩ := hfd d hd
    exact apart_two hst.inv.apart hb hy (fun e => hbds (e ▸ hd)) hm hnd
  obtain ⟨bl, o2, cur, e, F', hA2, hblF, hh, hfit, hFn, hFs, hown⟩ := own_set hbox (fun n hn h => h.2.1 (mem_owned hb hn)) hFnd hi (y := z) (us := cs) (G := FsOf γ ds) hr.len hdis (FsOf_nodup hst.inv.apart hdsn hfd) hr
  rw [hA] at hA2
  simp at hA2
  subst hA2
  have hcells : (a.eval y).cells = cs.toArray := by rw [hpk, hpk']; exact pack_cells _ (by rw [← hts]; exact hr.len) fun _ => hr.oneCell
  have hrun := run_storeAt (P := P) (w := w) (off := o2 + i * te'.sz) (hte T _ ht) hcells (by rw [← hts]; exact hr.len) hr.oneCell hh hfit
  obtain ⟨γ', hst'⟩ := hst.turn (w' := w.setRow bl (cur.toList.take (o2 + i * te'.sz) ++ cs ++ cur.toList.drop (o2 + i * te'.sz + cs.length)).toArray) hb
    (y := .row te' (xs.set i z)) (ds := ds) (dead := if te'.noOwn then ds else nid b :: ds) (by simp [Box.like, Box.hd]) hfd (fun d hd => by split <;> simp [hd]) rfl rfl rfl (by simp) (fun n hnF _ => setRow_heapEq _ _ _ fun e => hnF (e ▸ hblF)) hFn (fun n hnF => hFs n hnF)
    (fun hnb => by
      intro t' n' hd' ad' _ k q te2 _ hq
      simp [Box.hd] at hd'
      obtain ⟨rfl, rfl⟩ := hd'
      split at hnb
      · rename_i hno; rw [noOwn_slAt hno] at hq; cases hq
      · simp at hnb)
    (fun ok' bx' γ' hok _ _ hg => by simp only [BoxRel, hg]; exact hown ok' hok)
  exact wp_skip' (ex_store ho (by simpa using hcv) rfl hrun) (hn _ _ ⟨γ', hst'.put o.dst (VRel.un _)⟩)

/-- The hole's cell is written. -/
theorem HoleG.write {ok : Nat → Prop} {xs : List t.den} {i o : Nat} {cv v : Value} {A : Option Addr} {c : Nat} {G : List Nat} (h : HoleG w ok t xs i o cv A c G) (hoF : ∀ n ∈ G, ¬ ok n) (hnd : G.Nodup) (hv : v.oneCell' = true) :
    ∃ (bl off : Nat) (cur : Array Value) (e : TypeId), A = some ⟨bl, off, none⟩ ∧ bl ∈ G ∧ w.heap[bl]? = some (.cells cur e (0, 0)) ∧ off + i * t.sz + o + 1 ≤ cur.size ∧ ∀ (ok' : Nat → Prop), (∀ n, ok n → ok' n) →
      HoleG (w.setRow bl (cur.toList.take (off + i * t.sz + o) ++ [v] ++ cur.toList.drop (off + i * t.sz + o + [v].length)).toArray) ok' t xs i o v A c G := by
  obtain ⟨bl, off, cells, e, Fs, hA, hG, hh, hc, hsz, hl, hi, h0, hcv, h⟩ := h
  have hfit : off + xs.length * t.sz ≤ cells.size := by
    have : xs.length * t.sz ≤ c * t.sz := Nat.mul_le_mul_right _ hc
    omega
  have hfi : off + i * t.sz + o < cells.size := by
    have : (i + 1) * t.sz ≤ xs.length * t.sz := Nat.mul_le_mul_right _ hi
    rw [Nat.add_mul] at this; omega
  subst hG
  have hnd' := List.nodup_cons.1 hnd
  have hother : ∀ n, n ≠ bl → (w.setRow bl (cells.toList.take (off + i * t.sz + o) ++ [v] ++ cells.toList.drop (off + i * t.sz + o + [v].length)).toArray).heap[n]? = w.heap[n]? := fun n hn => setRow_heapEq _ _ _ hn
  refine ⟨bl, off, cells, e, hA, by simp, hh, hfi, fun ok' hoo => ?_⟩
  have hto : OkTo w ok (w.setRow bl (cells.toList.take (off + i * t.sz + o) ++ [v] ++ cells.toList.drop (off + i * t.sz + o + [v].length)).toArray) ok' := fun n hn => ⟨hoo n hn, hother n fun e => hoF bl (by simp) (e ▸ hn)⟩
  refine ⟨bl, off, _, e, Fs, hA, rfl, setRow_heap w bl cells _ e _ hh, hc, ?_, hl, hi, h0, ?_, fun k hk hk' => ?_⟩
  · simp only [List.size_toArray, List.length_append, List.length_take, List.length_drop, Array.length_toList, List.length_singleton]; omega
  · rw [one_get hfi, if_pos rfl]
  · obtain ⟨vs, h1, h2, h3⟩ := h k hk hk'
    have hkeep : ∀ n ∈ Fs[k], (w.setRow bl (cells.toList.take (off + i * t.sz + o) ++ [v] ++ cells.toList.drop (off + i * t.sz + o + [v].length)).toArray).heap[n]? = w.heap[n]? :=
      fun n hn => hother n fun e => hnd'.1 (by rw [← e]; exact mem_flatten_get hn)
    by_cases hki : k = i
    · subst hki
      rw [if_pos rfl] at h1
      refine ⟨vs.set o v, by rw [if_pos rfl]; exact (h1.mono hto hkeep).set hv, by simpa using h2, fun j u hj => ?_⟩
      rw [one_get hfi]
      rw [List.getElem?_set] at hj
      by_cases hjo : o = j
      · subst hjo
        rw [if_pos rfl]
        simpa [h2, h0] using hj
      · rw [if_neg hjo] at hj
        rw [if_neg (by omega)]
        exact h3 j u hj
    · rw [if_neg hki] at h1
      refine ⟨vs, by rw [if_neg hki]; exact h1.mono hto hkeep, h2, fun j u hj => ?_⟩
      have hjl : j < t.sz := by
        rw [← h2]
        rcases Nat.lt_or_ge j vs.length with h | h
        · exact h
        · rw [List.getElem?_eq_none h] at hj; cases hj
      rw [one_get hfi, if_neg ?_]
      · exact h3 j u hj
      · rcases Nat.lt_or_ge k i with hlt | hge
        · have : (k + 1) * t.sz ≤ i * t.sz := Nat.mul_le_mul_right _ hlt
          rw [Nat.add_mul] at this; omega
        · have : (i + 1) * t.sz ≤ k * t.sz := Nat.mul_le_mul_right _ (by omega)
          rw [Nat.add_mul] at this; omega

/-- A row is laid into an element's cell. -/
theorem sim_store_cell {o : Oper} {s : S} {x y : Operand} {b i off : Nat} {tb tr : Ty} {xs : List tb.den} {ys : List tr.den} {z : tb.den} {u : W} {ds : List Nat} {x0 : Box} (hte : TyOk P te) (ho : o.op = .store T x y) (ht : find te T = some (.sl tr))
    (hx : s.opv x = .w (.one (.ept b i off))) (hy : s.opv y = .w u) (hb : find s.bx b = some x0) (hd : x0.hd = some (tb, xs.length)) (hsl : tb.slAt off = some tr) (hset : ∀ (hi : i < xs.length), tb.slSet off xs[i] tr ys = some z)
    (hbds : b ∉ ds) (hds : ∀ d ∈ ds, ∃ q, find s.bx d = some q)
    (row : ∀ (γ : Gam) (w : World) (cv : Value), BInv w s.bx γ → WRel w (okOf w s.bx γ) s.bx γ u cv → i < xs.length → ∃ A c F1 cv0 G, cv = .slice A ys.length c ∧ OwnG w tr.sz (Rdo w (okOf w s.bx γ) tr) ys A c F1 ∧
      HoleG w (okOf w s.bx γ) tb xs i off cv0 (γ b).A (γ b).c G ∧ (F1 ++ G).Nodup ∧ (∀ n ∈ F1 ++ G, n ∈ (γ b).F ∨ n ∈ FsOf γ ds) ∧ ∀ n ∈ G, n ∈ (γ b).F) :
    OpSim P o s (s.app o.dst (unE [(b, .row tb (xs.set i z))] (b :: ds) (ds ++ [nid b]))) := by
  intro w0 own0 a w ⟨γ, hst⟩ next Q hn
  rw [app_eq] at hn
  have rx := hst.opv x
  have ry := hst.opv y
  rw [hx] at rx
  rw [hy] at ry
  obtain ⟨x2, t2, n2, ad, hb2, hd2, hi, hA, hcv⟩ := rx
  rw [hb] at hb2
  cases hb2
  rw [hd] at hd2
  cases hd2
  obtain ⟨A1, c1, F1, cv0, G, hval, hown1, hhole, hnd, hsub, hGb⟩ := row γ w _ hst.inv ry hi
  have hGo : ∀ n ∈ F1 ++ G, n ∈ owned s.bx γ := by
    intro n hn
    rcases hsub n hn with h | h
    · exact mem_owned hb h
    · obtain ⟨d, hd, hnd⟩ := mem_FsOf.1 h
      obtain ⟨q, hq⟩ := hds d hd
      exact mem_owned hq hnd
  have hGd := List.nodup_append.1 hnd
  obtain ⟨bl, o2, cur, e, hA2, hblG, hh, hfit, hw⟩ := HoleG.write hhole (fun n hn h => h.2.1 (hGo n (List.mem_append_right _ hn))) hGd.2.1 (v := a.eval y) (by rw [hval]; rfl)
  have hA0 := hA
  rw [hA] at hA2
  simp at hA2
  subst hA2
  have hcells : (a.eval y).cells = #[a.eval y] := by rw [hval]; rfl
  have hrun := run_storeAt (P := P) (w := w) (off := o2 + i * tb.sz + off) (hte T _ ht) (cs := [a.eval y]) (by simpa using hcells) rfl (by rw [hval]; simp [Value.oneCell']) hh (by simpa using hfit)
  have hnb1 : bl ∉ F1 := fun hm => hGd.2.2 bl hm bl hblG rfl
  -- the row in the new world
  have give : ∀ ok' : Nat → Prop, (∀ n, okOf w s.bx γ n → ok' n) → ∃ F', OwnG (w.setRow bl (cur.toList.take (o2 + i * tb.sz + off) ++ [a.eval y] ++ cur.toList.drop (o2 + i * tb.sz + off + [a.eval y].length)).toArray) tb.sz
      (Rdo (w.setRow bl (cur.toList.take (o2 + i * tb.sz + off) ++ [a.eval y] ++ cur.toList.drop (o2 + i * tb.sz + off + [a.eval y].length)).toArray) ok' tb) (xs.set i z) (γ b).A (γ b).c F' ∧ F'.Perm (F1 ++ G) := by
    intro ok' hoo
    have h1 := hw ok' hoo
    have h2 : OwnG (w.setRow bl (cur.toList.take (o2 + i * tb.sz + off) ++ [a.eval y] ++ cur.toList.drop (o2 + i * tb.sz + off + [a.eval y].length)).toArray) tr.sz
        (Rdo (w.setRow bl (cur.toList.take (o2 + i * tb.sz + off) ++ [a.eval y] ++ cur.toList.drop (o2 + i * tb.sz + off + [a.eval y].length)).toArray) ok' tr) ys A1 c1 F1 := by
      refine OwnG.mono (fun n hn => ⟨hoo n hn, setRow_heapEq _ _ _ fun e => ?_⟩) (fun n hn => setRow_heapEq _ _ _ fun e => hnb1 (e ▸ hn)) hown1
      subst e
      exact hn.2.1 (hGo n (List.mem_append_right _ hblG))
    rw [hval] at h1
    rw [hval] at h2
    obtain ⟨hi', y', F', e1, e2, e3⟩ := HoleG.give h1 hsl h2
    rw [hset hi'] at e1
    cases e1
    rw [hval]
    exact ⟨F', e2, e3⟩
  -- the blocks do not hang on what may be read
  obtain ⟨F0, hF0, hp0⟩ := give (okOf w s.bx γ) (fun _ h => h)
  obtain ⟨γ', hst'⟩ := hst.turn (w' := w.setRow bl (cur.toList.take (o2 + i * tb.sz + off) ++ [a.eval y] ++ cur.toList.drop (o2 + i * tb.sz + off + [a.eval y].length)).toArray) hb
    (y := .row tb (xs.set i z)) (ds := ds) (dead := ds ++ [nid b]) (F' := F0) (by cases x0 <;> simp_all [Box.like, Box.hd]) hds (fun d hd => by simp [hd]) rfl rfl rfl (by simp) (fun n hnF _ => setRow_heapEq _ _ _ fun e => hnF (hGb n (e ▸ hblG)))
    (hp0.nodup_iff.2 hnd) (fun n hn => hsub n (hp0.mem_iff.1 hn)) (fun h => by simp at h)
    (fun ok' bx' γ' hok _ _ hg => by simp only [BoxRel, hg]; exact OwnG.mono (OkTo.of (fun _ _ => rfl) hok) (fun _ _ => rfl) hF0)
  exact wp_skip' (ex_store ho hcv rfl hrun) (hn _ _ ⟨γ', hst'.put o.dst (VRel.un _)⟩)

end
end Go.Fl
/- Rows laid into elements; elements of rows in elements. -/
namespace Go.Fl
open Go

theorem hao (w : World) (o : Obj) (i : Nat) (h : i < w.heap.size) : (w.alloc o).heap[i]? = w.heap[i]? := by
  simp only [World.alloc, Array.getElem?_push]
  rw [if_neg (by omega)]

section
variable {P : Program} {te : List (Nat × Ty)} {T : Nat} {t : Ty} {w : World}

theorem OwnG.takeN {ok : Nat → Prop} {xs : List t.den} {A : Option Addr} {c : Nat} {F : List Nat} (h : OwnG w t.sz (Rdo w ok t) xs A c F) (n : Nat) (hn : n ≤ xs.length) (hnd : F.Nodup) :
    ∃ F', OwnG w t.sz (Rdo w ok t) (xs.take n) A c F' ∧ F'.Nodup ∧ ∀ b ∈ F', b ∈ F := by
  rcases h with ⟨rfl, rfl, rfl⟩ | ⟨bl, off, cells, e, Fs, hA, hF, hh, hc, hsz, hl, h⟩
  · exact ⟨[], .inl ⟨by simp, rfl, rfl⟩, by simp, by simp⟩
  · subst hF
    have hsub : ∀ b ∈ (Fs.take n).flatten, b ∈ Fs.flatten := by
      intro b hb
      obtain ⟨l, hl, hb⟩ := List.mem_flatten.1 hb
      exact List.mem_flatten.2 ⟨l, List.mem_of_mem_take hl, hb⟩
    obtain ⟨h1, h2⟩ := List.nodup_cons.1 hnd
    refine ⟨bl :: (Fs.take n).flatten, .inr ⟨bl, off, cells, e, Fs.take n, hA, rfl, hh, by simp; omega, hsz, by simp [hl], fun k hk hk' => ?_⟩, List.nodup_cons.2 ⟨fun hm => h1 (hsub bl hm), ?_⟩, fun b hb => ?_⟩
    · obtain ⟨us, g1, g2, g3⟩ := h k (by simp at hk; omega) (by simp at hk'; omega)
      exact ⟨us, by simpa using g1, g2, g3⟩
    · rw [← List.take_append_drop n Fs, List.flatten_append] at h2
      exact (List.nodup_append.1 h2).1
    · rcases List.mem_cons.1 hb with rfl | hb
      · simp
      · exact List.mem_cons_of_mem _ (hsub b hb)

/-- A full row, one of whose rows is given up. -/
theorem open_row {s : S} {γ : Gam} (hinv : BInv w s.bx γ) {b i off : Nat} {tb tr : Ty} {xs : List tb.den} (hb : find s.bx b = some (.row tb xs)) (hi : i < xs.length) (hsl : tb.slAt off = some tr) :
    ∃ ys A1 c1 F1 G, tb.slGet off xs[i] tr = some ys ∧ HoleG w (okOf w s.bx γ) tb xs i off (.slice A1 ys.length c1) (γ b).A (γ b).c G ∧ OwnG w tr.sz (Rdo w (okOf w s.bx γ) tr) ys A1 c1 F1 ∧ (F1 ++ G).Nodup ∧ (∀ n ∈ F1 ++ G, n ∈ (γ b).F) := by
  obtain ⟨ys, hys⟩ := slAt_get (x := xs[i]) hsl
  obtain ⟨A1, c1, F1, G, e1, e2, e3, _⟩ := OwnG.takeH (hinv.boxes b _ hb) hi hys
  exact ⟨ys, A1, c1, F1, G, hys, e1, e2, e3.nodup_iff.1 (box_nodup hinv.apart hb), fun n hn => e3.mem_iff.2 hn⟩

theorem getD_at {tb : Ty} {xs : List tb.den} {i : Nat} (hi : i < xs.length) : xs.getD i tb.zero = xs[i] := by simp [List.getD, hi]

theorem sim_store_row {o : Oper} {s : S} {x y : Operand} {b i off r : Nat} {tb tr : Ty} {xs : List tb.den} {ys : List tr.den} {z : tb.den} (hte : TyOk P te) (ho : o.op = .store T x y) (ht : find te T = some (.sl tr))
    (hx : s.opv x = .w (.one (.ept b i off))) (hy : s.opv y = .w (.one (.row r))) (hb : find s.bx b = some (.row tb xs)) (hr : find s.bx r = some (.row tr ys)) (hsl : tb.slAt off = some tr) (hrb : r ≠ b)
    (hset : tb.slSet off (xs.getD i tb.zero) tr ys = some z) : OpSim P o s (s.app o.dst (unE [(b, .row tb (xs.set i z))] [b, r] [r, nid b])) := by
  refine sim_store_cell (ds := [r]) (xs := xs) (ys := ys) (z := z) hte ho ht hx hy hb rfl hsl (fun hi => by rw [← getD_at hi]; exact hset) (by simpa using Ne.symm hrb) (fun d hd => by simp at hd; subst hd; exact ⟨_, hr⟩) ?_
  intro γ w cv hinv hcv hi
  obtain ⟨zs, A1, c1, F1, G, _, h2, _, h4, h5⟩ := open_row hinv hb hi hsl
  obtain ⟨x2, t2, n2, hb2, hd2, hcv⟩ := hcv
  rw [hr] at hb2
  cases hb2
  simp [Box.hd] at hd2
  obtain ⟨rfl, rfl⟩ := hd2
  have hG : ∀ n ∈ G, n ∈ (γ b).F := fun n hn => h5 n (List.mem_append_right _ hn)
  refine ⟨_, _, (γ r).F, _, G, hcv, hinv.boxes r _ hr, h2, List.nodup_append.2 ⟨box_nodup hinv.apart hr, (List.nodup_append.1 h4).2.1, fun n hn m hm hnm => ?_⟩, fun n hn => ?_, hG⟩
  · subst hnm; exact apart_two hinv.apart hr hb hrb hn (hG n hm)
  · rcases List.mem_append.1 hn with h | h
    · exact .inr (mem_FsOf.2 ⟨r, by simp, h⟩)
    · exact .inl (hG n h)

theorem sim_store_hole {o : Oper} {s : S} {x y : Operand} {b i off r : Nat} {tb tr : Ty} {xs : List tb.den} {ys : List tr.den} {z : tb.den} {l : L} (hte : TyOk P te) (ho : o.op = .store T x y) (ht : find te T = some (.sl tr))
    (hx : s.opv x = .w (.one (.ept b i off))) (hy : s.opv y = .w (.one (.row r))) (hb : find s.bx b = some (.hole tb xs i off l)) (hr : find s.bx r = some (.row tr ys)) (hsl : tb.slAt off = some tr) (hrb : r ≠ b)
    (hset : tb.slSet off (xs.getD i tb.zero) tr ys = some z) : OpSim P o s (s.app o.dst (unE [(b, .row tb (xs.set i z))] [b, r] [r, nid b])) := by
  refine sim_store_cell (ds := [r]) (xs := xs) (ys := ys) (z := z) hte ho ht hx hy hb rfl hsl (fun hi => by rw [← getD_at hi]; exact hset) (by simpa using Ne.symm hrb) (fun d hd => by simp at hd; subst hd; exact ⟨_, hr⟩) ?_
  intro γ w cv hinv hcv hi
  obtain ⟨cv0, h2, _⟩ := hinv.boxes b _ hb
  obtain ⟨x2, t2, n2, hb2, hd2, hcv⟩ := hcv
  rw [hr] at hb2
  cases hb2
  simp [Box.hd] at hd2
  obtain ⟨rfl, rfl⟩ := hd2
  refine ⟨_, _, (γ r).F, _, (γ b).F, hcv, hinv.boxes r _ hr, h2, List.nodup_append.2 ⟨box_nodup hinv.apart hr, box_nodup hinv.apart hb, fun n hn m hm hnm => ?_⟩, fun n hn => ?_, fun n hn => hn⟩
  · subst hnm; exact apart_two hinv.apart hr hb hrb hn hm
  · rcases List.mem_append.1 hn with h | h
    · exact .inr (mem_FsOf.2 ⟨r, by simp, h⟩)
    · exact .inl h

theorem sim_store_nil {o : Oper} {s : S} {x y : Operand} {b i off : Nat} {tb tr : Ty} {xs : List tb.den} {z : tb.den} (hte : TyOk P te) (ho : o.op = .store T x y) (ht : find te T = some (.sl tr))
    (hx : s.opv x = .w (.one (.ept b i off))) (hy : s.opv y = .w (.one .nil)) (hb : find s.bx b = some (.row tb xs)) (hsl : tb.slAt off = some tr)
    (hset : tb.slSet off (xs.getD i tb.zero) tr [] = some z) : OpSim P o s (s.app o.dst (unE [(b, .row tb (xs.set i z))] [b] [nid b])) := by
  refine sim_store_cell (ds := []) (xs := xs) (ys := []) (z := z) hte ho ht hx hy hb rfl hsl (fun hi => by rw [← getD_at hi]; exact hset) (by simp) (by simp) ?_
  intro γ w cv hinv hcv hi
  obtain ⟨zs, A1, c1, F1, G, _, h2, _, h4, h5⟩ := open_row hinv hb hi hsl
  have hG : ∀ n ∈ G, n ∈ (γ b).F := fun n hn => h5 n (List.mem_append_right _ hn)
  have hcv' : cv = .slice none 0 0 := hcv
  exact ⟨none, 0, [], _, G, hcv', .inl ⟨rfl, rfl, rfl⟩, h2, by simpa using (List.nodup_append.1 h4).2.1, fun n hn => .inl (hG n (by simpa using hn)), hG⟩

theorem sim_store_cut {o : Oper} {s : S} {x y : Operand} {b i off lo n : Nat} {tb tr : Ty} {xs : List tb.den} {ys : List tr.den} {z : tb.den} (hte : TyOk P te) (ho : o.op = .store T x y) (ht : find te T = some (.sl tr))
    (hx : s.opv x = .w (.one (.ept b i off))) (hy : s.opv y = .w (.one (.nvw b i off lo n))) (hb : find s.bx b = some (.row tb xs)) (hsl : tb.slAt off = some tr) (hget : tb.slGet off (xs.getD i tb.zero) tr = some ys)
    (hset : tb.slSet off (xs.getD i tb.zero) tr (ys.take n) = some z) : OpSim P o s (s.app o.dst (unE [(b, .row tb (xs.set i z))] [b] [nid b])) := by
  refine sim_store_cell (ds := []) (xs := xs) (ys := ys.take n) (z := z) hte ho ht hx hy hb rfl hsl (fun hi => by rw [← getD_at hi]; exact hset) (by simp) (by simp) ?_
  intro γ w cv hinv hcv hi
  obtain ⟨ad, m, c, te2, x2, t2, k2, hnest, _, _, _, hle, hlo, rfl⟩ := hcv
  subst hlo
  obtain ⟨_, A', c', F1, G, hcv, hole, hown, hperm, hGb, _⟩ := nest_row (hinv.boxes b _ hb) hnest hb hget
  simp at hcv
  obtain ⟨rfl, rfl, rfl⟩ := hcv
  have hnd := hperm.nodup_iff.1 (box_nodup hinv.apart hb)
  have hnd' := List.nodup_append.1 hnd
  obtain ⟨F', h1, h2, h3⟩ := hown.takeN n (by omega) hnd'.1
  have hG : ∀ n ∈ G, n ∈ (γ b).F := fun n hn => hperm.mem_iff.2 (List.mem_append_right _ hn)
  refine ⟨ad, c, F', _, G, ?_, h1, hole, List.nodup_append.2 ⟨h2, hnd'.2.1, fun a ha b' hb' e => hnd'.2.2 a (h3 a ha) b' hb' e⟩, fun k hk => ?_, hG⟩
  · simp; omega
  · rcases List.mem_append.1 hk with h | h
    · exact .inl (hperm.mem_iff.2 (List.mem_append_left _ (h3 k h)))
    · exact .inl (hG k h)

/-- An element of a row in an element is written: a cell of it, or all of it. -/
theorem sim_store_nept {o : Oper} {s : S} {x y : Operand} {b i off j q : Nat} {tb te' : Ty} {xs : List tb.den} {ys : List te'.den} {v : W} {u : te'.den} {z : tb.den} (hte : TyOk P te) (ho : o.op = .store T x y) (ht : find te T = some t)
    (hx : s.opv x = .w (.one (.nept b i off j q))) (hy : s.opv y = .w v) (hb : find s.bx b = some (.row tb xs)) (hsl : tb.slAt off = some te') (hget : tb.slGet off (xs.getD i tb.zero) te' = some ys) (hno : te'.noOwn = true)
    (hu : (te' = t ∧ q = 0 ∧ ownW [] te' v = some (u, [])) ∨ (t.one = true ∧ ∃ l, v = .one l ∧ te'.setLeaf q (ys.getD j te'.zero) l = some u))
    (hset : tb.slSet off (xs.getD i tb.zero) te' (ys.set j u) = some z) : OpSim P o s (s.app o.dst (unE [(b, .row tb (xs.set i z))] [b] [])) := by
  intro w0 own0 a w ⟨γ, hst⟩ next Q hn
  rw [app_eq] at hn
  have rx := hst.opv x
  have ry := hst.opv y
  rw [hx] at rx
  rw [hy] at ry
  obtain ⟨ad, m, c, t3, x2, t2, n2, hnest, hsp, hb2, hd2, hsl2, hjm, hcv⟩ := rx
  rw [hb] at hb2
  cases hb2
  simp [Box.hd] at hd2
  obtain ⟨rfl, rfl⟩ := hd2
  rw [hsl] at hsl2
  cases hsl2
  have hbox : OwnG w tb.sz (Rdo w (okOf w s.bx γ) tb) xs (γ b).A (γ b).c (γ b).F := hst.inv.boxes b _ hb
  obtain ⟨hi, A', c', F1, G, hval, hole, hown, hperm, _, hget'⟩ := nest_row hbox hnest hb hget
  simp at hval
  obtain ⟨rfl, rfl, rfl⟩ := hval
  have hnd := hperm.nodup_iff.1 (box_nodup hst.inv.apart hb)
  have hnd' := List.nodup_append.1 hnd
  have hmem : ∀ n, n ∈ F1 ++ G → n ∈ (γ b).F := fun n hn => hperm.mem_iff.2 hn
  have hnok : ∀ n ∈ F1 ++ G, ¬ okOf w s.bx γ n := fun n hn h => h.2.1 (mem_owned hb (hmem n hn))
  -- the inner row in the new world
  have inner : ∃ (bl off2 : Nat) (cur : Array Value) (e : TypeId) (cs : List Value) (F' : List Nat), ad = ⟨bl, off2, none⟩ ∧ bl ∈ F1 ∧ w.heap[bl]? = some (.cells cur e (0, 0)) ∧ (a.eval y).cells = cs.toArray ∧ cs.length = t.sz ∧ (∀ c ∈ cs, c.oneCell' = true) ∧
      off2 + j * te'.sz + q + cs.length ≤ cur.size ∧ F'.Nodup ∧ (∀ n ∈ F', n ∈ F1) ∧ ∀ ok' : Nat → Prop, (∀ n, okOf w s.bx γ n → ok' n) →
        OwnG (w.setRow bl (cur.toList.take (off2 + j * te'.sz + q) ++ cs ++ cur.toList.drop (off2 + j * te'.sz + q + cs.length)).toArray) te'.sz
          (Rdo (w.setRow bl (cur.toList.take (off2 + j * te'.sz + q) ++ cs ++ cur.toList.drop (off2 + j * te'.sz + q + cs.length)).toArray) ok' te') (ys.set j u) (some ad) c F' := by
    rcases hu with ⟨rfl, rfl, hv⟩ | ⟨h1, l, rfl, hl⟩
    · obtain ⟨cs, hr, hpk, _⟩ := ownW_rel (bx := s.bx) (γ := γ) (fun b t xs h => hst.inv.boxes b _ h) ry (by
        have := ownW_mono (bx := []) (bx' := s.bx) (fun b x h => by simp [find] at h) hv
        exact this)
      obtain ⟨bl, o2, cur, e, F', hA2, hblF, hh, hfit, hFn, hFs, hw⟩ := own_set hown (fun n hn => hnok n (List.mem_append_left _ hn)) hnd'.1 hjm (y := u) (us := cs) (G := []) hr.len (by simp) (by simp) (by simpa [FsOf] using hr)
      have hcells : (a.eval y).cells = cs.toArray := by rw [hpk]; exact pack_cells _ hr.len fun _ => hr.oneCell
      cases hA2
      exact ⟨bl, o2, cur, e, cs, F', rfl, hblF, hh, hcells, hr.len, hr.oneCell, by simpa using hfit, hFn, fun n hn => (hFs n hn).resolve_right (by simp), by simpa using hw⟩
    · have hgj : ys.getD j te'.zero = ys[j] := by simp [List.getD, hjm]
      rw [hgj] at hl
      obtain ⟨bl0, off0, cells0, e0, Fs0, _, _, _, _, _, hl0, hel0⟩ := own_head hown hjm
      obtain ⟨us0, hr0, hul0, _⟩ := hel0 j hjm (by omega)
      obtain ⟨hoff, hr1⟩ := Rdo.setLeaf ry hr0 hl
      have hc1 : (a.eval y).oneCell' = true := hr1.oneCell _ (List.mem_of_getElem? (by rw [List.getElem?_set_self (by omega)]))
      obtain ⟨bl, o2, cur, e, hA2, hblF, hh, hfit, hw⟩ := own_leaf hown (fun n hn => hnok n (List.mem_append_left _ hn)) hnd'.1 hjm hoff (fun us G h => (Rdo.setLeaf ry h hl).2)
      have hcells : (a.eval y).cells = #[a.eval y] := by cases hv : a.eval y <;> simp_all [Value.cells, Value.oneCell']
      cases hA2
      exact ⟨bl, o2, cur, e, [a.eval y], F1, rfl, hblF, hh, by simpa using hcells, by simp [Ty.one_sz h1], by simpa using hc1, by simpa using hfit, hnd'.1, fun n hn => hn, hw⟩
  obtain ⟨bl, off2, cur, e, cs, F', rfl, hblF, hh, hcells, hlen, hc1, hfit, hFn, hFs, hw⟩ := inner
  have hrun := run_storeAt (P := P) (w := w) (off := off2 + j * te'.sz + q) (hte T _ ht) hcells hlen hc1 hh hfit
  have hblG : bl ∉ G := fun hm => hnd'.2.2 bl hblF bl hm rfl
  have hkeepG : ∀ n ∈ G, (w.setRow bl (cur.toList.take (off2 + j * te'.sz + q) ++ cs ++ cur.toList.drop (off2 + j * te'.sz + q + cs.length)).toArray).heap[n]? = w.heap[n]? := fun n hn => setRow_heapEq _ _ _ fun e => hblG (e ▸ hn)
  have give : ∀ ok' : Nat → Prop, (∀ n, okOf w s.bx γ n → ok' n) → ∃ F2, OwnG (w.setRow bl (cur.toList.take (off2 + j * te'.sz + q) ++ cs ++ cur.toList.drop (off2 + j * te'.sz + q + cs.length)).toArray) tb.sz
      (Rdo (w.setRow bl (cur.toList.take (off2 + j * te'.sz + q) ++ cs ++ cur.toList.drop (off2 + j * te'.sz + q + cs.length)).toArray) ok' tb) (xs.set i z) (γ b).A (γ b).c F2 ∧ F2.Perm (F' ++ G) := by
    intro ok' hoo
    have h1 := hw ok' hoo
    have h2 := hole.mono (w' := w.setRow bl (cur.toList.take (off2 + j * te'.sz + q) ++ cs ++ cur.toList.drop (off2 + j * te'.sz + q + cs.length)).toArray) (ok' := ok')
      (fun n hn => ⟨hoo n hn, setRow_heapEq _ _ _ fun e => by subst e; exact hnok n (List.mem_append_left _ hblF) hn⟩) hkeepG
    have h3 : (Value.slice (some ⟨bl, off2, none⟩) ys.length c) = .slice (some ⟨bl, off2, none⟩) (ys.set j u).length c := by simp
    rw [h3] at h2
    obtain ⟨hi', y', F2, e1, e2, e3⟩ := HoleG.give h2 hsl h1
    rw [getD_at hi] at hset
    rw [hset] at e1
    cases e1
    exact ⟨F2, e2, e3⟩
  obtain ⟨F0, hF0, hp0⟩ := give (okOf w s.bx γ) (fun _ h => h)
  have hsubF : ∀ n ∈ F' ++ G, n ∈ (γ b).F := fun n hn => hmem n ((List.mem_append.1 hn).elim (fun h => List.mem_append_left _ (hFs n h)) fun h => List.mem_append_right _ h)
  obtain ⟨γ', hst'⟩ := hst.turn (w' := w.setRow bl (cur.toList.take (off2 + j * te'.sz + q) ++ cs ++ cur.toList.drop (off2 + j * te'.sz + q + cs.length)).toArray) hb
    (y := .row tb (xs.set i z)) (ds := []) (dead := []) (F' := F0) (by simp [Box.like, Box.hd]) (by simp) (by simp) rfl rfl rfl (by simp) (fun n hnF _ => setRow_heapEq _ _ _ fun e => hnF (e ▸ hmem bl (List.mem_append_left _ hblF)))
    (hp0.nodup_iff.2 (List.nodup_append.2 ⟨hFn, hnd'.2.1, fun x hx y hy e => hnd'.2.2 x (hFs x hx) y hy e⟩)) (fun n hn => .inl (hsubF n (hp0.mem_iff.1 hn)))
    (fun _ => by
      intro t' n' hd' ad' ha' k q2 te2 hk hq2
      simp [Box.hd] at hd'
      obtain ⟨rfl, rfl⟩ := hd'
      refine cell_same (hkeepG _ ?_) _
      obtain ⟨bl3, off3, cells3, e3, Fs3, hA3, hG3, _⟩ := hole
      rw [ha'] at hA3
      cases hA3
      simp [hG3])
    (fun ok' bx' γ' hok _ _ hg => by simp only [BoxRel, hg]; exact OwnG.mono (OkTo.of (fun _ _ => rfl) hok) (fun _ _ => rfl) hF0)
  exact wp_skip' (ex_store ho hcv rfl hrun) (hn _ _ ⟨γ', hst'.put o.dst (VRel.un _)⟩)

end
end Go.Fl
/- Literals, appends. -/
namespace Go.Fl
open Go

/-- A row stands for others. -/
theorem StG.take {w0 w w' : World} {own0 : Ow} {s : S} {γ : Gam} {a : Act} (h : StG w0 own0 s γ a w) {Ds dead : List Nat} {b : Nat} {t : Ty} {zs : List t.den} {A : Option Addr} {c : Nat} {F' : List Nat}
    (hb : b ∈ Ds ∨ find s.bx b = none) (hDs : ∀ d ∈ Ds, ∃ x, find s.bx d = some x) (hdd : ∀ d ∈ Ds, d ∈ dead)
    (hos : w'.os = w.os) (htape : w'.tape = w.tape) (hout : w'.output = w.output) (hsize : w.heap.size ≤ w'.heap.size)
    (hkeep : ∀ n, n < w.heap.size → n ∉ FsOf γ Ds → w'.heap[n]? = w.heap[n]?)
    (hF : F'.Nodup) (hFs : ∀ n ∈ F', n < w'.heap.size ∧ (w.heap.size ≤ n ∨ n ∈ FsOf γ Ds))
    (hown : ∀ ok' : Nat → Prop, (∀ n, okOf w s.bx γ n → ok' n) → OwnG w' t.sz (Rdo w' ok' t) zs A c F') :
    ∃ γ', StG w0 own0 (s.reb [(b, .row t zs)] (Ds.contains ·) (dead.contains ·)) γ' a w' ∧ γ' b = ⟨A, c, F'⟩ ∧ find (s.reb [(b, .row t zs)] (Ds.contains ·) (dead.contains ·)).bx b = some (.row t zs) := by
  have hfind : find [(b, Box.row t zs)] b = some (.row t zs) := by simp [find]
  refine ⟨over [(b, .row t zs)] (fun _ => ⟨A, c, F'⟩) γ, ?_, over_new hfind, by simp [S.reb, find]⟩
  refine (h.reb (w' := w') (nb := [(b, .row t zs)]) (D := (Ds.contains ·)) (dead := (dead.contains ·)) (g := fun _ => ⟨A, c, F'⟩) hos htape hout hsize
    (fun n hn hno => hkeep n hn fun hm => hno (owned_contains hDs hm)) (by simp) ?_ (by simpa [owned] using hF) ?_ ?_ ?_).1
  · intro p hp
    simp at hp
    subst hp
    exact hb.imp (fun h => by simpa using h) id
  · intro n hn
    have hn' : n ∈ F' := by simpa [owned] using hn
    obtain ⟨h1, h2⟩ := hFs n hn'
    exact ⟨h1, h2.imp id (owned_contains hDs)⟩
  · intro k z hk hkD _
    have h1 : k ∈ Ds := by simpa using hkD
    have h2 : k ∉ dead := by simpa using hk
    exact absurd (hdd k h1) h2
  · intro hok hwk hp k z hk
    simp only [find_cons] at hk
    split at hk
    · rename_i hkb
      subst hkb
      cases hk
      simp only [BoxRel, over_new hfind]
      exact hown _ hok
    · simp [find] at hk

/-! ### Cells of a row, element by element -/

theorem flat_get {α : Type} : ∀ {L : List (List α)} {sz : Nat}, (∀ l ∈ L, l.length = sz) → ∀ i j, j < sz → L.flatten[i * sz + j]? = (L[i]?).bind (·[j]?) := by
  intro L
  induction L with
  | nil => intro sz _ i j _; simp
  | cons l r ih =>
    intro sz h i j hj
    have hl := h l (by simp)
    cases i with
    | zero => simp only [Nat.zero_mul, Nat.zero_add, List.flatten_cons]; rw [List.getElem?_append_left (by omega)]; rfl
    | succ i =>
      have : (i + 1) * sz + j = sz + (i * sz + j) := by rw [Nat.add_mul]; omega
      rw [this, List.flatten_cons, List.getElem?_append_right (by omega), hl, Nat.add_sub_cancel_left, ih (fun l hl => h l (by simp [hl])) i j hj]
      rfl

theorem flat_len {α : Type} : ∀ {L : List (List α)} {sz : Nat}, (∀ l ∈ L, l.length = sz) → L.flatten.length = L.length * sz := by
  intro L
  induction L with
  | nil => intro sz _; simp
  | cons l r ih =>
    intro sz h
    rw [List.flatten_cons, List.length_append, h l (by simp), ih (fun l hl => h l (by simp [hl])), List.length_cons, Nat.add_mul]
    omega

theorem list_of_fn {α : Type} (n : Nat) (p : Nat → α → Prop) (h : ∀ i, i < n → ∃ x, p i x) : ∃ l : List α, l.length = n ∧ ∀ i (hi : i < l.length), p i l[i] := by
  induction n with
  | zero => exact ⟨[], rfl, fun i hi => absurd hi (Nat.not_lt_zero _)⟩
  | succ n ih =>
    obtain ⟨l, hl, hp⟩ := ih fun i hi => h i (by omega)
    obtain ⟨x, hx⟩ := h n (by omega)
    refine ⟨l ++ [x], by simp [hl], fun i hi => ?_⟩
    rcases Nat.lt_or_ge i l.length with h1 | h1
    · rw [List.getElem_append_left h1]; exact hp i h1
    · have : i = n := by simp at hi; omega
      subst this
      rw [List.getElem_append_right h1]
      simp [hl]; exact hx

section
variable {P : Program} {te : List (Nat × Ty)} {T : Nat} {t : Ty} {w : World}

/-- What lies in an owned row. -/
theorem OwnG.els {ok : Nat → Prop} {xs : List t.den} {A : Option Addr} {c : Nat} {F : List Nat} (h : OwnG w t.sz (Rdo w ok t) xs A c F) :
    ∃ (uss : List (List Value)) (Fs : List (List Nat)), uss.length = xs.length ∧ Fs.length = xs.length ∧ (∀ us ∈ uss, us.length = t.sz) ∧
      (∀ i (h : i < xs.length) (h1 : i < uss.length) (h2 : i < Fs.length), Rdo w ok t xs[i] uss[i] Fs[i]) ∧
      ((xs = [] ∧ c = 0 ∧ F = []) ∨ ∃ (bl off : Nat) (cells : Array Value) (e : TypeId), A = some ⟨bl, off, none⟩ ∧ F = bl :: Fs.flatten ∧ w.heap[bl]? = some (.cells cells e (0, 0)) ∧
        xs.length ≤ c ∧ off + c * t.sz ≤ cells.size ∧ ∀ j v, uss.flatten[j]? = some v → cells[off + j]? = some v) := by
  rcases h with ⟨rfl, rfl, rfl⟩ | ⟨bl, off, cells, e, Fs, hA, hF, hh, hc, hsz, hl, hel⟩
  · exact ⟨[], [], rfl, rfl, by simp, fun i hi => absurd hi (Nat.not_lt_zero _), .inl ⟨rfl, rfl, rfl⟩⟩
  · obtain ⟨uss, hul, hp⟩ := list_of_fn xs.length (fun i us => ∀ (h : i < xs.length) (h' : i < Fs.length), Rdo w ok t xs[i] us Fs[i] ∧ us.length = t.sz ∧ ∀ j v, us[j]? = some v → cells[off + i * t.sz + j]? = some v)
      (fun i hi => by
        obtain ⟨us, h1⟩ := hel i hi (by omega)
        exact ⟨us, fun _ _ => h1⟩)
    have hus : ∀ us ∈ uss, us.length = t.sz := by
      intro us hus
      obtain ⟨i, hi, rfl⟩ := List.getElem_of_mem hus
      exact (hp i hi (by omega) (by omega)).2.1
    refine ⟨uss, Fs, hul, hl, hus, fun i h h1 h2 => (hp i h1 h h2).1, .inr ⟨bl, off, cells, e, hA, hF, hh, hc, hsz, fun j v hj => ?_⟩⟩
    have hjl : j < uss.flatten.length := by
      rcases Nat.lt_or_ge j uss.flatten.length with h | h
      · exact h
      · rw [List.getElem?_eq_none h] at hj; cases hj
    rw [flat_len hus] at hjl
    rcases Nat.eq_zero_or_pos t.sz with h0 | h0
    · rw [h0] at hjl; simp at hjl
    have hd := Nat.div_add_mod j t.sz
    have hm := Nat.mod_lt j h0
    have hq : j / t.sz < uss.length := (Nat.div_lt_iff_lt_mul h0).2 hjl
    rw [Nat.mul_comm] at hd
    rw [← hd, flat_get hus _ _ hm, List.getElem?_eq_getElem hq] at hj
    have := (hp _ hq (by omega) (by omega)).2.2 _ _ hj
    rw [Nat.add_assoc, hd] at this
    exact this

theorem OwnG.make {ok : Nat → Prop} {xs : List t.den} {c : Nat} {bl off : Nat} {cells : Array Value} {e : TypeId} {uss : List (List Value)} {Fs : List (List Nat)}
    (hh : w.heap[bl]? = some (.cells cells e (0, 0))) (hul : uss.length = xs.length) (hfl : Fs.length = xs.length) (hus : ∀ us ∈ uss, us.length = t.sz)
    (hel : ∀ i (h : i < xs.length) (h1 : i < uss.length) (h2 : i < Fs.length), Rdo w ok t xs[i] uss[i] Fs[i]) (hc : xs.length ≤ c) (hsz : off + c * t.sz ≤ cells.size)
    (hcells : ∀ j v, uss.flatten[j]? = some v → cells[off + j]? = some v) : OwnG w t.sz (Rdo w ok t) xs (some ⟨bl, off, none⟩) c (bl :: Fs.flatten) := by
  refine .inr ⟨bl, off, cells, e, Fs, rfl, rfl, hh, hc, hsz, hfl, fun i hi hi' => ⟨uss[i], hel i hi (by omega) hi', hus _ (List.getElem_mem _), fun j v hj => ?_⟩⟩
  have hi2 : i < uss.length := by omega
  have hjl : j < t.sz := by
    have h1 := hus uss[i] (List.getElem_mem hi2)
    rcases Nat.lt_or_ge j uss[i].length with h | h
    · omega
    · rw [List.getElem?_eq_none h] at hj; cases hj
  rw [Nat.add_assoc]
  apply hcells
  rw [flat_get hus _ _ hjl, List.getElem?_eq_getElem (by omega)]
  exact hj

theorem els_one {ok : Nat → Prop} {xs : List t.den} {uss : List (List Value)} {Fs : List (List Nat)} (hul : uss.length = xs.length) (hfl : Fs.length = xs.length)
    (hel : ∀ i (h : i < xs.length) (h1 : i < uss.length) (h2 : i < Fs.length), Rdo w ok t xs[i] uss[i] Fs[i]) : ∀ v ∈ uss.flatten, v.oneCell' = true := by
  intro v hv
  obtain ⟨us, hus, hv⟩ := List.mem_flatten.1 hv
  obtain ⟨i, hi, rfl⟩ := List.getElem_of_mem hus
  exact (hel i (by omega) hi (by omega)).oneCell v hv

/-! ### append -/

theorem run_append_none (tT tx ty e : TypeId) (i : TypeInfo) (ht : P.underlying tT = some (.slice e)) (hi : P.info? e = some i) (base : Option Addr) (sLen sCap : Nat) (x : Value) (hs : Src P i.size tx x 0 [] w)
    (hroom : sLen ≤ sCap) : (Builtin.append_ #[tT, tx] ty #[.slice base sLen sCap, x]).run P w = .ok (.slice base sLen sCap) w := by
  have hl := hs.len w
  have hc := hs.cells
  rcases hs.kind with ⟨e', hk⟩ | hk <;> cases base <;> simp [Builtin.append_, run_underlying ht, run_underlying hk, sizeOf, typeInfo, hi, hl, hroom, hc, storeCells]

theorem run_append_room_row (tT tx ty e e2 : TypeId) (i : TypeInfo) (ht : P.underlying tT = some (.slice e)) (hi : P.info? e = some i) (g off sLen sCap : Nat) (cur : Array Value) (hg : w.heap[g]? = some (.cells cur e2 (0, 0)))
    (x : Value) (n : Nat) (news : List Value) (hs : Src P i.size tx x n news w)
    (hroom : sLen + n ≤ sCap) (hfit : off + sLen * i.size + news.length ≤ cur.size) :
    (Builtin.append_ #[tT, tx] ty #[.slice (some ⟨g, off, none⟩) sLen sCap, x]).run P w = .ok (.slice (some ⟨g, off, none⟩) (sLen + n) sCap)
      (w.setRow g (cur.toList.take (off + sLen * i.size) ++ news ++ cur.toList.drop (off + sLen * i.size + news.length)).toArray) := by
  have hst := run_storeCells_at P g (off + sLen * i.size) e2 news 0 cur w hg (by simpa using hfit) hs.one
  simp only [Nat.add_zero] at hst
  rcases hs.kind with ⟨e', hk⟩ | hk <;> simp [Builtin.append_, run_underlying ht, run_underlying hk, sizeOf, typeInfo, hi, hs.len, hroom, hs.cells, Addr.add_lit, hst]

theorem splice_at {cells : Array Value} {p : Nat} {news : List Value} (hp : p + news.length ≤ cells.size) (k : Nat) :
    (cells.toList.take p ++ news ++ cells.toList.drop (p + news.length)).toArray[k]? = if k < p then cells[k]? else if k < p + news.length then news[k - p]? else cells[k]? := by
  have htl : (cells.toList.take p).length = p := by simp; omega
  simp only [List.getElem?_toArray]
  by_cases h1 : k < p
  · rw [if_pos h1, List.append_assoc, List.getElem?_append_left (by omega), List.getElem?_take, if_pos h1]; simp
  · rw [if_neg h1]
    by_cases h2 : k < p + news.length
    · rw [if_pos h2, List.append_assoc, List.getElem?_append_right (by omega), htl, List.getElem?_append_left (by omega)]
    · rw [if_neg h2, List.getElem?_append_right (by simp; omega), List.getElem?_drop]
      simp only [List.length_append, htl]
      rw [show p + news.length + (k - (p + news.length)) = k from by omega]
      simp

theorem getElem?_lt {α : Type} {l : List α} {j : Nat} {v : α} (h : l[j]? = some v) : j < l.length := by
  rcases Nat.lt_or_ge j l.length with h' | h'
  · exact h'
  · rw [List.getElem?_eq_none h'] at h; cases h

theorem els_append {ok ok' : Nat → Prop} {xs ys : List t.den} {uxs uys : List (List Value)} {Fx Gy : List (List Nat)} {w' : World} (hux : uxs.length = xs.length) (hfx : Fx.length = xs.length)
    (hx : ∀ i (h : i < xs.length) (h1 : i < uxs.length) (h2 : i < Fx.length), Rdo w ok t xs[i] uxs[i] Fx[i])
    (hy : ∀ i (h : i < ys.length) (h1 : i < uys.length) (h2 : i < Gy.length), Rdo w ok t ys[i] uys[i] Gy[i])
    (ho : OkTo w ok w' ok') (hw : ∀ n ∈ (Fx ++ Gy).flatten, w'.heap[n]? = w.heap[n]?) :
    ∀ i (h : i < (xs ++ ys).length) (h1 : i < (uxs ++ uys).length) (h2 : i < (Fx ++ Gy).length), Rdo w' ok' t (xs ++ ys)[i] (uxs ++ uys)[i] (Fx ++ Gy)[i] := by
  intro i h h1 h2
  refine Rdo.mono (w := w) ho (fun n hn => hw n (mem_flatten_get hn)) ?_
  rcases Nat.lt_or_ge i xs.length with hi | hi
  · rw [List.getElem_append_left hi, List.getElem_append_left (by omega), List.getElem_append_left (by omega)]
    exact hx i hi (by omega) (by omega)
  · rw [List.getElem_append_right hi, List.getElem_append_right (by omega), List.getElem_append_right (by omega)]
    simp only [List.length_append] at h h1 h2
    simp only [hux, hfx]
    exact hy (i - xs.length) (by omega) (by omega) (by omega)

/-- append, onto what is owned. -/
theorem append_own {e tx ty : TypeId} {i : TypeInfo} {z : Value} (hu : P.underlying T = some (.slice e)) (hi : P.info? e = some i) (hz : i.zero = some z) (hsz : i.size = t.sz) (hby : i.bytes ≤ 65536) (hzc : z.cells.size = t.sz)
    {ok : Nat → Prop} {xs ys : List t.den} {A : Option Addr} {c : Nat} {F : List Nat} (hob : ∀ n, ok n → n < w.heap.size ∧ n ∉ F) (hx : OwnG w t.sz (Rdo w ok t) xs A c F) (hF : F.Nodup) (hFb : ∀ n ∈ F, n < w.heap.size)
    {x : Value} {uys : List (List Value)} {Gy : List (List Nat)} (hul : uys.length = ys.length) (hgl : Gy.length = ys.length) (hus : ∀ us ∈ uys, us.length = t.sz)
    (hs : Src P t.sz tx x ys.length uys.flatten w) (hy : ∀ i (h : i < ys.length) (h1 : i < uys.length) (h2 : i < Gy.length), Rdo w ok t ys[i] uys[i] Gy[i])
    (hG : Gy.flatten.Nodup) (hGb : ∀ n ∈ Gy.flatten, n < w.heap.size ∧ n ∉ F) (hlim : xs.length + ys.length ≤ lim) :
    ∃ (w' : World) (A' : Option Addr) (c' : Nat) (F' : List Nat), (Builtin.append_ #[T, tx] ty #[.slice A xs.length c, x]).run P w = .ok (.slice A' (xs ++ ys).length c') w' ∧
      w'.os = w.os ∧ w'.tape = w.tape ∧ w'.output = w.output ∧ w.heap.size ≤ w'.heap.size ∧ (∀ n, n < w.heap.size → n ∉ F → w'.heap[n]? = w.heap[n]?) ∧
      F'.Nodup ∧ (∀ n ∈ F', n < w'.heap.size ∧ (w.heap.size ≤ n ∨ n ∈ F ∨ n ∈ Gy.flatten)) ∧ ∀ ok' : Nat → Prop, (∀ n, ok n → ok' n) → OwnG w' t.sz (Rdo w' ok' t) (xs ++ ys) A' c' F' := by
  have hlen : (xs ++ ys).length = xs.length + ys.length := by simp
  rcases Nat.eq_zero_or_pos ys.length with h0 | h0
  · have hys : ys = [] := List.length_eq_zero_iff.1 h0
    subst hys
    have huys : uys = [] := List.length_eq_zero_iff.1 (by simpa using hul)
    subst huys
    have hc : xs.length ≤ c := by
      rcases hx with ⟨rfl, rfl, rfl⟩ | ⟨_, _, _, _, _, _, _, _, hc, _⟩
      · simp
      · exact hc
    refine ⟨w, A, c, F, ?_, rfl, rfl, rfl, Nat.le_refl _, fun _ _ _ => rfl, hF, fun n hn => ⟨hFb n hn, .inr (.inl hn)⟩, fun ok' hoo => by simpa using hx.mono (OkTo.of (fun _ _ => rfl) hoo) (fun _ _ => rfl)⟩
    rw [List.append_nil]
    exact run_append_none T tx ty e i hu hi A xs.length c x (by rw [hsz]; exact hs) hc
  · obtain ⟨uxs, Fx, hux, hfx, husx, helx, hcase⟩ := hx.els
    have hus' : ∀ us ∈ uxs ++ uys, us.length = t.sz := fun us h => (List.mem_append.1 h).elim (husx us) (hus us)
    have hxl : uxs.flatten.length = xs.length * t.sz := by rw [flat_len husx, hux]
    have hyl : uys.flatten.length = ys.length * t.sz := by rw [flat_len hus, hul]
    by_cases hroom : xs.length + ys.length ≤ c
    · rcases hcase with ⟨rfl, rfl, rfl⟩ | ⟨bl, off, cells, e2, hA, hFe, hh, hc, hfit, hcells⟩
      · simp only [List.length_nil] at hroom; omega
      subst hA
      subst hFe
      have hFn := List.nodup_cons.1 hF
      have hfit' : off + xs.length * t.sz + uys.flatten.length ≤ cells.size := by
        have : (xs.length + ys.length) * t.sz ≤ c * t.sz := Nat.mul_le_mul_right _ hroom
        rw [Nat.add_mul] at this; omega
      have hrun := run_append_room_row (P := P) (w := w) T tx ty e e2 i hu hi bl off xs.length c cells hh x ys.length uys.flatten (by rw [hsz]; exact hs) hroom (by rw [hsz]; exact hfit')
      rw [hsz] at hrun
      refine ⟨w.setRow bl (cells.toList.take (off + xs.length * t.sz) ++ uys.flatten ++ cells.toList.drop (off + xs.length * t.sz + uys.flatten.length)).toArray, some ⟨bl, off, none⟩, c, bl :: (Fx ++ Gy).flatten, by rw [hlen]; exact hrun, rfl, rfl, rfl, by simp, fun n _ hn => setRow_heapEq _ _ _ (fun e => hn (by simp [e])), ?_, ?_, ?_⟩
      · rw [List.flatten_append]
        refine List.nodup_cons.2 ⟨fun hm => ?_, List.nodup_append.2 ⟨hFn.2, hG, fun n hn m hm hnm => ?_⟩⟩
        · rcases List.mem_append.1 hm with hm | hm
          · exact hFn.1 hm
          · exact (hGb _ hm).2 (by simp)
        · subst hnm
          exact (hGb _ hm).2 (List.mem_cons_of_mem _ hn)
      · intro n hn
        rw [List.flatten_append] at hn
        rcases List.mem_cons.1 hn with rfl | hn
        · exact ⟨by simpa using hFb _ (by simp), .inr (.inl (by simp))⟩
        · rcases List.mem_append.1 hn with hn | hn
          · exact ⟨by simpa using hFb _ (List.mem_cons_of_mem _ hn), .inr (.inl (List.mem_cons_of_mem _ hn))⟩
          · exact ⟨by simpa using (hGb _ hn).1, .inr (.inr hn)⟩
      · intro ok' hoo
        refine OwnG.make (w := _) (uss := uxs ++ uys) (setRow_heap w bl cells _ e2 _ hh) (by simp [hux, hul]) (by simp [hfx, hgl]) hus' ?_ (by rw [hlen]; exact hroom) ?_ ?_
        · refine els_append hux hfx helx hy (fun n hn => ⟨hoo n hn, setRow_heapEq _ _ _ fun e => (hob n hn).2 (by simp [e])⟩) fun n hn => setRow_heapEq _ _ _ fun e => ?_
          subst e
          rw [List.flatten_append] at hn
          rcases List.mem_append.1 hn with hn | hn
          · exact hFn.1 hn
          · exact (hGb _ hn).2 (by simp)
        · simp only [List.size_toArray, List.length_append, List.length_take, List.length_drop, Array.length_toList]; omega
        · intro j v hj
          have hjl := getElem?_lt hj
          rw [List.flatten_append] at hj hjl
          rw [List.length_append] at hjl
          rw [splice_at hfit']
          rcases Nat.lt_or_ge j uxs.flatten.length with h1 | h1
          · rw [List.getElem?_append_left h1] at hj
            rw [if_pos (by omega)]
            exact hcells j v hj
          · rw [List.getElem?_append_right h1] at hj
            rw [if_neg (by omega), if_pos (by omega), ← hj]
            congr 1
            omega
    · have hg : c < xs.length + ys.length := Nat.not_le.1 hroom
      have hold : (Builtin.firstCells i.size xs.length (.slice A xs.length c)).run P w.drew = .ok uxs.flatten.toArray w.drew := by
        rw [hsz]
        rcases hcase with ⟨rfl, rfl, rfl⟩ | ⟨bl, off, cells, e2, hA, hFe, hh, hc, hfit, hcells⟩
        · have : uxs = [] := List.length_eq_zero_iff.1 (by simpa using hux)
          subst this
          cases A with
          | none => exact run_firstCells_none _ _ _ _ _
          | some a => exact run_firstCells_some w.drew t.sz _ a _ _ [] (by simp) (fun j v hj => by simp at hj)
        · subst hA
          refine run_firstCells_some w.drew t.sz _ _ _ _ _ hxl fun j v hj => ?_
          rw [Addr.add_lit]
          have hh' : w.drew.heap[bl]? = some (.cells cells e2 (0, 0)) := hh
          simp only [World.cell?, hh']
          exact hcells j v hj
      have hlim' : xs.length + ys.length ≤ 2147483648 := hlim
      have hbytes : (xs.length + ys.length) * i.bytes ≤ 140737488355328 := Nat.le_trans (Nat.mul_le_mul hlim' hby) (by decide)
      have hrun := run_append_grow_src (P := P) w T tx ty e i z hu hi hz A xs.length c uxs.flatten hold x ys.length uys.flatten (by rw [hsz]; exact hs) hg (by omega) (growslice_fits hg hbytes)
      have hge := grownCap_ge w (xs.length + ys.length) c e
      have hFxF : ∀ n ∈ Fx.flatten, n ∈ F := by
        intro n hn
        rcases hcase with ⟨rfl, rfl, rfl⟩ | ⟨bl, off, cells, e2, hA, hFe, _⟩
        · have : Fx = [] := List.length_eq_zero_iff.1 (by simpa using hfx)
          subst this; simp at hn
        · rw [hFe]; exact List.mem_cons_of_mem _ hn
      have hFxn : Fx.flatten.Nodup := by
        rcases hcase with ⟨rfl, rfl, rfl⟩ | ⟨bl, off, cells, e2, hA, hFe, _⟩
        · have : Fx = [] := List.length_eq_zero_iff.1 (by simpa using hfx)
          subst this; simp
        · rw [hFe] at hF; exact (List.nodup_cons.1 hF).2
      have hmem : ∀ n ∈ (Fx ++ Gy).flatten, n < w.heap.size ∧ (n ∈ F ∨ n ∈ Gy.flatten) := by
        intro n hn
        rw [List.flatten_append] at hn
        rcases List.mem_append.1 hn with hn | hn
        · exact ⟨hFb n (hFxF n hn), .inl (hFxF n hn)⟩
        · exact ⟨(hGb n hn).1, .inr hn⟩
      refine ⟨w.drew.alloc (.cells ((uxs.flatten ++ uys.flatten).toArray ++ Builtin.zeroCells z.cells (grownCap w (xs.length + ys.length) c e - (xs.length + ys.length))) e), some ⟨w.heap.size, 0, none⟩, grownCap w (xs.length + ys.length) c e, w.heap.size :: (Fx ++ Gy).flatten, by rw [hlen]; exact hrun, rfl, rfl, rfl, by simp, fun n hn _ => hao w.drew _ n hn, ?_, ?_, ?_⟩
      · refine List.nodup_cons.2 ⟨fun hm => Nat.lt_irrefl _ (hmem _ hm).1, ?_⟩
        rw [List.flatten_append]
        refine List.nodup_append.2 ⟨hFxn, hG, fun n hn m hm hnm => ?_⟩
        subst hnm
        exact (hGb _ hm).2 (hFxF _ hn)
      · intro n hn
        rcases List.mem_cons.1 hn with rfl | hn
        · exact ⟨by simp, .inl (Nat.le_refl _)⟩
        · have := hmem n hn
          exact ⟨by simp; omega, .inr this.2⟩
      · intro ok' hoo
        have hnew := heap_alloc_new w.drew (.cells ((uxs.flatten ++ uys.flatten).toArray ++ Builtin.zeroCells z.cells (grownCap w (xs.length + ys.length) c e - (xs.length + ys.length))) e)
        refine OwnG.make (uss := uxs ++ uys) hnew (by simp [hux, hul]) (by simp [hfx, hgl]) hus' ?_ (by rw [hlen]; exact hge) ?_ ?_
        · exact els_append hux hfx helx hy (fun n hn => ⟨hoo n hn, hao w.drew _ n (hob n hn).1⟩) fun n hn => hao w.drew _ n (hmem n hn).1
        · simp only [Array.size_append, List.size_toArray, List.length_append, size_zeroCells, hzc, hxl, hyl]
          rw [← Nat.add_mul, ← Nat.add_mul]
          rw [Nat.add_sub_cancel' hge]
          omega
        · intro j v hj
          have hjl := getElem?_lt hj
          rw [List.flatten_append] at hj hjl
          rw [Nat.zero_add, Array.getElem?_append_left (by simpa using hjl)]
          simpa using hj

end
end Go.Fl
/- append, as a step. -/
namespace Go.Fl
open Go

section
variable {P : Program} {te : List (Nat × Ty)} {T : Nat} {t : Ty} {w : World}

/-- What is appended: the elements' cells, and what they own. -/
structure Srcs (P : Program) (w : World) (ok : Nat → Prop) (t : Ty) (tx : TypeId) (x : Value) (ys : List t.den) (uys : List (List Value)) (Gy : List (List Nat)) : Prop where
  ul : uys.length = ys.length
  gl : Gy.length = ys.length
  us : ∀ us ∈ uys, us.length = t.sz
  src : Src P t.sz tx x ys.length uys.flatten w
  el : ∀ i (h : i < ys.length) (h1 : i < uys.length) (h2 : i < Gy.length), Rdo w ok t ys[i] uys[i] Gy[i]
  at' : ∃ A c, x = .slice A ys.length c ∧ ∀ j u, uys.flatten[j]? = some u → ∃ a, A = some a ∧ w.cell? (a.add j) = some u

theorem src_own {ok : Nat → Prop} {tx e' : TypeId} (hk : P.underlying tx = some (.slice e')) {ys : List t.den} {A : Option Addr} {c : Nat} {F : List Nat} (h : OwnG w t.sz (Rdo w ok t) ys A c F) (hF : F.Nodup) :
    ∃ uys Gy, Srcs P w ok t tx (.slice A ys.length c) ys uys Gy ∧ Gy.flatten.Nodup ∧ ∀ n ∈ Gy.flatten, n ∈ F := by
  obtain ⟨uys, Gy, hul, hgl, hus, hel, hcase⟩ := h.els
  have hone := els_one hul hgl hel
  have hlen : uys.flatten.length = ys.length * t.sz := by rw [flat_len hus, hul]
  rcases hcase with ⟨rfl, rfl, rfl⟩ | ⟨bl, off, cells, e2, rfl, rfl, hh, hc, hfit, hcells⟩
  · have h1 : uys = [] := List.length_eq_zero_iff.1 (by simpa using hul)
    have h2 : Gy = [] := List.length_eq_zero_iff.1 (by simpa using hgl)
    subst h1 h2
    refine ⟨[], [], ⟨rfl, rfl, by simp, ?_, hel, _, _, rfl, by simp⟩, by simp, by simp⟩
    cases A with
    | none => exact Src.ofNil w hk 0
    | some a => exact Src.ofSlice w hk a 0 0 [] (by simp) (fun j u hj => by simp at hj) (by simp)
  · have hat : ∀ j u, uys.flatten[j]? = some u → w.cell? ((⟨bl, off, none⟩ : Addr).add j) = some u := fun j u hj => by
      rw [Addr.add_lit]
      simp only [World.cell?, hh]
      exact hcells j u hj
    exact ⟨uys, Gy, ⟨hul, hgl, hus, Src.ofSlice w hk _ _ _ _ hlen hat hone, hel, _, _, rfl, fun j u hj => ⟨_, rfl, hat j u hj⟩⟩, (List.nodup_cons.1 hF).2, fun n hn => List.mem_cons_of_mem _ hn⟩

theorem flat_nil {L : List (List Nat)} (h : ∀ l ∈ L, l = []) : L.flatten = [] := by
  apply List.eq_nil_iff_forall_not_mem.2
  intro n hn
  obtain ⟨l, hl, hn⟩ := List.mem_flatten.1 hn
  rw [h l hl] at hn
  simp at hn

theorem Srcs.noOwn {ok : Nat → Prop} {tx : TypeId} {x : Value} {ys : List t.den} {uys : List (List Value)} {Gy : List (List Nat)} (h : Srcs P w ok t tx x ys uys Gy) (hf : t.noOwn = true) : Gy.flatten = [] := by
  apply flat_nil
  intro l hl
  obtain ⟨i, hi, rfl⟩ := List.getElem_of_mem hl
  have hi2 : i < ys.length := by rw [← h.gl]; exact hi
  exact (Rdo.noOwn hf (h.el i hi2 (by rw [h.ul]; exact hi2) hi)).1

theorem src_rd {tx e' : TypeId} (hk : P.underlying tx = some (.slice e')) {ok : Nat → Prop} {ys : List t.den} {x : Value} (h : Rdf w ok (.sl t) ys [x]) (hf : t.noOwn = true) :
    ∃ uys Gy, Srcs P w ok t tx x ys uys Gy ∧ Gy.flatten = [] := by
  obtain ⟨A, c, hv, hc, hel⟩ := h
  simp at hv
  subst hv
  obtain ⟨uys, hul, hp⟩ := list_of_fn ys.length (fun i us => ∀ (h : i < ys.length), ∃ a, A = some a ∧ a.spot = none ∧ Rdf w ok t ys[i] us ∧ CellsAt w a (i * t.sz) us)
    (fun i hi => by
      obtain ⟨a, us, h1, h2, _, h3, h4⟩ := hel i hi
      exact ⟨us, fun _ => ⟨a, h1, h2, h3, h4⟩⟩)
  have hus : ∀ us ∈ uys, us.length = t.sz := by
    intro us hus
    obtain ⟨i, hi, rfl⟩ := List.getElem_of_mem hus
    obtain ⟨_, _, _, h3, _⟩ := hp i hi (by omega)
    exact h3.len
  have hel' : ∀ i (h : i < ys.length) (h1 : i < uys.length) (h2 : i < (List.replicate ys.length ([] : List Nat)).length), Rdo w ok t ys[i] uys[i] (List.replicate ys.length ([] : List Nat))[i] := by
    intro i h h1 h2
    obtain ⟨_, _, _, h3, _⟩ := hp i h1 h
    simpa using h3.noOwnO hf
  have hlen : uys.flatten.length = ys.length * t.sz := by rw [flat_len hus, hul]
  have hone := els_one (Fs := List.replicate ys.length []) hul (by simp) hel'
  suffices hsrc : Src P t.sz tx (.slice A ys.length c) ys.length uys.flatten w ∧ ∀ j u, uys.flatten[j]? = some u → ∃ a, A = some a ∧ w.cell? (a.add j) = some u from
    ⟨uys, List.replicate ys.length [], ⟨hul, by simp, hus, hsrc.1, hel', _, _, rfl, hsrc.2⟩, flat_nil fun l hl => (List.mem_replicate.1 hl).2⟩
  cases A with
  | none =>
    have h0 : ys = [] := by
      cases ys with
      | nil => rfl
      | cons y r => obtain ⟨a, _, h1, _⟩ := hel 0 (by simp); cases h1
    subst h0
    have h1 : uys = [] := List.length_eq_zero_iff.1 (by simpa using hul)
    subst h1
    exact ⟨Src.ofNil w hk c, by simp⟩
  | some a =>
    suffices hat : ∀ j u, uys.flatten[j]? = some u → w.cell? (a.add j) = some u from ⟨Src.ofSlice w hk a _ _ _ hlen hat hone, fun j u hj => ⟨_, rfl, hat j u hj⟩⟩
    intro j u hj
    have hjl := getElem?_lt hj
    rw [hlen] at hjl
    rcases Nat.eq_zero_or_pos t.sz with h0 | h0
    · rw [h0] at hjl; simp at hjl
    have hd := Nat.div_add_mod j t.sz
    have hm := Nat.mod_lt j h0
    have hq : j / t.sz < uys.length := by rw [hul]; exact (Nat.div_lt_iff_lt_mul h0).2 hjl
    rw [Nat.mul_comm] at hd
    rw [← hd, flat_get hus _ _ hm, List.getElem?_eq_getElem hq] at hj
    obtain ⟨a', h1, h2, _, h4⟩ := hp _ hq (by omega)
    cases h1
    rw [add_eq h2, ← h4 _ _ hj, Nat.add_assoc, hd]

theorem ex_append {o : Oper} {x y : Operand} {U : Nat} {ρ : Operand → Value} {u v r : Value} {w' : World} (ho : o.op = .call { callee := .builtin .append, args := #[x, y], argTypes := #[T, U] }) (hx : ρ x = u) (hy : ρ y = v)
    (hr : (Builtin.append_ #[T, U] o.type #[u, v]).run P w = .ok r w') : (execOp ρ o).run P w = .ok (.value r) w' := by
  simp [execOp, ho, resolve, invoke, builtin, hx, hy, hr]

/-- A part of an owned row whose elements own nothing. -/
theorem src_part {ok : Nat → Prop} {tx e' : TypeId} (hk : P.underlying tx = some (.slice e')) {ys : List t.den} {A : Option Addr} {c : Nat} {F : List Nat} (h : OwnG w t.sz (Rdo w ok t) ys A c F) (hno : t.noOwn = true) {lo n : Nat} {cv : Value}
    (hle : lo + n ≤ ys.length) (hp : PartHd A c t.sz lo n cv) : ∃ uys Gy, Srcs P w ok t tx cv ((ys.drop lo).take n) uys Gy ∧ Gy.flatten = [] := by
  have hlen : ((ys.drop lo).take n).length = n := by simp; omega
  rcases Nat.eq_zero_or_pos n with h0 | h0
  · subst h0
    have hnil : (ys.drop lo).take 0 = [] := by simp
    rw [hnil]
    suffices hsrc : Src P t.sz tx cv 0 [] w ∧ ∃ A c, cv = .slice A 0 c from
      let ⟨hs, A, c, he⟩ := hsrc
      ⟨[], [], ⟨rfl, rfl, by simp, hs, fun i hi => by simp at hi, A, c, he, by simp⟩, rfl⟩
    refine ⟨?_, by rcases hp with ⟨_, rfl⟩ | ⟨a, _, k, _, _, rfl⟩ <;> exact ⟨_, _, rfl⟩⟩
    rcases hp with ⟨_, rfl⟩ | ⟨a, _, k, _, _, rfl⟩
    · cases A with
      | none => exact Src.ofNil w hk _
      | some a => exact Src.ofSlice w hk a 0 _ [] (by simp) (fun j u hj => by simp at hj) (by simp)
    · exact Src.ofSlice w hk _ 0 _ [] (by simp) (fun j u hj => by simp at hj) (by simp)
  · obtain ⟨uys, Gy, hul, hgl, hus, hel, hcase⟩ := h.els
    rcases hcase with ⟨rfl, rfl, rfl⟩ | ⟨bl, off, cells, e2, rfl, rfl, hh, hc, hfit, hcells⟩
    · simp at hle; omega
    · have hul' : ((uys.drop lo).take n).length = n := by simp; omega
      have hus' : ∀ us ∈ (uys.drop lo).take n, us.length = t.sz := fun us h => hus us (List.mem_of_mem_drop (List.mem_of_mem_take h))
      have hel' : ∀ i (h : i < ((ys.drop lo).take n).length) (h1 : i < ((uys.drop lo).take n).length) (h2 : i < (List.replicate n ([] : List Nat)).length), Rdo w ok t ((ys.drop lo).take n)[i] ((uys.drop lo).take n)[i] (List.replicate n ([] : List Nat))[i] := by
        intro i h h1 h2
        have hr := hel (lo + i) (by omega) (by omega) (by omega)
        have := (Rdo.noOwn hno hr).1
        simp only [List.getElem_take, List.getElem_drop, List.getElem_replicate]
        rw [this] at hr
        exact hr
      have hone := els_one (Fs := List.replicate n []) (by rw [hul', hlen]) (by rw [hlen]; simp) hel'
      have hfl : ((uys.drop lo).take n).flatten.length = n * t.sz := by rw [flat_len hus', hul']
      have hcell : ∀ j u, ((uys.drop lo).take n).flatten[j]? = some u → w.cell? ⟨bl, off + lo * t.sz + j, none⟩ = some u := by
        intro j u hj
        have hjl := getElem?_lt hj
        rw [hfl] at hjl
        rcases Nat.eq_zero_or_pos t.sz with hz | hz
        · rw [hz] at hjl; simp at hjl
        have hd := Nat.div_add_mod j t.sz
        have hm := Nat.mod_lt j hz
        have hq : j / t.sz < n := (Nat.div_lt_iff_lt_mul hz).2 hjl
        rw [Nat.mul_comm] at hd
        rw [← hd, flat_get hus' _ _ hm, List.getElem?_eq_getElem (by rw [hul']; exact hq)] at hj
        simp only [List.getElem_take, List.getElem_drop] at hj
        simp only [World.cell?, hh]
        have he : off + lo * t.sz + j = off + ((lo + j / t.sz) * t.sz + j % t.sz) := by rw [Nat.add_mul]; omega
        rw [he]
        have := hcells ((lo + j / t.sz) * t.sz + j % t.sz) u (by rw [flat_get hus _ _ hm, List.getElem?_eq_getElem (show lo + j / t.sz < uys.length by omega)]; exact hj)
        exact this
      suffices hsrc : ∃ a c, cv = .slice (some a) n c ∧ ∀ j u, ((uys.drop lo).take n).flatten[j]? = some u → w.cell? (a.add j) = some u by
        obtain ⟨a, c, rfl, hat⟩ := hsrc
        exact ⟨(uys.drop lo).take n, List.replicate n [], ⟨by rw [hul', hlen], by rw [hlen]; simp, hus', by rw [hlen]; exact Src.ofSlice w hk _ _ _ _ hfl hat hone, hel', _, _, by rw [hlen], fun j u hj => ⟨_, rfl, hat j u hj⟩⟩, flat_nil fun l hl => (List.mem_replicate.1 hl).2⟩
      rcases hp with ⟨rfl, rfl⟩ | ⟨a, ha, k, hk1, hk2, rfl⟩
      · refine ⟨_, _, rfl, fun j u hj => ?_⟩
        rw [Addr.add_lit]
        simpa using hcell j u hj
      · cases ha
        have hne : k ≠ lo := by omega
        rw [if_neg hne]
        refine ⟨_, _, rfl, fun j u hj => ?_⟩
        rw [Addr.add_lit]
        exact hcell j u hj

theorem srcOf_rel {w0 : World} {own0 : Ow} {s : S} {γ : Gam} {a : Act} (hst : StG w0 own0 s γ a w) {tx e' : TypeId} (hk : P.underlying tx = some (.slice e')) {v : V} {cv : Value} {ys : List t.den} {ds : List Nat}
    (hv : VRel w (okOf w s.bx γ) s.bx γ v cv) (h : srcOf s t v = some (ys, ds)) :
    ∃ uys Gy, Srcs P w (okOf w s.bx γ) t tx cv ys uys Gy ∧ Gy.flatten.Nodup ∧ (∀ n ∈ Gy.flatten, n ∈ FsOf γ ds) ∧ (∀ d ∈ ds, ∃ x, find s.bx d = some x) ∧ ds.Nodup := by
  unfold srcOf at h
  split at h
  · rename_i c
    split at h
    · rename_i te' zs hb
      simp only [Option.map_eq_some_iff] at h
      obtain ⟨ys', hc, he⟩ := h
      obtain ⟨h1, h2⟩ := castT_some hc
      cases h1
      have h2' : ys' = zs := h2
      subst h2'
      cases he
      obtain ⟨x2, t2, n2, hb2, hd2, hcv⟩ := hv
      rw [hb] at hb2
      cases hb2
      simp [Box.hd] at hd2
      obtain ⟨rfl, rfl⟩ := hd2
      have hbox := hst.inv.boxes c _ hb
      obtain ⟨uys, Gy, hs, h1, h2⟩ := src_own hk hbox (box_nodup hst.inv.apart hb)
      subst hcv
      refine ⟨uys, Gy, hs, h1, fun n hn => ?_, fun d hd => ?_, ?_⟩
      · by_cases hf : t.noOwn = true
        · rw [hs.noOwn hf] at hn; simp at hn
        · rw [if_neg hf]; simpa [FsOf] using h2 n hn
      · by_cases hf : t.noOwn = true
        · rw [if_pos hf] at hd; simp at hd
        · rw [if_neg hf] at hd; simp at hd; subst hd; exact ⟨_, hb⟩
      · split <;> simp
    · cases h
  · rename_i c lo n
    split at h
    · rename_i te' zs hb
      split at h
      · rename_i hno
        simp only [Option.map_eq_some_iff] at h
        obtain ⟨ys', hc, he⟩ := h
        obtain ⟨h1, h2⟩ := castT_some hc
        cases h1
        have h2' : ys' = (zs.drop lo).take n := h2
        subst h2'
        cases he
        obtain ⟨x2, t2, n2, hb2, hd2, hle, hcv⟩ := hv
        rw [hb] at hb2
        cases hb2
        simp [Box.hd] at hd2
        obtain ⟨rfl, rfl⟩ := hd2
        obtain ⟨uys, Gy, hs, h1⟩ := src_part hk (hst.inv.boxes c _ hb) hno hle hcv
        exact ⟨uys, Gy, hs, by rw [h1]; simp, fun n hn => by rw [h1] at hn; simp at hn, fun d hd => by simp at hd, by simp⟩
      · cases h
    · cases h
  · rename_i c i off
    split at h
    · rename_i hno
      simp only [Option.map_eq_some_iff] at h
      obtain ⟨ys', hc, he⟩ := h
      cases he
      unfold nrowOf at hc
      split at hc
      · rename_i tb zs hb
        have hbox : OwnG w tb.sz (Rdo w (okOf w s.bx γ) tb) zs (γ c).A (γ c).c (γ c).F := hst.inv.boxes c _ hb
        obtain ⟨hi, A', c', F1, G, hval, hole, hown, hperm, _, _⟩ := nest_row hbox hv hb hc
        obtain ⟨uys, Gy, hs, h1, h2⟩ := src_own hk hown (List.nodup_append.1 (hperm.nodup_iff.1 (box_nodup hst.inv.apart hb))).1
        subst hval
        have hG := hs.noOwn hno
        exact ⟨uys, Gy, hs, h1, fun n hn => by rw [hG] at hn; simp at hn, fun d hd => by simp at hd, by simp⟩
      · cases hc
    · cases h
  · rename_i te' zs
    obtain ⟨cs, hr, hcv⟩ := hv
    have hl := hr.len
    have hone : ∃ c, cs = [c] ∧ cv = c := by
      match cs, hl with
      | [c], _ => exact ⟨c, rfl, by rw [hcv]; exact pack_one rfl⟩
    obtain ⟨c, rfl, rfl⟩ := hone
    split at h
    · rename_i hf
      simp only [Option.map_eq_some_iff] at h
      obtain ⟨ys', hc, he⟩ := h
      obtain ⟨h1, h2⟩ := castT_some hc
      cases h1
      have h2' : ys' = zs := h2
      subst h2'
      cases he
      obtain ⟨uys, Gy, hs, h1⟩ := src_rd hk hr (Ty.flat_noOwn hf)
      exact ⟨uys, Gy, hs, by rw [h1]; simp, fun n hn => by rw [h1] at hn; simp at hn, fun d hd => by simp at hd, by simp⟩
    · simp only [Option.map_eq_some_iff] at h
      obtain ⟨ys', hc, he⟩ := h
      obtain ⟨h1, h2⟩ := castT_some hc
      cases h1
      have h2' : ys' = zs := h2
      subst h2'
      cases he
      obtain ⟨uys, Gy, hs, h1⟩ := src_rd (t := .fz te') hk hr rfl
      exact ⟨uys, Gy, hs, by rw [h1]; simp, fun n hn => by rw [h1] at hn; simp at hn, fun d hd => by simp at hd, by simp⟩
  · cases h
    have hcv : cv = .slice none 0 0 := hv
    subst hcv
    exact ⟨[], [], ⟨rfl, rfl, by simp, Src.ofNil w hk 0, fun i hi => by simp at hi, _, _, rfl, by simp⟩, by simp, by simp, by simp, by simp⟩
  · cases h

theorem FsOf_cons {γ : Gam} (r : Nat) (ds : List Nat) : FsOf γ (r :: ds) = (γ r).F ++ FsOf γ ds := by simp [FsOf]

/-- append: onto 'A', that owns 'F' and is the box 'b' or nothing. -/
theorem append_core {o : Oper} {x y : Operand} {U : Nat} {t' te' : Ty} (het : te' = t ∨ te' = .fz t) {w0 : World} {own0 : Ow} {s : S} {γ : Gam} {a : Act} (hte : TyOk P te) (hst : StG w0 own0 s γ a w)
    (ho : o.op = .call { callee := .builtin .append, args := #[x, y], argTypes := #[T, U] }) (ht : find te T = some (.sl t)) (hU : find te U = some (.sl t'))
    {xs : List te'.den} {A : Option Addr} {c : Nat} {F : List Nat} {ys : List te'.den} {ds : List Nat} (hx : a.eval x = .slice A xs.length c) (hown : OwnG w te'.sz (Rdo w (okOf w s.bx γ) te') xs A c F)
    (hy : srcOf s te' (s.opv y) = some (ys, ds)) {b : Nat} {Ds : List Nat} (hb : (Ds = b :: ds ∧ F = (γ b).F ∧ (∃ z, find s.bx b = some z) ∧ b ∉ ds) ∨ (Ds = ds ∧ F = [] ∧ find s.bx b = none))
    (hlim : xs.length + ys.length ≤ lim) {next : Act → World → Prop} {Q : Exit → Act → World → Prop}
    {dead : List Nat} (hdd : ∀ d ∈ Ds, d ∈ dead) (hn : ∀ a' w', St w0 own0 ((s.reb [(b, .row te' (xs ++ ys))] (Ds.contains ·) (dead.contains ·)).put o.dst (.w (.one (.row b)))) a' w' → next a' w') : o.wp P a w next Q := by
  have hts : te'.sz = t.sz := by rcases het with rfl | rfl <;> rfl
  obtain ⟨e, hu, hE⟩ := desc_sl (hte T _ ht)
  obtain ⟨e', hu', _⟩ := desc_sl (hte U _ hU)
  obtain ⟨i, hi, hsz, hby, z, hz, hzz⟩ := (hte e _ hE).info
  obtain ⟨_, _, z3⟩ := Ty.zeros_rel (w := w) (ok := fun _ => True) (bx := []) (γ := γ) t
  have hzc : z.cells.size = te'.sz := by rw [hzz, pack_cells _ (zeroCells_len t) fun _ => z3, hts]; simpa using zeroCells_len t
  obtain ⟨uys, Gy, hs, hG, hGs, hdx, hdn⟩ := srcOf_rel (P := P) hst hu' (hst.opv y) hy
  have hF : F.Nodup ∧ ∀ n ∈ F, n < w.heap.size ∧ n ∈ FsOf γ Ds := by
    rcases hb with ⟨rfl, rfl, ⟨z, hz⟩, _⟩ | ⟨_, rfl, _⟩
    · exact ⟨box_nodup hst.inv.apart hz, fun n hn => ⟨hst.inv.below n (mem_owned hz hn), by rw [FsOf_cons]; simp [hn]⟩⟩
    · simp
  have hDG : ∀ n ∈ FsOf γ ds, n ∈ FsOf γ Ds := by
    intro n hm
    rcases hb with ⟨rfl, _⟩ | ⟨rfl, _⟩
    · rw [FsOf_cons]; exact List.mem_append_right _ hm
    · exact hm
  have hDs : ∀ d ∈ Ds, ∃ x, find s.bx d = some x := by
    intro d hd
    rcases hb with ⟨rfl, _, hz, _⟩ | ⟨rfl, _⟩
    · rcases List.mem_cons.1 hd with rfl | hd
      · exact hz
      · exact hdx d hd
    · exact hdx d hd
  have hFo : ∀ n ∈ F, n ∈ owned s.bx γ := by
    intro n hn
    obtain ⟨d, hd, hnd⟩ := mem_FsOf.1 (hF.2 n hn).2
    obtain ⟨y, hy⟩ := hDs d hd
    exact mem_owned hy hnd
  have hGb : ∀ n ∈ Gy.flatten, n < w.heap.size ∧ n ∉ F := by
    intro n hn
    obtain ⟨d, hd, hnd⟩ := mem_FsOf.1 (hGs n hn)
    obtain ⟨zd, hzd⟩ := hdx d hd
    refine ⟨hst.inv.below n (mem_owned hzd hnd), fun hm => ?_⟩
    rcases hb with ⟨rfl, rfl, ⟨z, hz⟩, hbd⟩ | ⟨_, rfl, _⟩
    · exact apart_two hst.inv.apart hz hzd (fun e => hbd (e ▸ hd)) hm hnd
    · simp at hm
  obtain ⟨w', A', c', F', hrun, h1, h2, h3, h4, h5, h6, h7, h8⟩ := append_own (ty := o.type) hu hi hz (hsz.trans hts.symm) hby hzc (fun n hn => ⟨hn.1, fun hm => hn.2.1 (hFo n hm)⟩) hown hF.1 (fun n hn => (hF.2 n hn).1) hs.ul hs.gl hs.us hs.src hs.el hG hGb hlim
  obtain ⟨γ', hst', hg, hf⟩ := hst.take (Ds := Ds) (b := b) (zs := xs ++ ys) (A := A') (c := c') (F' := F') (by rcases hb with ⟨rfl, _⟩ | ⟨_, _, h⟩; exact .inl (by simp); exact .inr h) hDs hdd h1 h2 h3 h4
    (fun n hn hno => h5 n hn fun hm => hno (hF.2 n hm).2) h6 (fun n hn => ⟨(h7 n hn).1, (h7 n hn).2.imp id fun h => h.elim (fun h => (hF.2 n h).2) fun h => hDG n (hGs n h)⟩) h8
  exact wp_value (ex_append ho hx rfl hrun) (hn _ _ ⟨γ', hst'.put o.dst ⟨_, te', _, hf, rfl, by rw [hg]⟩⟩)

theorem elT_or (h : Hint) (t : Ty) : elT h t = t ∨ elT h t = .fz t := by
  unfold elT
  split
  · exact .inl rfl
  · split
    · exact .inl rfl
    · exact .inr rfl

/-- append, onto a row in an element: the row lies by itself then, and the element has a hole. -/
theorem sim_append_nest {o : Oper} {s : S} {x y : Operand} {U : Nat} {t' tb : Ty} {r i off site : Nat} {xs : List tb.den} {zs ys : List t.den} (hte : TyOk P te)
    (ho : o.op = .call { callee := .builtin .append, args := #[x, y], argTypes := #[T, U] }) (ht : find te T = some (.sl t)) (hU : find te U = some (.sl t')) (hx : s.opv x = .w (.one (.nrow r i off)))
    (hb : find s.bx r = some (.row tb xs)) (hget : tb.slGet off (xs.getD i tb.zero) t = some zs) (hno : t.noOwn = true) (hy : srcOf s t (s.opv y) = some (ys, [])) (hlim : zs.length + ys.length ≤ lim)
    {e : Ef} (he : e = { v := .w (.one (.row site)), nb := [(r, .hole tb xs i off .un), (site, .row t (zs ++ ys))], D := [r], dead := [nid r] }) (hok : e.okB s.bx = true) : OpSim P o s (s.app o.dst e) := by
  intro w0 own0 a w ⟨γ, hst⟩ next Q hn
  subst he
  rw [app_eq] at hn
  obtain ⟨hnd, hfr⟩ := nodup_of_okB hok
  have hsr : site ≠ r := by
    intro e; subst e; simp at hnd
  have hsn : find s.bx site = none := by
    rcases hfr (site, .row t (zs ++ ys)) (by simp) with h | h
    · simp [hsr] at h
    · exact h
  obtain ⟨e, hu, hE⟩ := desc_sl (hte T _ ht)
  obtain ⟨e', hu', _⟩ := desc_sl (hte U _ hU)
  obtain ⟨ti, hi, hsz, hby, z, hz, hzz⟩ := (hte e _ hE).info
  obtain ⟨_, _, z3⟩ := Ty.zeros_rel (w := w) (ok := fun _ => True) (bx := []) (γ := γ) t
  have hzc : z.cells.size = t.sz := by rw [hzz, pack_cells _ (zeroCells_len t) fun _ => z3]; simpa using zeroCells_len t
  have rx := hst.opv x
  rw [hx] at rx
  have hbox : OwnG w tb.sz (Rdo w (okOf w s.bx γ) tb) xs (γ r).A (γ r).c (γ r).F := hst.inv.boxes r _ hb
  obtain ⟨hi', A1, c1, F1, G, hval, hole, hown, hperm, _, _⟩ := nest_row hbox rx hb hget
  have hndF := hperm.nodup_iff.1 (box_nodup hst.inv.apart hb)
  have hndF' := List.nodup_append.1 hndF
  have hmem : ∀ n, n ∈ F1 ++ G → n ∈ (γ r).F := fun n hn => hperm.mem_iff.2 hn
  obtain ⟨uys, Gy, hs, hG, hGs, _, _⟩ := srcOf_rel (P := P) hst hu' (hst.opv y) hy
  have hGy : Gy.flatten = [] := hs.noOwn hno
  obtain ⟨w', A', c', F', hrun, h1, h2, h3, h4, h5, h6, h7, h8⟩ := append_own (ty := o.type) hu hi hz hsz hby hzc (fun n hn => ⟨hn.1, fun hm => hn.2.1 (mem_owned hb (hmem n (List.mem_append_left _ hm)))⟩) hown hndF'.1
    (fun n hn => hst.inv.below n (mem_owned hb (hmem n (List.mem_append_left _ hn)))) hs.ul hs.gl hs.us hs.src hs.el hG (by rw [hGy]; simp) hlim
  have h7' : ∀ n ∈ F', n < w'.heap.size ∧ (w.heap.size ≤ n ∨ n ∈ F1) := fun n hn => ⟨(h7 n hn).1, (h7 n hn).2.imp id fun h => h.resolve_right (by rw [hGy]; simp)⟩
  have hGkeep : ∀ n ∈ G, w'.heap[n]? = w.heap[n]? := fun n hn => h5 n (hst.inv.below n (mem_owned hb (hmem n (List.mem_append_right _ hn)))) fun hm => hndF'.2.2 n hm n hn rfl
  let nb : Bxs := [(r, .hole tb xs i off .un), (site, .row t (zs ++ ys))]
  let g : Nat → Gh := fun k => if k = r then { γ r with F := G } else ⟨A', c', F'⟩
  have hf1 : find nb r = some (.hole tb xs i off .un) := by simp [nb, find]
  have hf2 : find nb site = some (.row t (zs ++ ys)) := by show find (_ :: _) site = _; rw [find_cons, if_neg (Ne.symm hsr), find_cons, if_pos rfl]
  have hg1 : g r = { γ r with F := G } := by simp [g]
  have hg2 : g site = ⟨A', c', F'⟩ := by simp [g, hsr]
  have hownN : owned nb g = G ++ F' := by simp [nb, owned, hg1, hg2]
  have hown0 : ∀ n, n ∈ (γ r).F → n ∈ owned (s.bx.filter fun p => [r].contains p.1) γ := fun n hn => mem_owned_iff.2 ⟨(r, _), List.mem_filter.2 ⟨find_mem hb, by simp⟩, hn⟩
  have hst' := (hst.reb (w' := w') (nb := nb) (D := ([r].contains ·)) (dead := ([nid r].contains ·)) (g := g) h1 h2 h3 h4
    (fun n hn hno' => h5 n hn fun hm => hno' (hown0 n (hmem n (List.mem_append_left _ hm)))) (by simpa [nb] using Ne.symm hsr) (fun p hp => by
      simp [nb] at hp
      rcases hp with rfl | rfl
      · exact .inl (by simp)
      · exact .inr hsn) (by
      rw [hownN]
      refine List.nodup_append.2 ⟨hndF'.2.1, h6, fun n hn m hm e => ?_⟩
      subst e
      rcases (h7' n hm).2 with h | h
      · have := hst.inv.below n (mem_owned hb (hmem n (List.mem_append_right _ hn))); omega
      · exact hndF'.2.2 n h n hn rfl) (by
      rw [hownN]
      intro n hn
      rcases List.mem_append.1 hn with hn | hn
      · have := hmem n (List.mem_append_right _ hn)
        exact ⟨Nat.lt_of_lt_of_le (hst.inv.below n (mem_owned hb this)) h4, .inr (hown0 n this)⟩
      · exact ⟨(h7' n hn).1, (h7' n hn).2.imp id fun h => hown0 n (hmem n (List.mem_append_left _ h))⟩)
    (fun k x0 _ hk hx0 => by
      have hkr : k = r := by simpa using hk
      subst hkr
      rw [hb] at hx0
      cases hx0
      refine ⟨_, hf1, by simp [Box.like, Box.hd], by rw [hg1], fun _ => by rw [hg1], fun hd => by simp at hd⟩)
    (fun hok' hwk hp k x0 hk => by
      by_cases hkr : k = r
      · subst hkr
        rw [hf1] at hk
        cases hk
        have hgs : over nb g γ k = { γ k with F := G } := by rw [over_new hf1]; exact hg1
        refine ⟨a.eval x, ?_, trivial, by rw [hval]; rfl, rfl⟩
        rw [hgs]
        exact hole.mono (fun n hn => ⟨hok' n hn, hwk n hn⟩) hGkeep
      · have hks : k = site := by
          have := find_mem hk
          simp [nb] at this
          rcases this with h | h
          · exact absurd h.1 hkr
          · exact h.1
        subst hks
        rw [hf2] at hk
        cases hk
        have hgs : over nb g γ k = ⟨A', c', F'⟩ := by rw [over_new hf2]; exact hg2
        simp only [BoxRel, hgs]
        exact h8 _ hok')).1
  have hfs : find (s.reb nb ([r].contains ·) ([nid r].contains ·)).bx site = some (.row t (zs ++ ys)) := by show find (nb ++ _) site = _; rw [find_append, hf2]; rfl
  have hgs : over nb g γ site = ⟨A', c', F'⟩ := by rw [over_new hf2]; exact hg2
  exact wp_value (ex_append ho hval rfl hrun) (hn _ _ ⟨_, hst'.put o.dst ⟨_, t, _, hfs, rfl, by rw [hgs]⟩⟩)

theorem sim_append {E : Env} {h0 : Hint} {o : Oper} {s : S} {x y : Operand} {U : Nat} {t' : Ty} {site : Nat} {e : Ef} (hte : TyOk P E.te) (ho : o.op = .call { callee := .builtin .append, args := #[x, y], argTypes := #[T, U] })
    (hU : find E.te U = some (.sl t')) (h : (appendE E h0 site T s (s.opv x) (s.opv y)).can e) (hok : e.okB s.bx = true) : OpSim P o s (s.app o.dst e) := by
  unfold appendE at h
  split at h
  · rename_i r t2 hxr ht
    split at h
    · rename_i te' xs hb
      split at h
      · rename_i htt
        split at h
        · rename_i hyn
          simp only [Tr.can] at h
          subst h
          rw [app_put]
          refine OpSim.pureV fun w0 own0 γ a w hst => ?_
          have rx := hst.opv x
          have ry := hst.opv y
          rw [hxr] at rx
          rw [hyn] at ry
          have rx0 := rx
          obtain ⟨x2, t2, n2, hb2, hd2, hcv⟩ := rx
          rw [hb] at hb2
          cases hb2
          simp [Box.hd] at hd2
          obtain ⟨rfl, rfl⟩ := hd2
          obtain ⟨e, hu, hE⟩ := desc_sl (hte T _ ht)
          obtain ⟨e', hu', _⟩ := desc_sl (hte U _ hU)
          obtain ⟨i, hi, hsz, hby, z, hz, hzz⟩ := (hte e _ hE).info
          have hc : xs.length ≤ (γ r).c := by
            rcases hst.inv.boxes r _ hb with ⟨rfl, h0, _⟩ | ⟨_, _, _, _, _, _, _, _, hc, _⟩
            · rw [h0]; exact Nat.le_refl _
            · exact hc
          have hyv : a.eval y = .slice none 0 0 := ry
          exact ⟨_, ex_append ho hcv hyv (run_append_none T U o.type e i hu hi _ _ _ _ (Src.ofNil w hu' 0) hc), _, _, _, hb, rfl, rfl⟩
        · split at h
          · rename_i ys ds hsrc
            split at h
            · exact h.elim
            · rename_i hdr
              obtain ⟨hl, h⟩ := tr_tst h
              simp only [Tr.can] at h
              subst h
              intro w0 own0 a w ⟨γ, hst⟩ next Q hn
              rw [app_eq] at hn
              have rx := hst.opv x
              rw [hxr] at rx
              obtain ⟨x2, t2, n2, hb2, hd2, hcv⟩ := rx
              rw [hb] at hb2
              cases hb2
              simp [Box.hd] at hd2
              obtain ⟨rfl, rfl⟩ := hd2
              exact append_core (Ds := r :: ds) (b := r) htt hte hst ho ht hU hcv (hst.inv.boxes r _ hb) hsrc (.inl ⟨rfl, rfl, ⟨_, hb⟩, by simpa using hdr⟩) (by simpa using hl) (fun d hd => List.mem_cons_of_mem _ hd) hn
          · exact h.elim
      · exact h.elim
    · exact h.elim
  · rename_i t2 hxn ht
    split at h
    · rename_i ys ds hsrc
      split at h
      · exact h.elim
      rename_i hsd
      obtain ⟨hl, h⟩ := tr_tst h
      simp only [Tr.can] at h
      subst h
      intro w0 own0 a w ⟨γ, hst⟩ next Q hn
      rw [app_eq] at hn
      have rx := hst.opv x
      rw [hxn] at rx
      have hsite : find s.bx site = none := by
        rcases (nodup_of_okB hok).2 _ (List.mem_singleton.2 rfl) with h | h
        · exact absurd h hsd
        · exact h
      exact append_core (Ds := ds) (b := site) (xs := []) (A := none) (c := 0) (F := []) (elT_or h0 _) hte hst ho ht hU rx (.inl ⟨rfl, rfl, rfl⟩) hsrc (.inr ⟨rfl, rfl, hsite⟩) (by simpa using hl) (fun d hd => hd) hn
    · exact h.elim
  · rename_i r i off t2 hxr ht
    split at h
    · rename_i tb xs hb
      split at h
      · rename_i hc
        split at h
        · rename_i zs ys hzs hys
          obtain ⟨hl, h⟩ := tr_tst h
          simp only [Tr.can] at h
          exact sim_append_nest hte ho ht hU hxr hb hzs hc.2 hys (by simpa using hl) h.symm hok
        · exact h.elim
      · exact h.elim
    · exact h.elim
  · exact h.elim

end
end Go.Fl
/- Literals. -/
namespace Go.Fl
open Go

section
variable {P : Program} {te : List (Nat × Ty)} {T : Nat} {t : Ty} {w : World}

/-- New rows of nothing: no memory is turned. -/
theorem StG.nils {w0 : World} {own0 : Ow} {s : S} {γ : Gam} {a : Act} (hst : StG w0 own0 s γ a w) {nb : Bxs} (hnd : (nb.map (·.1)).Nodup) (hfr : ∀ p ∈ nb, find s.bx p.1 = none) (hown : owned nb gNil = []) (hnew : ∀ ok, NewOk w ok nb gNil) :
    StG w0 own0 (s.reb nb noB noB) (over nb gNil γ) a w ∧ Has (s.reb nb noB noB).bx (over nb gNil γ) nb gNil ∧ (∀ n, okOf w s.bx γ n → okOf w (s.reb nb noB noB).bx (over nb gNil γ) n) ∧ Pres id w s.bx γ w (s.reb nb noB noB).bx (over nb gNil γ) noB := by
  have hHas : Has (s.reb nb noB noB).bx (over nb gNil γ) nb gNil := by
    intro p hp
    have hf : find nb p.1 = some p.2 := find_of_mem hnd hp
    exact ⟨by show find (nb ++ _) p.1 = _; rw [find_append, hf]; rfl, over_new hf⟩
  have h := hst.reb (w' := w) (nb := nb) (D := noB) (dead := noB) (g := gNil) rfl rfl rfl (Nat.le_refl _) (fun _ _ _ => rfl) hnd (fun p hp => .inr (hfr p hp)) (by rw [hown]; simp) (by rw [hown]; simp) (fun b y _ hb => by simp [noB] at hb)
    (fun _ _ _ b x hb => hnew _ _ _ hHas (b, x) (find_mem hb))
  exact ⟨h.1, hHas, h.2.1, h.2.2.2⟩

/-- A value, whose nils are rows from now on if they are asked to be. -/
theorem OpSim.pureN {o : Oper} {s : S} {v : V} {h : Hint} {site : Nat} (hp : ∀ (w0 : World) (own0 : Ow) (γ : Gam) (a : Act) (w : World), StG w0 own0 s γ a w →
      ∃ cv, (execOp a.eval o).run P w = .ok (.value cv) w ∧ VRel w (okOf w s.bx γ) s.bx γ v cv) (hok : (nilV h site v).okB s.bx = true) : OpSim P o s (s.app o.dst (nilV h site v)) := by
  have plain : OpSim P o s (s.app o.dst { v }) := OpSim.pureV hp
  cases hnl : h.nl with
  | nil =>
    have he : nilV h site v = { v } := by simp [nilV, hnl]
    rw [he]; exact plain
  | cons p r =>
    obtain ⟨i0, t⟩ := p
    cases v with
    | tup xs =>
      have he : nilV h site (.tup xs) = { v := .tup xs } := by simp [nilV, hnl]
      rw [he]; exact plain
    | w x =>
      cases x with
      | agg ls =>
        have he : nilV h site (.w (.agg ls)) = { v := .w (.agg (nilRows site ((i0, t) :: r) ls).1), nb := (nilRows site ((i0, t) :: r) ls).2 } := by simp [nilV, hnl]
        rw [he] at hok ⊢
        intro w0 own0 a w ⟨γ, hst⟩ next Q hn
        rw [app_eq] at hn
        obtain ⟨cv, hr, hv⟩ := hp w0 own0 γ a w hst
        obtain ⟨hnd, hfr⟩ := nodup_of_okB hok
        obtain ⟨h1, h2, h3, h4⟩ := hst.nils hnd (fun p hp => by simpa using hfr p hp) (nilRows_owned _ _ _) (fun ok => nilRows_ok site _ _ hnd)
        obtain ⟨g0, cvs, g1, g2, g3⟩ := hv
        have g4 : LsRel w _ _ _ ls cvs := LsRel.mono (fun _ _ => rfl) h3 h4 (fun _ _ _ _ => rfl) g3
        obtain ⟨k1, k2⟩ := nilRows_rel site ((i0, t) :: r) ls cvs h2 g4
        exact wp_value hr (hn _ _ ⟨_, h1.put o.dst ⟨k2 g0, cvs, g1, g2, k1⟩⟩)
      | one l =>
        by_cases hl : l = .nil
        · subst hl
          have he : nilV h site (.w (.one .nil)) = { v := .w (.one (.row site)), nb := [(site, .row t [])] } := by simp [nilV, hnl]
          rw [he] at hok ⊢
          intro w0 own0 a w ⟨γ, hst⟩ next Q hn
          rw [app_eq] at hn
          obtain ⟨cv, hr, hv⟩ := hp w0 own0 γ a w hst
          have hcv : cv = .slice none 0 0 := hv
          obtain ⟨hnd, hfr⟩ := nodup_of_okB hok
          obtain ⟨h1, h2, _⟩ := hst.nils (nb := [(site, .row t [])]) hnd (fun p hp => by simpa using hfr p hp) (by simp [owned, gNil]) (fun ok bx γ hh p hp => by
            have := (hh p hp).2
            simp at hp
            subst hp
            simp only [BoxRel]
            simp only at this
            rw [this]
            exact .inl ⟨rfl, rfl, rfl⟩)
          obtain ⟨e1, e2⟩ := h2 (site, .row t []) (by simp)
          exact wp_value hr (hn _ _ ⟨_, h1.put o.dst ⟨_, t, 0, e1, rfl, by rw [hcv, e2]; rfl⟩⟩)
        · have he : nilV h site (.w (.one l)) = { v := .w (.one l) } := by cases l <;> simp_all [nilV]
          rw [he]; exact plain

theorem zipIdx_foldl_splice : ∀ (vs : List Value) (k off : Nat) (cells : Array Value), off + k + vs.length ≤ cells.size →
    ((vs.zipIdx k).foldl (fun (cs : Array Value) (p : Value × Nat) => cs.setIfInBounds (off + p.2) p.1) cells).toList = cells.toList.take (off + k) ++ vs ++ cells.toList.drop (off + k + vs.length) := by
  intro vs
  induction vs with
  | nil => intro k off cells _; simp
  | cons v r ih =>
    intro k off cells h
    simp only [List.zipIdx_cons, List.foldl_cons]
    rw [ih (k + 1) off _ (by simp at h ⊢; omega)]
    have e := list_seg_step cells.toList (off + k) v r (by simp at h ⊢; omega)
    simpa [Array.toList_setIfInBounds, Nat.add_assoc] using e

theorem fill_step {place : Nat → Option (Nat × Nat)} {cells : Array Value} {i off size : Nat} {v : Value} {vs : List Value} {rest : List (Nat × Value)} (hp : place i = some (off, size))
    (hv : v.cells = vs.toArray) (hl : vs.length = size) (hfit : off + size ≤ cells.size) :
    Instr.fill place cells ((i, v) :: rest) = Instr.fill place (cells.toList.take off ++ vs ++ cells.toList.drop (off + size)).toArray rest := by
  have hsz : v.cells.size = size := by rw [hv]; simpa using hl
  have hfold : (v.cells.zipIdx.foldl (fun cs (x : Value × Nat) => match x with | (c, j) => cs.setIfInBounds (off + j) c) cells) = (cells.toList.take off ++ vs ++ cells.toList.drop (off + size)).toArray := by
    rw [hv]
    apply Array.ext'
    have := zipIdx_foldl_splice vs 0 off cells (by omega)
    rw [hl] at this
    simpa using this
  have hc : ¬ (decide (v.cells.size ≠ size) || decide (off + v.cells.size > cells.size)) = true := by rw [hsz]; simp; omega
  simp only [Instr.fill, hp]
  rw [if_neg hc]
  exact congrArg (Instr.fill place · rest) hfold

theorem places_of (hte : TyOk P te) : ∀ {fs : List Field} {off : Nat} {t : Ty}, FieldsOk te fs off t →
    ∃ places, fs.mapM (fun f => (P.info? f.type).map fun i => (f.offset, i.size)) = some places ∧ ∀ k f, t.fldTy k = some f → places[k]? = some (off + t.fldOff k, f.sz) := by
  intro fs
  induction fs with
  | nil =>
    intro off t h
    cases t <;> first | exact h.elim | exact ⟨[], rfl, fun k f hk => by simp [Ty.fldTy] at hk⟩
  | cons g fs ih =>
    intro off t h
    cases t with
    | pair a b =>
      obtain ⟨h1, h2, h3, h4⟩ := h
      obtain ⟨places, hp, hk⟩ := ih h4
      obtain ⟨i, hi, hsz, _⟩ := (hte _ _ h2).info
      refine ⟨(g.offset, i.size) :: places, ?_, fun k f hf => ?_⟩
      · simp only [List.mapM_cons, Option.bind_eq_bind, Option.pure_def, hi, Option.map_some, Option.bind_some, hp]
      · cases k with
        | zero => simp [Ty.fldTy] at hf; subst hf; simp [Ty.fldOff, h1, hsz]
        | succ k =>
          rw [List.getElem?_cons_succ, hk k f hf]
          simp [Ty.fldOff]; omega
    | _ => exact h.elim

theorem FieldsOk.pos {fs : List Field} {off : Nat} {k : Nat} {f : Ty} (h : FieldsOk te fs off t) (hk : t.fldTy k = some f) : f.sz ≠ 0 := by
  obtain ⟨_, _, _, _, h4⟩ := h.at hk
  exact h4

theorem parts_fill {w0 : World} {own0 : Ow} {s : S} {γ : Gam} {a : Act} {E : Env} (hst : StG w0 own0 s γ a w) {place : Nat → Option (Nat × Nat)}
    (hpl : ∀ k f, t.fldTy k = some f → place k = some (t.fldOff k, f.sz) ∧ f.sz ≠ 0) : ∀ (ps : List (Nat × Operand)) (ls ls' : List L) (cells : Array Value), ls.length = t.sz →
    LsRel w (okOf w s.bx γ) s.bx γ ls cells.toList → (∀ l ∈ ls, l.one = true) → (∀ c ∈ cells.toList, c.oneCell' = true) → partsL E s t ps ls = some ls' →
    ∃ cells', Instr.fill place cells (ps.map fun (i, x) => (i, a.eval x)) = some cells' ∧ LsRel w (okOf w s.bx γ) s.bx γ ls' cells'.toList ∧ (∀ l ∈ ls', l.one = true) ∧ (∀ c ∈ cells'.toList, c.oneCell' = true) := by
  intro ps
  induction ps with
  | nil =>
    intro ls ls' cells _ hrel h1 h2 h
    simp [partsL] at h
    subst h
    exact ⟨cells, rfl, hrel, h1, h2⟩
  | cons p ps ih =>
    intro ls ls' cells hl hrel h1 h2 h
    obtain ⟨k, x⟩ := p
    simp only [partsL] at h
    split at h
    · rename_i v f hx hf
      obtain ⟨hp, hz⟩ := hpl k f hf
      split at h
      · rename_i hvl
        have rx := hst.opv x
        rw [hx] at rx
        obtain ⟨cs, hcells, hr, ho, hc, _⟩ := W.leaves_rel rx (.inl (by intro e; rw [e] at hvl; exact hz hvl.symm))
        have hoff := fldOff_le hf
        have hcl : cs.length = f.sz := by rw [← hvl]; exact hr.len_eq
        have hsz : cells.size = ls.length := by simpa using hrel.len_eq
        obtain ⟨cells', g1, g2, g3, g4⟩ := ih _ ls' (cells.toList.take (t.fldOff k) ++ cs ++ cells.toList.drop (t.fldOff k + f.sz)).toArray (by simp; omega)
          (All2.append (All2.append (All2.take hrel _) hr) (All2.drop hrel _)) (fun l hl => by
            simp only [List.mem_append] at hl
            rcases hl with (hl | hl) | hl
            · exact h1 l (List.mem_of_mem_take hl)
            · exact ho l hl
            · exact h1 l (List.mem_of_mem_drop hl)) (fun l hl => by
            simp only [List.mem_append] at hl
            rcases hl with (hl | hl) | hl
            · exact h2 l (List.mem_of_mem_take hl)
            · exact hc l hl
            · exact h2 l (List.mem_of_mem_drop hl)) h
        refine ⟨cells', ?_, g2, g3, g4⟩
        rw [List.map_cons, fill_step hp hcells hcl (by omega)]
        exact g1
      · cases h
    · cases h

theorem ex_build {o : Oper} {ps : Array (Nat × Operand)} {ρ : Operand → Value} {r : Value} {w' : World} (ho : o.op = .build T ps)
    (hr : (Instr.build T (ps.map fun (i, x) => (i, ρ x))).run P w = .ok r w') : (execOp ρ o).run P w = .ok (.value r) w' := by
  simp [execOp, ho, hr]

theorem sim_build {E : Env} {o : Oper} {s : S} {ps : Array (Nat × Operand)} {ls : List L} (hte : TyOk P E.te) (ho : o.op = .build T ps) (ht : find E.te T = some t) (h1 : t.one = false)
    (h : partsL E s t ps.toList t.zeros = some ls) {h0 : Hint} {site : Nat} (hok : (nilV h0 site (.w (.agg ls))).okB s.bx = true) : OpSim P o s (s.app o.dst (nilV h0 site (.w (.agg ls)))) := by
  refine OpSim.pureN (fun w0 own0 γ a w hst => ?_) hok
  have hf := hte T _ ht
  obtain ⟨i, hi, hsz, hby, z, hz, hzz⟩ := hf.info
  have hd : ∃ fs, P.underlying T = some (.struct fs) ∧ FieldsOk E.te fs.toList 0 t := by
    have := hf.desc
    cases t <;> first | exact this | exact this.elim | (simp [Ty.one] at h1)
  obtain ⟨fs, hu, hfs⟩ := hd
  obtain ⟨places, hp, hk⟩ := places_of hte hfs
  obtain ⟨z1, z2, z3⟩ := Ty.zeros_rel (w := w) (ok := okOf w s.bx γ) (bx := s.bx) (γ := γ) t
  have hzc : z.cells = (zeroCells t).toArray := by rw [hzz]; exact pack_cells _ (zeroCells_len t) fun _ => z3
  have hzl : t.zeros.length = t.sz := by rw [← zeroCells_len t]; exact z1.length
  obtain ⟨cells', g1, g2, g3, g4⟩ := parts_fill (w := w) hst (place := (places.toArray[·]?)) (fun k f hf => ⟨by simpa using hk k f hf, hfs.pos hf⟩) ps.toList t.zeros ls (zeroCells t).toArray hzl z1 z2 (by simpa using z3) h
  have hb : P.built T (ps.map fun (i, x) => (i, a.eval x)).toList = some cells' := by
    unfold Program.built
    simp only [hi, hu, hz, hp, hzc, Array.toList_map]
    exact g1
  exact ⟨.agg cells', ex_build ho (run_build w T _ cells' hb), g3, cells'.toList, by simp, g4, g2⟩

/-! ### Rows -/

theorem run_buildSlice_any (w : World) (e : TypeId) (len sz : Nat) (parts : Array (Nat × Value)) (cells : Array Value) (ie : TypeInfo) (z : Value)
    (hu : P.underlying T = some (.slice e)) (hie : P.info? e = some ie) (hz : ie.zero = some z) (hsz : ie.size = sz) (hsmall : len * sz ≤ 16777216)
    (h : ∀ init : Array Value, init.size = len * sz → Instr.fill (fun i => some (i * sz, sz)) init parts.toList = some cells) :
    (Instr.buildSlice T len parts).run P w = .ok (.slice (some ⟨w.heap.size, 0, none⟩) len len) (w.alloc (.cells cells e)) := by
  subst hsz
  have h2 : ¬ (16777216 < len * ie.size) := by omega
  rcases Nat.eq_zero_or_pos (len * ie.size) with h0 | h0
  · have hi := h (Array.map (fun _ => (default : Value)) (Array.range (len * ie.size))) (by simp)
    have key : (Instr.buildSlice T len parts).run P w = (if 16777216 < len * ie.size then Result.halt (Halt.unsupported (Unsupported.resourceLimit "buildSlice: more than 2^24 cells")) w else
        if len * ie.size = 0 then Sem.run P (match Instr.fill (fun i => some (i * ie.size, ie.size)) (Array.map (fun _ => (default : Value)) (Array.range (len * ie.size))) parts.toList with
          | some cells => (fun a => Value.slice (some ⟨a, 0, none⟩) len len) <$> newObj (Obj.cells cells e)
          | none => stuck "buildSlice: a part of the wrong size") w
        else .ok (.slice (some ⟨w.heap.size, 0, none⟩) len len) (w.alloc (.cells cells e))) := by
      rw [if_neg h2, if_pos h0]
      simp only [Instr.buildSlice, run_underlying hu, sizeOf, typeInfo, newRow, Sem.run_bind, Result.andThen_ok]
      simp [h0, hie]
      split <;> simp_all
    rw [key, if_neg h2, if_pos h0, hi]
    simp
  · exact run_buildSlice w T e len parts cells ie z hu hie hz (by omega) (by omega) (h _ (by simp))

theorem fill_all : ∀ (vs : List (Value × List Value)) (sz i : Nat) (pre : List Value) (cells : Array Value), (∀ p ∈ vs, p.1.cells = p.2.toArray ∧ p.2.length = sz) → pre.length = i * sz →
    (∃ rest, cells.toList = pre ++ rest ∧ rest.length = vs.length * sz) →
    Instr.fill (fun i => some (i * sz, sz)) cells ((vs.zipIdx i).map fun p => (p.2, p.1.1)) = some (pre ++ (vs.map (·.2)).flatten).toArray := by
  intro vs
  induction vs with
  | nil =>
    rintro sz i pre cells _ _ ⟨rest, hc, hr⟩
    have : rest = [] := List.length_eq_zero_iff.1 (by simpa using hr)
    subst this
    simp only [List.append_nil] at hc
    simp [Instr.fill, ← hc]
  | cons p vs ih =>
    rintro sz i pre cells hv hp ⟨rest, hc, hr⟩
    obtain ⟨h1, h2⟩ := hv p (by simp)
    simp only [List.length_cons, Nat.add_mul, Nat.one_mul] at hr
    have hcs : cells.size = pre.length + rest.length := by rw [← Array.length_toList, hc]; simp
    rw [List.zipIdx_cons, List.map_cons]
    show Instr.fill _ cells ((i, p.1) :: _) = _
    rw [fill_step (place := fun i => some (i * sz, sz)) (i := i) (off := i * sz) (size := sz) rfl h1 h2 (by omega)]
    rw [ih sz (i + 1) (pre ++ p.2) _ (fun q hq => hv q (by simp [hq])) (by simp [hp, h2, Nat.add_mul]) ⟨rest.drop sz, ?_, by simp; omega⟩]
    · simp
    · rw [hc, ← hp, List.take_left, ← h2, List.drop_append]
      simp [List.append_assoc]

theorem elems_rel {w0 : World} {own0 : Ow} {s : S} {γ : Gam} {a : Act} (hst : StG w0 own0 s γ a w) : ∀ {ps : List (Nat × Operand)} {i : Nat} {xs : List t.den} {ds : List Nat}, elemsL s t i ps = some (xs, ds) →
    ∃ (vs : List (Value × List Value)) (Fs : List (List Nat)), (ps.map fun (i, x) => (i, a.eval x)) = ((vs.zipIdx i).map fun p => (p.2, p.1.1)) ∧ vs.length = xs.length ∧ Fs.length = xs.length ∧
      (∀ p ∈ vs, p.1.cells = p.2.toArray ∧ p.2.length = t.sz) ∧ (∀ i (h : i < xs.length) (h1 : i < vs.length) (h2 : i < Fs.length), Rdo w (okOf w s.bx γ) t xs[i] vs[i].2 Fs[i]) ∧ Fs.flatten = FsOf γ ds ∧
      (∀ d ∈ ds, ∃ x, find s.bx d = some x) := by
  intro ps
  induction ps with
  | nil =>
    intro i xs ds h
    simp [elemsL] at h
    obtain ⟨rfl, rfl⟩ := h
    exact ⟨[], [], rfl, rfl, rfl, by simp, fun i hi => absurd hi (Nat.not_lt_zero _), by simp [FsOf], by simp⟩
  | cons p ps ih =>
    intro i xs ds h
    obtain ⟨j, x⟩ := p
    simp only [elemsL] at h
    split at h
    · rename_i hij
      subst hij
      split at h
      · rename_i v hx
        simp only [Option.bind_eq_some_iff, Option.map_eq_some_iff] at h
        obtain ⟨q, hq, r, hr, he⟩ := h
        cases he
        have rx := hst.opv x
        rw [hx] at rx
        obtain ⟨cs, h1, h2, h3⟩ := ownW_rel (fun b t xs h => hst.inv.boxes b _ h) rx hq
        obtain ⟨vs, Fs, g1, g2, g3, g4, g5, g6, g7⟩ := ih hr
        refine ⟨(a.eval x, cs) :: vs, FsOf γ q.2 :: Fs, ?_, by simp [g2], by simp [g3], ?_, ?_, by rw [List.flatten_cons, g6, FsOf_append], ?_⟩
        · simp [g1]
        · intro p hp
          rcases List.mem_cons.1 hp with rfl | hp
          · exact ⟨by rw [h2]; exact pack_cells _ h1.len fun _ => h1.oneCell, h1.len⟩
          · exact g4 p hp
        · intro k h h1' h2'
          cases k with
          | zero => exact h1
          | succ k => exact g5 k (by simpa using h) (by simpa using h1') (by simpa using h2')
        · intro d hd
          rcases List.mem_append.1 hd with hd | hd
          · obtain ⟨te, xs, h⟩ := h3 d hd; exact ⟨_, h⟩
          · exact g7 d hd
      · cases h
    · cases h

theorem ex_buildSlice {o : Oper} {ps : Array (Nat × Operand)} {n : Nat} {ρ : Operand → Value} {r : Value} {w' : World} (ho : o.op = .buildSlice T n ps)
    (hr : (Instr.buildSlice T n (ps.map fun (i, x) => (i, ρ x))).run P w = .ok r w') : (execOp ρ o).run P w = .ok (.value r) w' := by
  simp [execOp, ho, hr]

theorem sim_buildSlice {o : Oper} {s : S} {n : Nat} {ps : Array (Nat × Operand)} {te' : Ty} (het : te' = t ∨ te' = .fz t) {xs : List te'.den} {ds : List Nat} {site : Nat} (hte : TyOk P te) (ho : o.op = .buildSlice T n ps) (ht : find te T = some (.sl t))
    (h : elemsL s te' 0 ps.toList = some (xs, ds)) (hs : find s.bx site = none) (hd : nodupB ds = true) (hn : xs.length = n) (hsmall : n * t.sz ≤ 16777216) :
    OpSim P o s (s.app o.dst { v := .w (.one (.row site)), nb := [(site, .row te' xs)], D := ds, dead := ds }) := by
  rw [app_eq]
  intro w0 own0 a w ⟨γ, hst⟩ next Q hnx
  have hts : te'.sz = t.sz := by rcases het with rfl | rfl <;> rfl
  obtain ⟨e, hu, hE⟩ := desc_sl (hte T _ ht)
  obtain ⟨i, hi, hsz, hby, z, hz, hzz⟩ := (hte e _ hE).info
  obtain ⟨vs, Fs, g1, g2, g3, g4, g5, g6, g7⟩ := elems_rel (w := w) hst h
  have hus : ∀ us ∈ vs.map (·.2), us.length = te'.sz := by
    intro us hus
    obtain ⟨p, hp, rfl⟩ := List.mem_map.1 hus
    exact (g4 p hp).2
  have hlen : (vs.map (·.2)).flatten.length = n * t.sz := by rw [flat_len hus, hts]; simp [g2, hn]
  have hrun := run_buildSlice_any (P := P) w e n t.sz (ps.map fun (i, x) => (i, a.eval x)) (vs.map (·.2)).flatten.toArray i z hu hi hz hsz hsmall (by
    intro init hin
    rw [Array.toList_map, g1]
    have := fill_all vs t.sz 0 [] init (by rw [← hts]; exact g4) (by simp) ⟨init.toList, by simp, by rw [Array.length_toList, hin, g2, hn]⟩
    simpa using this)
  have hFb : ∀ n ∈ Fs.flatten, n < w.heap.size := by
    intro n hn
    rw [g6] at hn
    obtain ⟨d, hd, hnd⟩ := mem_FsOf.1 hn
    obtain ⟨y, hy⟩ := g7 d hd
    exact hst.inv.below n (mem_owned hy hnd)
  have hnew : (w.alloc (.cells (vs.map (·.2)).flatten.toArray e)).heap[w.heap.size]? = some (.cells (vs.map (·.2)).flatten.toArray e (0, 0)) := heap_alloc_new w _
  have hown : ∀ ok' : Nat → Prop, (∀ n, okOf w s.bx γ n → ok' n) → OwnG (w.alloc (.cells (vs.map (·.2)).flatten.toArray e)) te'.sz (Rdo (w.alloc (.cells (vs.map (·.2)).flatten.toArray e)) ok' te') xs (some ⟨w.heap.size, 0, none⟩) n (w.heap.size :: Fs.flatten) := by
    intro ok' hoo
    refine OwnG.make (uss := vs.map (·.2)) hnew (by simp [g2]) g3 hus (fun k h h1 h2 => ?_) (by omega) (by simp [hlen, hts]) (fun j v hj => by simpa using hj)
    have h1' : k < vs.length := by simpa using h1
    have := g5 k h h1' h2
    rw [List.getElem_map]
    exact Rdo.mono (fun n hn => ⟨hoo n hn, hao w _ n hn.1⟩) (fun n hn => hao w _ n (hFb n (mem_flatten_get hn))) this
  obtain ⟨γ', hst', hg, hf⟩ := hst.take (w' := w.alloc (.cells (vs.map (·.2)).flatten.toArray e)) (Ds := ds) (b := site) (zs := xs) (A := some ⟨w.heap.size, 0, none⟩) (c := n) (F' := w.heap.size :: Fs.flatten) (.inr hs) g7 (fun d hd => hd)
    rfl rfl rfl (by simp) (fun k hk _ => hao w _ k hk)
    (List.nodup_cons.2 ⟨fun hm => Nat.lt_irrefl _ (hFb _ hm), by rw [g6]; exact FsOf_nodup hst.inv.apart (nodupB_spec hd) g7⟩)
    (fun k hk => by
      rcases List.mem_cons.1 hk with rfl | hk
      · exact ⟨by simp, .inl (Nat.le_refl _)⟩
      · exact ⟨by have := hFb k hk; simp; omega, .inr (g6 ▸ hk)⟩) hown
  exact wp_value (ex_buildSlice ho hrun) (hnx _ _ ⟨γ', hst'.put o.dst ⟨_, te', _, hf, rfl, by rw [hg, hn]⟩⟩)

end
end Go.Fl
/- Parts of rows; conversions; the lesser and the greater. -/
namespace Go.Fl
open Go

/-- A bound, read. -/
def BndIs (s : S) (x : Option Operand) (dflt n : Nat) : Prop := match x with
  | none => n = dflt
  | some x => ∃ k, s.opv x = .w (.one (.val (.int k) (n : Int)))

theorem cutB_can {s : S} {len : Nat} {lo hi : Option Operand} {K : Nat → Nat → Tr Ef} {e : Ef} (h : (cutB s (len : Int) lo hi K).can e) :
    ∃ l m, l ≤ m ∧ m ≤ len ∧ BndIs s lo 0 l ∧ BndIs s hi len m ∧ (K l m).can e := by
  have go : ∀ (l m : Int), (Tr.tst (decide (0 ≤ m)) (.tst (decide (m ≤ (len : Int))) (.tst (decide (0 ≤ l)) (.tst (decide (l ≤ m)) (K l.toNat m.toNat) .fail) .fail) .fail) .fail).can e →
      (l.toNat : Int) = l ∧ (m.toNat : Int) = m ∧ l.toNat ≤ m.toNat ∧ m.toNat ≤ len ∧ (K l.toNat m.toNat).can e := by
    intro l m h
    obtain ⟨h1, h⟩ := tr_tst h
    obtain ⟨h2, h⟩ := tr_tst h
    obtain ⟨h3, h⟩ := tr_tst h
    obtain ⟨h4, h⟩ := tr_tst h
    simp at h1 h2 h3 h4
    exact ⟨by omega, by omega, by omega, by omega, h⟩
  unfold cutB at h
  cases lo with
  | none => cases hi with
    | none =>
      obtain ⟨_, _, h3, h4, h5⟩ := go 0 len h
      exact ⟨0, len, by omega, Nat.le_refl _, rfl, rfl, h5⟩
    | some y =>
      simp only at h
      split at h
      · rename_i k m hy
        obtain ⟨_, h2, h3, h4, h5⟩ := go 0 m h
        exact ⟨0, _, by omega, h4, rfl, ⟨k, by rw [h2]; exact hy⟩, h5⟩
      · exact h.elim
  | some x => cases hi with
    | none =>
      simp only at h
      split at h
      · rename_i k l hx
        obtain ⟨h1, _, h3, h4, h5⟩ := go l len h
        exact ⟨_, len, h3, Nat.le_refl _, ⟨k, by rw [h1]; exact hx⟩, rfl, h5⟩
      · exact h.elim
    | some y =>
      simp only at h
      split at h
      · rename_i k l k' m hx hy
        obtain ⟨h1, h2, h3, h4, h5⟩ := go l m h
        exact ⟨_, _, h3, h4, ⟨k, by rw [h1]; exact hx⟩, ⟨k', by rw [h2]; exact hy⟩, h5⟩
      · exact h.elim

section
variable {P : Program} {te : List (Nat × Ty)} {T : Nat} {t : Ty} {w : World}

theorem ex_slice {o : Oper} {x : Operand} {lo hi : Option Operand} {ρ : Operand → Value} {v r : Value} (ho : o.op = .slice T x lo hi none) (hx : ρ x = v)
    (hr : (Instr.sliceAt T v (lo.map ρ) (hi.map ρ) none).run P w = .ok r w) : (execOp ρ o).run P w = .ok (.value r) w := by
  simp [execOp, ho, hx, hr]

theorem BndIs.val {w0 : World} {own0 : Ow} {s : S} {γ : Gam} {a : Act} (hst : StG w0 own0 s γ a w) {x : Option Operand} {d n : Nat} (h : BndIs s x d n) :
    (x = none ∧ n = d) ∨ ∃ k, x.map a.eval = some (.int k n) := by
  cases x with
  | none => exact .inl ⟨rfl, h⟩
  | some x =>
    obtain ⟨k, h⟩ := h
    have := hst.opv x
    rw [h] at this
    exact .inr ⟨k, by simp [int_of this]⟩

theorem run_slice_row {w0 : World} {own0 : Ow} {s : S} {γ : Gam} {a : Act} (hst : StG w0 own0 s γ a w) {E : Nat} (hu : P.underlying T = some (.slice E)) (hz : (sizeOf E).run P w = .ok t.sz w)
    {lo hi : Option Operand} {A : Option Addr} {n c l m : Nat} (hl : BndIs s lo 0 l) (hh : BndIs s hi n m) (h1 : l ≤ m) (h2 : m ≤ n) (h3 : n ≤ c) :
    (Instr.sliceAt T (.slice A n c) (lo.map a.eval) (hi.map a.eval) none).run P w = .ok (.slice (if c = l then A else A.map (·.add (l * t.sz))) (m - l) (c - l)) w := by
  have hmc : m ≤ c := Nat.le_trans h2 h3
  rcases hl.val hst with ⟨rfl, rfl⟩ | ⟨k, hl⟩ <;> rcases hh.val hst with ⟨rfl, rfl⟩ | ⟨k', hh⟩
  · simp [Instr.sliceAt, Instr.slice, run_underlying hu, Instr.sliceBounds, hz]
  · simp [Instr.sliceAt, Instr.slice, run_underlying hu, Instr.sliceBounds, hz, hh, run_sliceBound, hmc]
  · simp [Instr.sliceAt, Instr.slice, run_underlying hu, Instr.sliceBounds, hz, hl, run_sliceBound, h1]
  · simp [Instr.sliceAt, Instr.slice, run_underlying hu, Instr.sliceBounds, hz, hl, hh, run_sliceBound, h1, hmc]

theorem run_slice_str {w0 : World} {own0 : Ow} {s : S} {γ : Gam} {a : Act} (hst : StG w0 own0 s γ a w) (hu : P.underlying T = some .string)
    {lo hi : Option Operand} {z : ByteArray} {l m : Nat} (hl : BndIs s lo 0 l) (hh : BndIs s hi z.size m) (h1 : l ≤ m) (h2 : m ≤ z.size) :
    (Instr.sliceAt T (.string z) (lo.map a.eval) (hi.map a.eval) none).run P w = .ok (.string (z.extract l m)) w := by
  rcases hl.val hst with ⟨rfl, rfl⟩ | ⟨k, hl⟩ <;> rcases hh.val hst with ⟨rfl, rfl⟩ | ⟨k', hh⟩
  · simp [Instr.sliceAt, Instr.slice, run_underlying hu, Instr.sliceBounds]
  · simp [Instr.sliceAt, Instr.slice, run_underlying hu, Instr.sliceBounds, hh, run_sliceBound, h2]
  · simp [Instr.sliceAt, Instr.slice, run_underlying hu, Instr.sliceBounds, hl, run_sliceBound, h1]
  · simp [Instr.sliceAt, Instr.slice, run_underlying hu, Instr.sliceBounds, hl, hh, run_sliceBound, h1, h2]

theorem own_cap {ok : Nat → Prop} {xs : List t.den} {A : Option Addr} {c : Nat} {F : List Nat} (h : OwnG w t.sz (Rdo w ok t) xs A c F) : xs.length ≤ c ∧ (c = 0 ∨ ∃ bl off, A = some ⟨bl, off, none⟩) := by
  rcases h with ⟨rfl, rfl, _⟩ | ⟨bl, off, _, _, _, h1, _, _, h2, _⟩
  · exact ⟨Nat.le_refl _, .inl rfl⟩
  · exact ⟨h2, .inr ⟨bl, off, h1⟩⟩

/-- What a part's header is. -/
theorem part_hd {A : Option Addr} {n c l m sz : Nat} (h1 : l ≤ m) (h2 : m ≤ n) (h3 : n ≤ c) (h : c = 0 ∨ ∃ bl off, A = some ⟨bl, off, none⟩) :
    PartHd A c sz l (m - l) (.slice (if c = l then A else A.map (·.add (l * sz))) (m - l) (c - l)) := by
  rcases h with rfl | ⟨bl, off, rfl⟩
  · have : l = 0 := by omega
    subst this
    exact .inl ⟨rfl, by simp⟩
  · refine .inr ⟨_, rfl, c, by omega, rfl, ?_⟩
    by_cases hc : c = l
    · simp [hc]
    · simp [hc, add_eq]

theorem flatten_cut_nodup {L : List (List Nat)} {l k : Nat} (h : L.flatten.Nodup) : ((L.drop l).take k).flatten.Nodup := by
  rw [← List.take_append_drop l L, List.flatten_append] at h
  have h := (List.nodup_append.1 h).2.1
  rw [← List.take_append_drop k (L.drop l), List.flatten_append] at h
  exact (List.nodup_append.1 h).1

theorem OwnG.cut {ok : Nat → Prop} {xs : List t.den} {A : Option Addr} {c : Nat} {F : List Nat} (h : OwnG w t.sz (Rdo w ok t) xs A c F) (hnd : F.Nodup) {l m : Nat} (h1 : l ≤ m) (h2 : m ≤ xs.length) :
    ∃ F', OwnG w t.sz (Rdo w ok t) ((xs.drop l).take (m - l)) (if c = l then A else A.map (·.add (l * t.sz))) (c - l) F' ∧ F'.Nodup ∧ ∀ n ∈ F', n ∈ F := by
  rcases h with ⟨rfl, rfl, rfl⟩ | ⟨bl, off, cells, e, Fs, rfl, rfl, hh, hc, hfit, hl, hel⟩
  · exact ⟨[], .inl ⟨by simp, by simp, rfl⟩, by simp, by simp⟩
  · by_cases hcl : c = l
    · refine ⟨[], .inl ⟨?_, by omega, rfl⟩, by simp, by simp⟩
      have : xs.drop l = [] := List.drop_eq_nil_of_le (by omega)
      simp [this]
    · rw [if_neg hcl]
      have hsub : ∀ n ∈ ((Fs.drop l).take (m - l)).flatten, n ∈ Fs.flatten := by
        intro n hn
        obtain ⟨q, hq, hn⟩ := List.mem_flatten.1 hn
        exact List.mem_flatten.2 ⟨q, List.mem_of_mem_drop (List.mem_of_mem_take hq), hn⟩
      have hfn : ((Fs.drop l).take (m - l)).flatten.Nodup :=
        flatten_cut_nodup (List.nodup_cons.1 hnd).2
      refine ⟨bl :: ((Fs.drop l).take (m - l)).flatten, .inr ⟨bl, off + l * t.sz, cells, e, (Fs.drop l).take (m - l), by simp [add_eq], rfl, hh, by simp; omega, ?_, by simp; omega, ?_⟩, ?_, ?_⟩
      · have : l * t.sz + (c - l) * t.sz = c * t.sz := by rw [← Nat.add_mul]; congr 1; omega
        omega
      · intro i hi hi'
        simp at hi hi'
        obtain ⟨us, g1, g2, g3⟩ := hel (l + i) (by omega) (by omega)
        refine ⟨us, by simpa using g1, g2, fun j v hj => ?_⟩
        have := g3 j v hj
        rw [Nat.add_mul] at this
        rw [← this]
        congr 1
        omega
      · exact List.nodup_cons.2 ⟨fun hm => (List.nodup_cons.1 hnd).1 (hsub _ hm), hfn⟩
      · intro n hn
        rcases List.mem_cons.1 hn with rfl | hn
        · simp
        · exact List.mem_cons_of_mem _ (hsub _ hn)

theorem sim_slice {o : Oper} {s : S} {E : Env} {h : Hint} {x : Operand} {lo hi : Option Operand} {e : Ef} (hte : TyOk P E.te) (ho : o.op = .slice T x lo hi none)
    (he : (sliceE E h T s (s.opv x) lo hi).can e) : OpSim P o s (s.app o.dst e) := by
  unfold sliceE at he
  split at he
  · rename_i t' xs0 t1 hx ht
    split at he
    · rename_i htt
      subst htt
      obtain ⟨l, m, h1, h2, h3, h4, h5⟩ := cutB_can he
      change m ≤ List.length xs0 at h2
      cases h5
      rw [app_put]
      refine OpSim.pureV fun w0 own0 γ a w hst => ?_
      have hv := hst.opv x
      rw [hx] at hv
      obtain ⟨cs, hr, hcv⟩ := hv
      obtain ⟨A, c, rfl, hc, hel⟩ := hr
      have hcv' : a.eval x = .slice A (List.length xs0) c := by rw [hcv]; rfl
      obtain ⟨E1, hu, hE⟩ := desc_sl (hte T _ ht)
      have hrun := run_slice_row (t := t') hst hu (hte E1 _ hE).size h3 h4 h1 h2 hc (A := A)
      refine ⟨_, ex_slice ho hcv' hrun, ?_⟩
      have hlen : ((List.drop l xs0).take (m - l)).length = m - l := by simp; omega
      refine ⟨[.slice (if c = l then A else A.map (·.add (l * t'.sz))) (m - l) (c - l)], ?_, rfl⟩
      rcases Nat.eq_zero_or_pos (m - l) with h0 | h0
      · have hnil : (List.drop l xs0).take (m - l) = [] := by simp [h0]
        show Rdf w _ (.sl t') ((List.drop l xs0).take (m - l)) _
        rw [hnil, h0]
        exact ⟨_, _, rfl, Nat.zero_le _, fun i hi => absurd hi (Nat.not_lt_zero _)⟩
      · obtain ⟨ad, us, hA, hsp, _⟩ := hel 0 (show 0 < List.length xs0 by omega)
        subst hA
        have hr : Rdf w (okOf w s.bx γ) (.sl t') xs0 [.slice (some ad) (List.length xs0) c] := ⟨_, _, rfl, hc, hel⟩
        have hp := part_hd (sz := t'.sz) h1 h2 hc (A := some ad) (.inr ⟨ad.block, ad.off, by cases ad; simp at hsp; subst hsp; rfl⟩)
        exact Rdf.part hr (show l + (m - l) ≤ List.length xs0 by omega) hp
    · exact he.elim
  · rename_i z hx ht
    obtain ⟨l, m, h1, h2, h3, h4, h5⟩ := cutB_can he
    cases h5
    rw [app_put]
    refine OpSim.pureV fun w0 own0 γ a w hst => ?_
    have hv := hst.opv x
    rw [hx] at hv
    have hcv := str_of hv
    exact ⟨_, ex_slice ho hcv (run_slice_str hst (hte T _ ht).desc h3 h4 h1 h2), ⟨_, rfl, rfl⟩⟩
  · rename_i t1 hx ht
    obtain ⟨l, m, h1, h2, h3, h4, h5⟩ := cutB_can (len := 0) he
    cases h5
    rw [app_put]
    refine OpSim.pureV fun w0 own0 γ a w hst => ?_
    have hv := hst.opv x
    rw [hx] at hv
    have hcv : a.eval x = .slice none 0 0 := hv
    obtain ⟨E1, hu, hE⟩ := desc_sl (hte T _ ht)
    refine ⟨_, ex_slice ho hcv (run_slice_row (t := t1) hst hu (hte E1 _ hE).size h3 h4 h1 h2 (Nat.le_refl 0)), ?_⟩
    have : m = 0 := by omega
    subst this
    show _ = _
    simp
  · rename_i r t1 hx ht
    split at he
    · rename_i te' xs hb
      split at he
      · rename_i het
        obtain ⟨l, m, h1, h2, h3, h4, h5⟩ := cutB_can he
        obtain ⟨E1, hu, hE⟩ := desc_sl (hte T _ ht)
        have hsz : te'.sz = t1.sz := by rcases het with rfl | rfl <;> simp [Ty.sz]
        have hrow : ∀ {w0 : World} {own0 : Ow} {γ : Gam} {a : Act} {w : World}, StG w0 own0 s γ a w → OwnG w te'.sz (Rdo w (okOf w s.bx γ) te') xs (γ r).A (γ r).c (γ r).F ∧ a.eval x = .slice (γ r).A xs.length (γ r).c ∧
            (execOp a.eval o).run P w = .ok (.value (.slice (if (γ r).c = l then (γ r).A else (γ r).A.map (·.add (l * te'.sz))) (m - l) ((γ r).c - l))) w := by
          intro w0 own0 γ a w hst
          have hbox : OwnG w te'.sz (Rdo w (okOf w s.bx γ) te') xs (γ r).A (γ r).c (γ r).F := hst.inv.boxes r _ hb
          have hv := hst.opv x
          rw [hx] at hv
          obtain ⟨x2, t2, n2, hb2, hd2, hcv⟩ := hv
          rw [hb] at hb2
          cases hb2
          simp [Box.hd] at hd2
          obtain ⟨rfl, rfl⟩ := hd2
          refine ⟨hbox, hcv, ?_⟩
          have := run_slice_row (t := t1) hst hu (hte E1 _ hE).size h3 h4 h1 h2 (own_cap hbox).1 (A := (γ r).A)
          rw [← hsz] at this
          exact ex_slice ho hcv this
        split at h5
        · cases h5
          rw [app_eq]
          intro w0 own0 a w ⟨γ, hst⟩ next Q hn
          obtain ⟨hbox, hcv, hrun⟩ := hrow hst
          refine wp_value hrun ?_
          obtain ⟨F', g1, g2, g3⟩ := hbox.cut (box_nodup hst.inv.apart hb) h1 h2
          have hFs : FsOf γ [r] = (γ r).F := by simp [FsOf]
          obtain ⟨γ', hst', hg, hf⟩ := hst.take (w' := w) (Ds := [r]) (dead := [r, nid r]) (b := r) (zs := (xs.drop l).take (m - l)) (t := te') (.inl (by simp)) (by simpa using ⟨_, hb⟩) (by simp)
            rfl rfl rfl (Nat.le_refl _) (fun _ _ _ => rfl) g2 (fun n hn => ⟨hst.inv.below n (mem_owned hb (g3 n hn)), .inr (by rw [hFs]; exact g3 n hn)⟩)
            (fun ok' hok => OwnG.mono (OkTo.of (fun _ _ => rfl) hok) (fun _ _ => rfl) g1)
          refine hn _ _ ⟨γ', hst'.put o.dst ?_⟩
          refine ⟨_, te', _, hf, rfl, ?_⟩
          rw [hg]
          simp
          omega
        · cases h5
          rw [app_put]
          refine OpSim.pureV fun w0 own0 γ a w hst => ?_
          obtain ⟨hbox, hcv, hrun⟩ := hrow hst
          exact ⟨_, hrun, _, te', _, hb, rfl, by omega, part_hd h1 h2 (own_cap hbox).1 (own_cap hbox).2⟩
      · exact he.elim
    · exact he.elim
  · rename_i r i off t1 hx ht
    split at he
    · rename_i ys hy
      obtain ⟨l, m, h1, h2, h3, h4, h5⟩ := cutB_can he
      cases h5
      rw [app_put]
      refine OpSim.pureV fun w0 own0 γ a w hst => ?_
      have hl0 : l = 0 := h3
      subst hl0
      unfold nrowOf at hy
      split at hy
      · rename_i tb xs hb
        have hv := hst.opv x
        rw [hx] at hv
        have hbox : OwnG w tb.sz (Rdo w (okOf w s.bx γ) tb) xs (γ r).A (γ r).c (γ r).F := hst.inv.boxes r _ hb
        obtain ⟨hi, A', c', F1, G, hval, hole, hown, hperm, _, hg⟩ := nest_row hbox hv hb hy
        obtain ⟨E1, hu, hE⟩ := desc_sl (hte T _ ht)
        have hcap := own_cap hown
        have hrun := run_slice_row (t := t1) (lo := none) hst hu (hte E1 _ hE).size rfl h4 h1 h2 hcap.1 (A := A')
        have heq : (if c' = 0 then A' else A'.map (·.add (0 * t1.sz))) = A' := by
          rcases hcap.2 with h | ⟨bl, of', rfl⟩
          · simp [h]
          · simp [add_eq]
        rw [heq] at hrun
        simp only [Nat.sub_zero] at hrun
        refine ⟨_, ex_slice ho hval hrun, A', ys.length, c', t1, _, tb, xs.length, ?_, hb, rfl, slGet_at hg, by omega, rfl, by simp⟩
        rw [hval] at hv
        exact hv
      · cases hy
    · exact he.elim
  · exact he.elim

end
end Go.Fl
/- Maps. -/
namespace Go.Fl
open Go

theorem mget_some {α : Type} : ∀ {m : List (Int × α)} {q : Int} {y : α}, mget m q = some y → ∃ j : Nat, m[j]? = some (q, y) ∧ ∀ z, mset m q z = m.set j (q, z) := by
  intro m
  induction m with
  | nil => intro q y h; cases h
  | cons p r ih =>
    intro q y h
    obtain ⟨k, x⟩ := p
    simp only [mget] at h
    by_cases hq : q = k
    · subst hq
      simp at h
      subst h
      exact ⟨0, rfl, fun z => by simp [mset]⟩
    · simp [hq] at h
      obtain ⟨j, h1, h2⟩ := ih h
      exact ⟨j + 1, by simpa using h1, fun z => by simp [mset, hq, h2 z]⟩

theorem mget_none {α : Type} : ∀ {m : List (Int × α)} {q : Int}, mget m q = none → (∀ p ∈ m, p.1 ≠ q) ∧ ∀ z, mset m q z = m ++ [(q, z)] := by
  intro m
  induction m with
  | nil => intro q _; exact ⟨by simp, fun z => rfl⟩
  | cons p r ih =>
    intro q h
    obtain ⟨k, x⟩ := p
    simp only [mget] at h
    by_cases hq : q = k
    · simp [hq] at h
    · simp [hq] at h
      obtain ⟨h1, h2⟩ := ih h
      exact ⟨fun p hp => (List.mem_cons.1 hp).elim (fun e => by subst e; exact fun e => hq e.symm) (h1 p), fun z => by simp [mset, hq, h2 z]⟩

section
variable {P : Program} {te : List (Nat × Ty)} {T : Nat} {t : Ty} {w : World}

theorem find_now {ok : Nat → Prop} {kk : IntKind} {n : Int} : ∀ {es : List MapEntry} {m : List (Int × t.den)}, All2 (EntRel w ok t) es m → ∀ i,
    (mget m n = none ∧ Instr.findNow (.int kk) (.int .i64 n) es i = some none) ∨ ∃ (j : Nat) (e : MapEntry) (y : t.den), mget m n = some y ∧ Instr.findNow (.int kk) (.int .i64 n) es i = some (some (i + j, e.val)) ∧ es[j]? = some e ∧ EntRel w ok t e (n, y) ∧
      (∀ z, mset m n z = m.set j (n, z)) := by
  intro es m h
  induction h with
  | nil => intro i; exact .inl ⟨rfl, rfl⟩
  | @cons e x es m h0 _ ih =>
    intro i
    obtain ⟨k, y⟩ := x
    have hk : e.key = .int .i64 k := h0.1
    by_cases hn : n = k
    · subst hn
      refine .inr ⟨0, e, y, by simp [mget], ?_, rfl, h0, fun z => by simp [mset]⟩
      simp [Instr.findNow, hk, Instr.sameNow]
    · have hs : Instr.findNow (.int kk) (.int .i64 n) (e :: es) i = Instr.findNow (.int kk) (.int .i64 n) es (i + 1) := by
        have hb : (n == k) = false := by simpa using hn
        simp [Instr.findNow, hk, Instr.sameNow, hb]
      rcases ih (i + 1) with ⟨h1, h2⟩ | ⟨j, e', y', h1, h2, h3, h4, h5⟩
      · exact .inl ⟨by simp [mget, hn, h1], by rw [hs, h2]⟩
      · exact .inr ⟨j + 1, e', y', by simp [mget, hn, h1], by rw [hs, h2, Nat.add_assoc, Nat.add_comm 1 j], by simpa using h3, h4, fun z => by simp [mset, hn, h5 z]⟩

theorem all2_of_get {α β : Type} {R : α → β → Prop} : ∀ {xs : List α} {ys : List β}, xs.length = ys.length → (∀ i (h : i < ys.length) (h' : i < xs.length), R xs[i] ys[i]) → All2 R xs ys
  | [], [], _, _ => .nil
  | x :: xs, y :: ys, hl, h => .cons (h 0 (by simp) (by simp)) (all2_of_get (by simpa using hl) fun i h1 h2 => h (i + 1) (Nat.succ_lt_succ h1) (Nat.succ_lt_succ h2))
  | [], _ :: _, hl, _ => by simp at hl
  | _ :: _, [], hl, _ => by simp at hl

/-- The entries of a map that is only read. -/
theorem rdf_map {ok : Nat → Prop} {bx : Bxs} {γ : Gam} {m : List (Int × t.den)} {cv : Value} (h : LRel w ok bx γ (.val (.mp t) m) cv) : (m = [] ∧ cv = .map none) ∨ ∃ (r : Nat) (es : Array MapEntry) (ck : Nat), cv = .map (some r) ∧ ok r ∧ w.heap[r]? = some (.map es ck) ∧ Born es ck ∧ All2 (EntRel w ok t) es.toList m := by
  obtain ⟨cs, h, hcv⟩ := h
  rcases h with ⟨h1, rfl⟩ | ⟨r, es, ck, rfl, h1, h2, h3, h4, h5⟩
  · exact .inl ⟨h1, hcv⟩
  · refine .inr ⟨r, es, ck, hcv, h1, h2, h3, all2_of_get (by simpa using h4) fun i g1 g2 => ?_⟩
    obtain ⟨a, us, b, c⟩ := h5 i g1 (by simpa using g2)
    exact ⟨by simpa using a, us, b, by simpa using c⟩

theorem ex_lookup {o : Oper} {x k : Operand} {c : Bool} {ρ : Operand → Value} {u v r : Value} (ho : o.op = .lookup T x k c) (hx : ρ x = u) (hk : ρ k = v)
    (hr : (Instr.lookup T u v c).run P w = .ok r w) : (execOp ρ o).run P w = .ok (.value r) w := by
  simp [execOp, ho, hx, hk, hr]

theorem run_zero (hf : TyFact P te T t) : (zeroValue T).run P w = .ok (pack t (zeroCells t)) w := by
  obtain ⟨i, hi, _, _, z, hz, rfl⟩ := hf.info
  simp [zeroValue, typeInfo, hi, hz]

theorem run_key {K : Nat} (hk : P.underlying K = some (.int .i64)) (e : Bool) (n : Int) : (Instr.checkKey e 10000 K (.int .i64 n)).run P w = .ok () w :=
  MapKept.run_checkKey hk (show MapKept.IsKey (.int .i64) (.int .i64 n) from rfl) e 9999

theorem run_find {K : Nat} (hk : P.underlying K = some (.int .i64)) {n : Int} {es : List MapEntry} {r : Option (Nat × Value)} (h : Instr.findNow (.int .i64) (.int .i64 n) es 0 = some r) :
    (Instr.findKey K (.int .i64 n) es).run P w = .ok r w := by
  simp [Instr.findKey, run_underlying hk, h]

theorem sim_lookup {o : Oper} {s : S} {x k : Operand} {c : Bool} {l : L} {n : Int} {m : List (Int × t.den)} (hte : TyOk P te) (ho : o.op = .lookup T x k c) (ht : find te T = some (.mp t))
    (hx : s.opv x = .w (.one l)) (hk : s.opv k = .w (.one (.val (.int .i64) n))) (h : mapOf s.bx t l = some m) :
    OpSim P o s (s.put o.dst (if c then .tup [.one (.val t ((mget m n).getD t.zero)), .one (.val .bool (mget m n).isSome)] else .w (.one (.val t ((mget m n).getD t.zero))))) := by
  refine OpSim.pureV fun w0 own0 γ a w hst => ?_
  have hv := hst.opv x
  rw [hx] at hv
  have hkv := hst.opv k
  rw [hk] at hkv
  have hkc := int_of hkv
  obtain ⟨K, E, hu, hK, hE⟩ := (hte T _ ht).desc
  have key : ∃ (u : Value) (ok : Bool), (Instr.lookup T (a.eval x) (.int .i64 n) c).run P w = .ok (if c then .tuple #[u, .bool ok] else u) w ∧ ok = (mget m n).isSome ∧ LRel w (okOf w s.bx γ) s.bx γ (.val t ((mget m n).getD t.zero)) u := by
    have two : (∃ (r : Nat) (es : Array MapEntry) (ck : Nat), a.eval x = .map (some r) ∧ w.heap[r]? = some (.map es ck) ∧ All2 (EntRel w (okOf w s.bx γ) t) es.toList m) ∨ (m = [] ∧ a.eval x = .map none) := by
      unfold mapOf at h
      split at h
      · rename_i t' m'
        obtain ⟨h1, h2⟩ := castT_some h
        cases h1
        have h2' : m = m' := h2
        subst h2'
        rcases rdf_map (bx := s.bx) (γ := γ) hv with h3 | ⟨r, es, ck, h3, _, h4, _, h5⟩
        · exact .inr h3
        · exact .inl ⟨r, es, ck, h3, h4, h5⟩
      · rename_i b
        split at h
        · rename_i t' m' hb
          obtain ⟨h1, h2⟩ := castT_some h
          cases h1
          have h2' : m = m' := h2
          subst h2'
          obtain ⟨t2, m2, r, hb2, hA, hcv⟩ := hv
          obtain ⟨r', es, ck, g1, _, g2, _, g3⟩ := hst.inv.boxes b _ hb
          rw [hA] at g1
          simp at g1
          subst g1
          exact .inl ⟨r, es, ck, hcv, g2, g3⟩
        · cases h
      · cases h; exact .inr ⟨rfl, hv⟩
      · cases h
    rcases two with ⟨r, es, ck, h1, h2, h3⟩ | ⟨rfl, h1⟩
    · rw [h1]
      rcases find_now (kk := .i64) (n := n) h3 0 with ⟨g1, g2⟩ | ⟨j, e, y, g1, g2, g3, g4, _⟩
      · refine ⟨pack t (zeroCells t), false, ?_, by simp [g1], ⟨_, by rw [g1]; exact zeroCells_rdf t, rfl⟩⟩
        simp [Instr.lookup, run_underlying hu, MapKept.run_getObj_map h2, run_key hK, run_find hK g2, run_zero (hte E _ hE)]
      · obtain ⟨us, e1, e2⟩ := g4.2
        refine ⟨e.val, true, ?_, by simp [g1], ⟨us, by rw [g1]; exact e1, e2⟩⟩
        simp [Instr.lookup, run_underlying hu, MapKept.run_getObj_map h2, run_key hK, run_find hK g2]
    · rw [h1]
      refine ⟨pack t (zeroCells t), false, ?_, by simp [mget], ⟨_, zeroCells_rdf t, rfl⟩⟩
      have : Instr.findNow (.int .i64) (.int .i64 n) [] 0 = some none := rfl
      simp [Instr.lookup, run_underlying hu, run_key hK, run_find hK this, run_zero (hte E _ hE)]
  obtain ⟨u, ok, h1, rfl, h3⟩ := key
  refine ⟨_, ex_lookup ho rfl hkc h1, ?_⟩
  cases c with
  | false => exact h3
  | true => exact ⟨[u, .bool (mget m n).isSome], rfl, .cons h3 (.cons ⟨_, rfl, rfl⟩ .nil)⟩

theorem ex_makeMap {o : Oper} {ρ : Operand → Value} (ho : o.op = .makeMap T none) :
    (execOp ρ o).run P w = .ok (.value (.map (some w.heap.size))) { w with heap := w.heap.push (.map #[] 0) } := by
  simp [execOp, ho, Instr.makeMap]

/-- One box more. -/
theorem re0_app {s : S} {site : Nat} {x : Box} {v : V} {dst : Option Nat} : s.app dst { v, nb := [(site, x)] } = (s.re0 [(site, x)] noB).put dst v := by
  rw [app_eq, re0_eq]
  rfl

theorem sim_makeMap {o : Oper} {s : S} {site : Nat} (ho : o.op = .makeMap T none) (hs : find s.bx site = none) :
    OpSim P o s (s.app o.dst { v := .w (.one (.mrow site)), nb := [(site, .mp t [])] }) := by
  intro w0 own0 a w ⟨γ, hst⟩ next Q hn
  rw [re0_app] at hn
  refine wp_value (ex_makeMap ho) ?_
  obtain ⟨γ', hg, hst', hf⟩ := hst.new hs (.map #[] 0) (.mp t []) ⟨some ⟨w.heap.size, 0, none⟩, 0, [w.heap.size]⟩ (.inl rfl) (fun ok' bx' γ' _ _ _ hg =>
    ⟨w.heap.size, #[], 0, by rw [hg], by rw [hg], heap_push_new _ _, ⟨fun i j hi => by simp at hi, fun i hi => by simp at hi⟩, .nil⟩)
  exact hn _ _ ⟨γ', hst'.put o.dst ⟨t, [], w.heap.size, hf, by rw [hg], rfl⟩⟩

theorem born_set {es : Array MapEntry} {ck : Nat} (h : Born es ck) (i : Nat) (f : MapEntry → MapEntry) (hf : ∀ e, (f e).born = e.born) : Born (es.modify i f) ck := by
  have hb : ∀ k (hk : k < (es.modify i f).size), (es.modify i f)[k].born = (es[k]'(by simpa using hk)).born := by
    intro k hk
    rw [Array.getElem_modify]
    split <;> simp [hf]
  refine ⟨fun a b ha hb' hlt => ?_, fun a ha => ?_⟩
  · rw [hb, hb]; exact h.1 a b _ _ hlt
  · rw [hb]; exact h.2 a _

theorem born_push {es : Array MapEntry} {ck : Nat} (h : Born es ck) (e : MapEntry) (he : e.born = ck) : Born (es.push e) (ck + 1) := by
  refine ⟨fun a b ha hb hlt => ?_, fun a ha => ?_⟩
  · have ha' : a < es.size := by simp at hb; omega
    rw [Array.getElem_push_lt ha']
    by_cases hb' : b < es.size
    · rw [Array.getElem_push_lt hb']; exact h.1 a b _ _ hlt
    · have hbe : b = es.size := by simp at hb; omega
      subst hbe
      simp [he]
      exact h.2 a ha'
  · by_cases ha' : a < es.size
    · rw [Array.getElem_push_lt ha']; exact Nat.lt_succ_of_lt (h.2 a ha')
    · have hae : a = es.size := by simp at ha; omega
      subst hae
      simp [he]

theorem ex_mapUpdate {o : Oper} {x k y : Operand} {ρ : Operand → Value} {u v z : Value} {w' : World} (ho : o.op = .mapUpdate T x k y) (hx : ρ x = u) (hk : ρ k = v) (hy : ρ y = z)
    (hr : (Instr.mapUpdate T u v z).run P w = .ok () w') : (execOp ρ o).run P w = .ok .skip w' := by
  simp [execOp, ho, hx, hk, hy, hr]

theorem sim_mapUpdate {o : Oper} {s : S} {x k y : Operand} {b : Nat} {n : Int} {m : List (Int × t.den)} {v : W} {z : t.den} (hte : TyOk P te) (ho : o.op = .mapUpdate T x k y) {t0 : Ty} (ht : find te T = some (.mp t0))
    (hx : s.opv x = .w (.one (.mrow b))) (hk : s.opv k = .w (.one (.val (.int .i64) n))) (hy : s.opv y = .w v) (hb : find s.bx b = some (.mp t m)) (hz : rdW [] t v = some z) :
    OpSim P o s (s.app o.dst (unE [(b, .mp t (mset m n z))] [b] [])) := by
  intro w0 own0 a w ⟨γ, hst⟩ next Q hn
  have hv := hst.opv x
  rw [hx] at hv
  have hkv := hst.opv k
  rw [hk] at hkv
  have hkc := int_of hkv
  have hyv := hst.opv y
  rw [hy] at hyv
  obtain ⟨K, E, hu, hK, hE⟩ := (hte T _ ht).desc
  obtain ⟨t2, m2, r, hb2, hA, hcv⟩ := hv
  obtain ⟨r', es, ck, g1, hF, hh, hbn, hall⟩ := hst.inv.boxes b _ hb
  rw [hA] at g1
  simp at g1
  subst g1
  have hlt : r < w.heap.size := (Array.getElem?_eq_some_iff.1 hh).1
  -- the map behind it
  have key : ∃ (es' : Array MapEntry) (ck' : Nat), (Instr.mapUpdate T (.map (some r)) (.int .i64 n) (a.eval y)).run P w = .ok () { w with heap := w.heap.setIfInBounds r (.map es' ck') } ∧ Born es' ck' ∧
      ∀ (w' : World) (ok' : Nat → Prop), (∀ n, okOf w s.bx γ n → ok' n) → (∀ n, okOf w s.bx γ n → w'.heap[n]? = w.heap[n]?) → All2 (EntRel w' ok' t) es'.toList (mset m n z) := by
    have hz' : ∀ (w' : World) (ok' : Nat → Prop), (∀ n, okOf w s.bx γ n → ok' n) → (∀ n, okOf w s.bx γ n → w'.heap[n]? = w.heap[n]?) → ∃ us, Rdf w' ok' t z us ∧ a.eval y = pack t us := by
      intro w' ok' h1 h2
      obtain ⟨us, h3, h4⟩ := rdW_rel (bx := []) (ok' := okOf w s.bx γ) (Rdb.nil w _ _ s.bx γ) (fun _ h => h) hyv hz
      exact ⟨us, h3.mono h2 h1, h4⟩
    rcases find_now (kk := .i64) (n := n) hall 0 with ⟨e1, e2⟩ | ⟨j, e, y', e1, e2, e3, e4, e5⟩
    · refine ⟨es.push { key := .int .i64 n, val := a.eval y, born := ck }, ck + 1, ?_, born_push hbn _ rfl, fun w' ok' h1 h2 => ?_⟩
      · simp [Instr.mapUpdate, run_underlying hu, MapKept.run_getObj_map hh, run_key hK, run_find hK e2, MapKept.run_setObj_map _ hh]
      · rw [(mget_none e1).2 z]
        simp only [Array.toList_push]
        exact (hall.imp fun e _ x hx => hx.mono h2 h1).append (.cons ⟨rfl, hz' w' ok' h1 h2⟩ .nil)
    · have hj : es[j]? = some e := by simpa using e3
      have hk2 : (((es[j]?).map (·.key)).getD (.int .i64 n)) = .int .i64 n := by simp [hj, e4.1]
      refine ⟨es.modify j (fun e => { e with key := .int .i64 n, val := a.eval y }), ck, ?_, born_set hbn _ _ (fun _ => rfl), fun w' ok' h1 h2 => ?_⟩
      · have hke : (Instr.keyThatStays (.int .i64 n) (.int .i64 n)).run P w = .ok (.int .i64 n) w := by
          have : Instr.sameBits 10000 (.int .i64 n) (.int .i64 n) = true := by simp [Instr.sameBits]
          simp [Instr.keyThatStays, this]
        simp only [Nat.zero_add] at e2
        simp [Instr.mapUpdate, run_underlying hu, MapKept.run_getObj_map hh, run_key hK, run_find hK e2, hk2, hke, MapKept.run_setObj_map _ hh]
      · rw [e5 z]
        have hl : (es.modify j (fun e => { e with key := .int .i64 n, val := a.eval y })).toList = es.toList.set j { e with key := .int .i64 n, val := a.eval y } := by
          apply List.ext_getElem?
          intro i
          rw [Array.getElem?_toList, Array.getElem?_modify, List.getElem?_set]
          by_cases hij : j = i
          · subst hij
            have hjl : j < es.size := (Array.getElem?_eq_some_iff.1 hj).1
            have hje : es[j] = e := (Array.getElem?_eq_some_iff.1 hj).2
            simp [hjl, hje]
          · simp [hij]
        rw [hl]
        exact (hall.imp fun e _ x hx => hx.mono h2 h1).set j ⟨rfl, hz' w' ok' h1 h2⟩
  obtain ⟨es', ck', hrun, hbn', hall'⟩ := key
  refine wp_skip' (ex_mapUpdate ho hcv hkc rfl hrun) ?_
  have hother : ∀ k, k ≠ r → (w.heap.setIfInBounds r (.map es' ck'))[k]? = w.heap[k]? := fun k hk => Array.getElem?_setIfInBounds_ne (Ne.symm hk)
  obtain ⟨γ', hst'⟩ := hst.turn (w' := { w with heap := w.heap.setIfInBounds r (.map es' ck') }) (b := b) (y := .mp t (mset m n z)) (ds := []) (dead := []) hb ⟨_, rfl⟩ (by simp) (by simp) rfl rfl rfl (by simp)
    (fun k hk _ => hother k fun e => hk (by rw [hF, e]; simp)) (F' := [r]) (by simp) (fun k hk => .inl (by rw [hF]; exact hk)) (fun _ t n h => by simp [Box.hd] at h)
    (fun ok' bx' γ' h1 h2 _ hg => ⟨r, es', ck', by rw [hg]; exact hA, by rw [hg], by simp [hlt], hbn', hall' _ _ h1 h2⟩)
  rw [app_eq] at hn
  exact hn _ _ ⟨γ', hst'.put o.dst (VRel.un _)⟩

end
end Go.Fl
/- Going over maps; nil slices; conversions. -/
namespace Go.Fl
open Go

theorem filter_ne_erase : ∀ (L : List MapEntry) (i : Nat) (e : MapEntry), (L.map (·.born)).Nodup → L[i]? = some e → L.filter (fun x => !(x.born == e.born)) = L.eraseIdx i := by
  intro L
  induction L with
  | nil => intro i e _ h; simp at h
  | cons x r ih =>
    intro i e hn h
    simp only [List.map_cons, List.nodup_cons] at hn
    cases i with
    | zero =>
      simp at h
      subst h
      simp only [List.filter_cons, beq_self_eq_true, Bool.not_true, Bool.false_eq_true, if_false, List.eraseIdx_zero, List.tail_cons]
      apply List.filter_eq_self.2
      intro y hy
      have : y.born ≠ x.born := fun e => hn.1 (e ▸ List.mem_map.2 ⟨y, hy, rfl⟩)
      simp [this]
    | succ i =>
      have h' : r[i]? = some e := by simpa using h
      have hm : e ∈ r := List.mem_of_getElem? h'
      have : x.born ≠ e.born := fun h => hn.1 (h ▸ List.mem_map.2 ⟨e, hm, rfl⟩)
      simp [List.filter_cons, this, ih i e hn.2 h']

theorem Born.nodup {es : Array MapEntry} {ck : Nat} (h : Born es ck) : (es.toList.map (·.born)).Nodup := by
  rw [List.nodup_iff_pairwise_ne, List.pairwise_map, List.pairwise_iff_getElem]
  intro i j hi hj hij
  have := h.1 i j (by simpa using hi) (by simpa using hj) hij
  simp only [Array.getElem_toList]
  omega

theorem Born.lt {es : Array MapEntry} {ck : Nat} (h : Born es ck) : ∀ x ∈ es.toList, x.born < ck := by
  intro x hx
  obtain ⟨i, hi, rfl⟩ := List.getElem_of_mem hx
  have := h.2 i (by simpa using hi)
  simpa using this

theorem All2.eraseIdx {α β : Type} {R : α → β → Prop} {xs : List α} {ys : List β} (h : All2 R xs ys) : ∀ n, All2 R (xs.eraseIdx n) (ys.eraseIdx n) := by
  induction h with
  | nil => intro n; exact .nil
  | cons h0 ht ih => intro n; cases n with
    | zero => simpa using ht
    | succ n => exact .cons h0 (ih n)

section
variable {P : Program} {te : List (Nat × Ty)} {T : Nat} {t : Ty} {w : World}

theorem ex_range {o : Oper} {x : Operand} {ρ : Operand → Value} {v r : Value} {w' : World} (ho : o.op = .range T x) (hx : ρ x = v) (hr : (Instr.range T v).run P w = .ok r w') :
    (execOp ρ o).run P w = .ok (.value r) w' := by
  simp [execOp, ho, hx, hr]

theorem sim_range {o : Oper} {s : S} {x : Operand} {m : List (Int × t.den)} {site : Nat} (hte : TyOk P te) (ho : o.op = .range T x) (ht : find te T = some (.mp t))
    (hx : s.opv x = .w (.one (.val (.mp t) m))) (hs : find s.bx site = none) : OpSim P o s (s.app o.dst { v := .w (.one (.it site)), nb := [(site, .it t m none)] }) := by
  intro w0 own0 a w ⟨γ, hst⟩ next Q hn
  rw [re0_app] at hn
  have hv := hst.opv x
  rw [hx] at hv
  obtain ⟨K, E, hu, hK, hE⟩ := (hte T _ ht).desc
  rcases rdf_map (bx := s.bx) (γ := γ) hv with ⟨h1, h2⟩ | ⟨r, es, ck, h2, hok, hh, hbn, hall⟩
  · refine wp_value (ex_range ho h2 (run_range_nilMap w T K E hu)) ?_
    obtain ⟨γ', hg, hst', hf⟩ := hst.new hs (.mapIter none 0 #[] 0) (.it t m none) ⟨some ⟨w.heap.size, 0, none⟩, 0, [w.heap.size]⟩ (.inl rfl) (fun ok' bx' γ' _ _ _ hg =>
      ⟨w.heap.size, none, 0, 0, #[], by rw [hg], by rw [hg], heap_push_new _ _, .inl ⟨rfl, h1, rfl⟩⟩)
    exact hn _ _ ⟨γ', hst'.put o.dst ⟨t, m, none, w.heap.size, hf, by rw [hg], rfl⟩⟩
  · refine wp_value (ex_range ho h2 (run_range_map w T K E r es ck hu hh)) ?_
    obtain ⟨γ', hg, hst', hf⟩ := hst.new hs (.mapIter (some r) ck #[] ck) (.it t m none) ⟨some ⟨w.heap.size, 0, none⟩, 0, [w.heap.size]⟩ (.inl rfl) (fun ok' bx' γ' h1 h3 _ hg =>
      ⟨w.heap.size, some r, ck, ck, #[], by rw [hg], by rw [hg], heap_push_new _ _, .inr ⟨r, es, ck, rfl, h1 r hok, by rw [h3 r hok]; exact hh, hbn, rfl, by
        have : es.toList.filter (fun e => !(#[] : Array Nat).contains e.born) = es.toList := List.filter_eq_self.2 fun e _ => by simp
        rw [this]
        exact hall.imp fun e _ x hx => hx.mono h3 h1, rfl, .inl rfl⟩⟩)
    exact hn _ _ ⟨γ', hst'.put o.dst ⟨t, m, none, w.heap.size, hf, by rw [hg], rfl⟩⟩

theorem ex_entry {o : Oper} {x : Operand} {ρ : Operand → Value} {v r : Value} {w' : World} (ho : o.op = .entry x) (hx : ρ x = v) (hr : (Instr.entry v).run P w = .ok r w') :
    (execOp ρ o).run P w = .ok (.value r) w' := by
  simp [execOp, ho, hx, hr]

theorem EntRel.rel {ok : Nat → Prop} {bx : Bxs} {γ : Gam} {e : MapEntry} {x : Int × t.den} (h : EntRel w ok t e x) : LRel w ok bx γ (.val (.int .i64) x.1) e.key ∧ LRel w ok bx γ (.val t x.2) e.val :=
  ⟨⟨_, rfl, h.1⟩, h.2⟩

theorem sim_entry {o : Oper} {s : S} {x : Operand} {b : Nat} {rest : List (Int × t.den)} {k : Int} {y : t.den} (ho : o.op = .entry x) (hx : s.opv x = .w (.one (.it b))) (hb : find s.bx b = some (.it t rest (some (k, y)))) :
    OpSim P o s (s.put o.dst (.tup [.one (.val (.int .i64) k), .one (.val t y)])) := by
  refine OpSim.pureV fun w0 own0 γ a w hst => ?_
  have hv := hst.opv x
  rw [hx] at hv
  obtain ⟨t2, m2, c2, r, hb2, hA, hcv⟩ := hv
  obtain ⟨bl, src, since, last, seen, g1, _, g2, g3⟩ := hst.inv.boxes b _ hb
  rw [hA] at g1
  simp at g1
  subst g1
  rcases g3 with ⟨_, _, g3⟩ | ⟨r', es, ck, rfl, _, g4, g5, _, _, g6, g7⟩
  · cases g3
  · rcases g7 with g7 | ⟨z, e, g7, g8, g9, g10⟩
    · cases g7
    · cases g7
      subst g6
      have hne : seen.isEmpty = false := by
        cases h : seen.isEmpty with
        | false => rfl
        | true => simp [Array.isEmpty_iff.1 h] at g10
      have hpush : seen = seen.pop.push e.born := by
        have hsz : 0 < seen.size := by
          rcases Nat.eq_zero_or_pos seen.size with h | h
          · simp [Array.isEmpty, h] at hne
          · exact h
        rw [Array.back?_eq_getElem?] at g10
        obtain ⟨h1, h2⟩ := Array.getElem?_eq_some_iff.1 g10
        apply Array.ext
        · simp; omega
        · intro i hi hi'
          simp only [Array.getElem_push]
          split
          · simp
          · have : i = seen.size - 1 := by simp at hi'; rename_i h; simp at h; omega
            subst this
            exact h2
      rw [hpush] at g2
      have hrun := run_entry_at (P := P) w r r' since seen.pop es last e g2 g4 g8 g5.nodup
      refine ⟨_, ex_entry ho hcv hrun, [e.key, e.val], rfl, .cons (g9.rel (bx := s.bx) (γ := γ)).1 (.cons (g9.rel (bx := s.bx) (γ := γ)).2 .nil)⟩

theorem ex_next {o : Oper} {x : Operand} {ρ : Operand → Value} {v r : Value} {w' : World} (ho : o.op = .next x false) (hx : ρ x = v) (hr : (Instr.next v false o.type).run P w = .ok r w') :
    (execOp ρ o).run P w = .ok (.value r) w' := by
  simp [execOp, ho, hx, hr]

/-- A step over a map: it is over, or some entry comes. -/
theorem sim_next {o : Oper} {s : S} {x : Operand} {b : Nat} {rest : List (Int × t.den)} {cur : Option (Int × t.den)} (ho : o.op = .next x false) (hx : s.opv x = .w (.one (.it b))) (hb : find s.bx b = some (.it t rest cur))
    {w0 : World} {own0 : Ow} {a : Act} {w : World} (hst : St w0 own0 s a w) {next : Act → World → Prop} {Q : Exit → Act → World → Prop}
    (h0 : rest = [] → ∀ a' w', St w0 own0 (s.put o.dst (.tup [.one (.val .bool false)])) a' w' → next a' w')
    (h1 : ∀ i, i < rest.length → ∀ a' w', St w0 own0 ((s.reb [(b, .it t (rest.eraseIdx i) (some (rest.getD i (0, t.zero))))] (· == b) noB).put o.dst
      (.tup [.one (.val .bool true), .one (.val (.int .i64) (rest.getD i (0, t.zero)).1), .one (.val t (rest.getD i (0, t.zero)).2)])) a' w' → next a' w') : o.wp P a w next Q := by
  obtain ⟨γ, hst⟩ := hst
  have hv := hst.opv x
  rw [hx] at hv
  obtain ⟨t2, m2, c2, r, hb2, hA, hcv⟩ := hv
  obtain ⟨bl, src, since, last, seen, g1, hF, g2, g3⟩ := hst.inv.boxes b _ hb
  rw [hA] at g1
  simp at g1
  subst g1
  rcases g3 with ⟨rfl, rfl, _⟩ | ⟨r', es, ck, rfl, hok, g4, g5, rfl, hall, g6, _⟩
  · have hrun : (Instr.next (.pointer (some ⟨r, 0, none⟩)) false o.type).run P w = .ok (.tuple #[.bool false]) w := by
      simp [Instr.next, getObj, Sem.run, g2]
    refine wp_value (ex_next ho hcv hrun) (h0 rfl _ _ ⟨γ, hst.put o.dst ⟨[.bool false], rfl, .cons ⟨_, rfl, rfl⟩ .nil⟩⟩)
  · have hlast : since ≤ last := by omega
    have hfl : (leftOf es seen).toList = es.toList.filter fun e => !seen.contains e.born := by
      unfold leftOf
      rw [Array.toList_filter]
    rcases run_next_at (P := P) w o.type r r' since last seen es since g2 g4 g5.lt hlast with ⟨e1, e2⟩ | ⟨e, e1, w1, e2, e3⟩
    · refine wp_value (ex_next ho hcv e2) (h0 ?_ _ _ ⟨γ, hst.put o.dst ⟨[.bool false], rfl, .cons ⟨_, rfl, rfl⟩ .nil⟩⟩)
      have := hall.length
      rw [← hfl] at this
      simp at this
      exact List.length_eq_zero_iff.1 (by omega)
    · rw [hfl] at e1
      obtain ⟨i, hi⟩ := List.getElem?_of_mem e1
      obtain ⟨z, hz, hrel⟩ := hall.get i e hi
      have hil : i < rest.length := getElem?_lt hz
      have hzd : rest.getD i (0, t.zero) = z := by simp [List.getD, hz]
      refine wp_value (ex_next ho hcv e3) (h1 i hil _ _ ?_)
      rw [hzd]
      have hmem : e ∈ es.toList := (List.mem_filter.1 e1).1
      have hlt : r < w.heap.size := (Array.getElem?_eq_some_iff.1 g2).1
      have hheap : w1.heap = w.heap ∧ w1.os = w.os ∧ w1.tape = w.tape ∧ w1.output = w.output := by
        rcases e2 with rfl | rfl <;> exact ⟨rfl, rfl, rfl, rfl⟩
      obtain ⟨q1, q2, q3, q4⟩ := hheap
      have hother : ∀ k, k ≠ r → (ChangeMaps.setBlock w1 r (.mapIter (some r') since (seen.push e.born) since)).heap[k]? = w.heap[k]? := by
        intro k hk
        show (w1.heap.setIfInBounds r _)[k]? = _
        rw [q1]
        exact Array.getElem?_setIfInBounds_ne (Ne.symm hk)
      have hrr : r' ≠ r := by
        intro h
        subst h
        exact hok.2.1 (mem_owned hb (by rw [hF]; simp))
      have hdead : (([] : List Nat).contains ·) = noB := contains_nil
      have hD : (([b] : List Nat).contains ·) = (· == b) := by funext k; exact Bool.eq_iff_iff.2 (by simp)
      obtain ⟨γ', hst', hoo⟩ := hst.turn2 (w' := ChangeMaps.setBlock w1 r (.mapIter (some r') since (seen.push e.born) since)) (b := b) (y := .it t (rest.eraseIdx i) (some z)) (ds := []) (dead := []) hb ⟨_, _, rfl⟩ (by simp) (by simp) q2 q3 q4
        (by show _ = (w1.heap.setIfInBounds r _).size; simp [q1])
        (fun k hk _ => hother k fun e => hk (by rw [hF, e]; simp)) (F' := [r]) (by simp) (fun k hk => .inl (by rw [hF]; exact hk)) (fun _ t n h => by simp [Box.hd] at h)
        (fun ok' bx' γ' h1 h2 _ hg => ⟨r, some r', since, since, seen.push e.born, by rw [hg]; exact hA, by rw [hg], by
            show (w1.heap.setIfInBounds r _)[r]? = _
            rw [q1]; simp [hlt], .inr ⟨r', es, since, rfl, h1 r' hok, by rw [hother r' hrr]; exact g4, g5, rfl, by
              have hfe : es.toList.filter (fun x => !(seen.push e.born).contains x.born) = (es.toList.filter fun x => !seen.contains x.born).eraseIdx i := by
                rw [← filter_ne_erase _ i e (List.Sublist.nodup (List.filter_sublist.map _) g5.nodup) hi, List.filter_filter]
                congr 1
                funext y
                rw [contains_push]
                cases seen.contains y.born <;> simp
              rw [hfe]
              exact (hall.imp fun e' _ x hx => hx.mono h2 h1).eraseIdx i, rfl, .inr ⟨z, e, rfl, hmem, hrel.mono h2 h1, by simp⟩⟩⟩)
      rw [hdead, hD] at hst' hoo
      refine ⟨γ', hst'.put o.dst ⟨[.bool true, e.key, e.val], rfl, .cons ⟨_, rfl, rfl⟩ ?_⟩⟩
      have hrel' := hrel.mono (w' := ChangeMaps.setBlock w1 r (.mapIter (some r') since (seen.push e.born) since)) (fun k hk => hother k fun e => by subst e; exact hk.2.1 (mem_owned hb (by rw [hF]; simp))) hoo
      have hh := hrel'.rel (bx := (s.reb [(b, .it t (rest.eraseIdx i) (some z))] (· == b) noB).bx) (γ := γ')
      exact .cons hh.1 (.cons hh.2 .nil)

/-! ### Slices that may be nil -/

theorem run_isNil {A : Option Addr} {n c E : Nat} (hu : P.underlying T = some (.slice E)) : (Op.equal T (.slice A n c) (.slice none 0 0)).run P w = .ok A.isNone w := by
  have : ∀ d, (Op.equalIn (d + 1) T (.slice A n c) (.slice none 0 0)).run P w = .ok A.isNone w := by
    intro d
    cases A <;> (simp only [Op.equalIn, Sem.run_bind, run_underlying hu, Result.andThen_ok]; rfl)
  exact this _

theorem ex_isNil {o : Oper} {op : BinOp} {x : Operand} {T2 : Nat} {A : Option Addr} {n c E : Nat} {a : Act} {neq : Bool} (ho : o.op = .binOp op T x (.const (.slice none 0 0)) T2) (hop : op = if neq then .neq else .eql)
    (hu : P.underlying T = some (.slice E)) (hx : a.eval x = .slice A n c) : (execOp a.eval o).run P w = .ok (.value (.bool (neq ^^ A.isNone))) w := by
  refine run_bin ho hx rfl ?_ ?_
  · cases neq <;> simp at hop <;> subst hop <;> rfl
  · cases neq <;> simp at hop <;> subst hop <;> simp [binOp, Act.eval, run_isNil hu]

theorem sim_isNil {o : Oper} {s : S} {op : BinOp} {x : Operand} {T2 : Nat} {l : L} {neq : Bool} {c must : Bool} (hte : TyOk P te) (ho : o.op = .binOp op T x (.const (.slice none 0 0)) T2) (hop : op = if neq then .neq else .eql)
    (ht : find te T = some (.sl t)) (hx : s.opv x = .w (.one l)) (hl : nilP s.bx l = some (c, must)) {w0 : World} {own0 : Ow} {a : Act} {w : World} (hst : St w0 own0 s a w) {next : Act → World → Prop} {Q : Exit → Act → World → Prop}
    (hn : ∀ b : Bool, (c = false → b = false) → (must = true → b = true) → ∀ a' w', St w0 own0 (s.put o.dst (vB (neq ^^ b))) a' w' → next a' w') : o.wp P a w next Q := by
  obtain ⟨γ, hst⟩ := hst
  have hv := hst.opv x
  rw [hx] at hv
  obtain ⟨E, hu, _⟩ := desc_sl (hte T _ ht)
  have key : ∃ (A : Option Addr) (n k : Nat), a.eval x = .slice A n k ∧ (c = false → A.isNone = false) ∧ (must = true → A.isNone = true) := by
    unfold nilP at hl
    split at hl
    · cases hl
      exact ⟨none, 0, 0, hv, by simp, by simp⟩
    · rename_i t' xs
      cases hl
      obtain ⟨cs, ⟨A, k, rfl, hc, hel⟩, hcv⟩ := hv
      refine ⟨A, List.length xs, k, hcv, fun h => ?_, by simp⟩
      cases hxs : (xs : List t'.den) with
      | nil => subst hxs; simp at h
      | cons y r =>
        obtain ⟨ad, _, hA, _⟩ := hel 0 (by rw [hxs]; simp)
        simp [hA]
    · rename_i b
      split at hl
      · rename_i t' xs hb
        cases hl
        obtain ⟨x2, t2, n2, hb2, hd2, hcv⟩ := hv
        rw [hb] at hb2
        cases hb2
        simp [Box.hd] at hd2
        obtain ⟨rfl, rfl⟩ := hd2
        refine ⟨_, _, _, hcv, fun h => ?_, by simp⟩
        rcases hst.inv.boxes b _ hb with ⟨rfl, _⟩ | ⟨bl, off, _, _, _, hA, _⟩
        · simp at h
        · simp [hA]
      · cases hl
    · cases hl
  obtain ⟨A, n, k, h1, h2, h3⟩ := key
  exact wp_value (ex_isNil ho hop hu h1) (hn A.isNone h2 h3 _ _ ⟨γ, hst.put o.dst (rel_bool _)⟩)

/-! ### Conversions, the lesser, the greater -/

theorem sim_convert {o : Oper} {s : S} {U : Nat} {k k0 k1 : IntKind} {x : Operand} {n : Int} (hte : TyOk P te) (ho : o.op = .convert T U x) (ht : find te T = some (.int k0)) (hu : find te U = some (.int k))
    (hx : s.opv x = .w (.one (.val (.int k1) n))) : OpSim P o s (s.put o.dst (vI k (k.wrap n))) := by
  refine OpSim.pureV fun w0 own0 γ a w hst => ?_
  have hv := hst.opv x
  rw [hx] at hv
  have hcv := int_of hv
  have h1 : P.underlying T = some (.int k0) := (hte T _ ht).desc
  have h2 : P.underlying U = some (.int k) := (hte U _ hu).desc
  refine ⟨.int k (k.wrap n), ?_, rel_int _ _⟩
  simp [execOp, ho, hcv, convert, run_underlying h1, run_underlying h2, Conv.intToInt]

theorem cells_int {ok : Nat → Prop} {k : IntKind} : ∀ {ys : List Int} {uys : List (List Value)} {Gy : List (List Nat)}, uys.length = ys.length → Gy.length = ys.length →
    (∀ i (h : i < ys.length) (h1 : i < uys.length) (h2 : i < Gy.length), Rdo w ok (.int k) ys[i] uys[i] Gy[i]) → uys.flatten = ys.map (Value.int k)
  | [], [], _, _, _, _ => rfl
  | y :: ys, u :: uys, G :: Gy, h1, h2, h => by
    have h0 := h 0 (by simp) (by simp) (by simp)
    have hr := cells_int (ys := ys) (uys := uys) (Gy := Gy) (by simpa using h1) (by simpa using h2) fun i a b c => by
      have := h (i + 1) (by simp; omega) (by simp; omega) (by simp; omega)
      simpa using this
    have h0' : u = [Value.int k y] := by
      have h0' : u = [Value.int k y] ∧ G = [] := by simpa [Rdo] using h0
      exact h0'.1
    simp [h0', hr]

theorem sim_bstr {o : Oper} {s : S} {U : Nat} {x : Operand} {ys : List Int} {ds : List Nat} (hte : TyOk P te) (ho : o.op = .convert T U x) (ht : find te T = some (.sl (.int .u8))) (hu : find te U = some .str)
    (hx : srcOf s (.int .u8) (s.opv x) = some (ys, ds)) : OpSim P o s (s.put o.dst (.w (.one (.val .str (bstr ys))))) := by
  refine OpSim.pureV fun w0 own0 γ a w hst => ?_
  obtain ⟨e, h1, h3⟩ := desc_sl (hte T _ ht)
  have h2 : P.underlying U = some .string := (hte U _ hu).desc
  have h4 : P.underlying e = some (.int .u8) := (hte e _ h3).desc
  obtain ⟨uys, Gy, hs, _⟩ := srcOf_rel (P := P) hst h1 (hst.opv x) hx
  obtain ⟨A, c, hval, hat⟩ := hs.at'
  have hcl := cells_int hs.ul hs.gl hs.el
  refine ⟨.string (bstr ys), ?_, ?_⟩
  · have hz : ∀ a1, A = some a1 → (loadCells a1 ys.length).run P w = .ok (ys.map (Value.int .u8)).toArray w := by
      intro a1 ha
      have := run_loadCells_list (P := P) w a1 (ys.map (Value.int .u8)) (fun j v hj => by
        obtain ⟨a2, e1, e2⟩ := hat j v (by rw [hcl]; exact hj)
        rw [ha] at e1
        cases e1
        exact e2)
      simpa using this
    have hr : (convert T U (.slice A ys.length c)).run P w = .ok (.string (bstr ys)) w := by
      rw [run_convert_bytes_string w T U e A ys.length c h1 h4 h2]
      cases A with
      | some a1 => exact run_bytesToString w a1 ys.length c ys (hz a1 rfl)
      | none =>
        have : ys = [] := by
          cases ys with
          | nil => rfl
          | cons y r =>
            obtain ⟨a1, e1, _⟩ := hat 0 (Value.int .u8 y) (by rw [hcl]; rfl)
            cases e1
        subst this
        simp [Conv.bytesToString, bstr, Sem.run_pure]
    simp [execOp, ho, hval, hr]
  · exact ⟨_, rfl, rfl⟩

theorem sim_minmax {o : Oper} {s : S} {x y : Operand} {ts : Array Nat} {k : IntKind} {p q : Int} {b : Builtin} (hb : b = .min ∨ b = .max) (ho : o.op = .call { callee := .builtin b, args := #[x, y], argTypes := ts })
    (hx : s.opv x = .w (.one (.val (.int k) p))) (hy : s.opv y = .w (.one (.val (.int k) q))) : OpSim P o s (s.put o.dst (vI k (if b = .min then (if q < p then q else p) else (if q > p then q else p)))) := by
  refine OpSim.pureV fun w0 own0 γ a w hst => ?_
  have hv := hst.opv x
  rw [hx] at hv
  have hcx := int_of hv
  have hv := hst.opv y
  rw [hy] at hv
  have hcy := int_of hv
  rcases hb with rfl | rfl
  · refine ⟨_, ?_, rel_int _ _⟩
    simp [execOp, ho, resolve, invoke, builtin, hcx, hcy, Builtin.min_, Builtin.min2]
  · refine ⟨_, ?_, rel_int _ _⟩
    simp [execOp, ho, resolve, invoke, builtin, hcx, hcy, Builtin.max_, Builtin.max2]

theorem sim_cap {o : Oper} {s : S} {x : Operand} {ts : Array Nat} (hte : TyOk P te) (ho : o.op = .call { callee := .builtin .cap, args := #[x], argTypes := ts }) (hts : ts[0]? = some T) (ht : find te T = some (.sl t))
    (hx : s.opv x = .w (.one .nil)) : OpSim P o s (s.put o.dst (vI .i64 0)) := by
  refine OpSim.pureV fun w0 own0 γ a w hst => ?_
  have hv := hst.opv x
  rw [hx] at hv
  have hcx : a.eval x = .slice none 0 0 := hv
  obtain ⟨E, hu, _⟩ := desc_sl (hte T _ ht)
  refine ⟨_, ?_, rel_int _ _⟩
  simp [execOp, ho, resolve, invoke, builtin, hcx, Builtin.cap_, hts, run_underlying hu, goInt]

end
end Go.Fl
/- Parts of rows that are written: copy, clear, append in place; parts of parts. -/
namespace Go.Fl
open Go

theorem lay_len {α : Type} {xs ys : List α} {p : Nat} (h : p + ys.length ≤ xs.length) : (lay xs p ys).length = xs.length := by
  simp [lay]; omega

theorem lay_get {α : Type} {xs ys : List α} {p : Nat} (h : p + ys.length ≤ xs.length) (k : Nat) : (lay xs p ys)[k]? = if k < p then xs[k]? else if k < p + ys.length then ys[k - p]? else xs[k]? := by
  have htl : (xs.take p).length = p := by simp; omega
  unfold lay
  by_cases h1 : k < p
  · rw [if_pos h1, List.append_assoc, List.getElem?_append_left (by omega), List.getElem?_take, if_pos h1]
  · rw [if_neg h1]
    by_cases h2 : k < p + ys.length
    · rw [if_pos h2, List.append_assoc, List.getElem?_append_right (by omega), htl, List.getElem?_append_left (by omega)]
    · rw [if_neg h2, List.getElem?_append_right (by simp; omega), List.getElem?_drop]
      simp only [List.length_append, htl]
      rw [show p + ys.length + (k - (p + ys.length)) = k from by omega]

theorem lay_nil {α : Type} (xs : List α) (p : Nat) : lay xs p [] = xs := by simp [lay]

theorem lay_flat {α : Type} {xs ys : List (List α)} {p sz : Nat} (hx : ∀ l ∈ xs, l.length = sz) (hy : ∀ l ∈ ys, l.length = sz) (h : p + ys.length ≤ xs.length) : (lay xs p ys).flatten = lay xs.flatten (p * sz) ys.flatten := by
  have h1 : (xs.take p).flatten.length = p * sz := by
    rw [flat_len fun l hl => hx l (List.mem_of_mem_take hl), List.length_take, Nat.min_eq_left (by omega)]
  have h2 : ys.flatten.length = ys.length * sz := flat_len hy
  have h3 : (xs.take (p + ys.length)).flatten.length = p * sz + ys.length * sz := by
    rw [flat_len fun l hl => hx l (List.mem_of_mem_take hl), List.length_take, Nat.min_eq_left (by omega), Nat.add_mul]
  have e1 : xs.flatten.take (p * sz) = (xs.take p).flatten := by
    conv => lhs; rw [← List.take_append_drop p xs, List.flatten_append]
    rw [← h1, List.take_left]
  have e2 : xs.flatten.drop (p * sz + ys.length * sz) = (xs.drop (p + ys.length)).flatten := by
    conv => lhs; rw [← List.take_append_drop (p + ys.length) xs, List.flatten_append]
    rw [← h3, List.drop_left]
  simp only [lay, List.flatten_append, h2, e1, e2]

section
variable {P : Program} {te : List (Nat × Ty)} {T : Nat} {t : Ty} {w : World}

/-- A stretch of an owned row is written. -/
theorem OwnG.lay {ok : Nat → Prop} {xs ys : List t.den} {A : Option Addr} {c : Nat} {F : List Nat} (h : OwnG w t.sz (Rdo w ok t) xs A c F) (hob : ∀ n ∈ F, ¬ ok n) (hno : t.noOwn = true)
    {uys : List (List Value)} {Gy : List (List Nat)} (hul : uys.length = ys.length) (hgl : Gy.length = ys.length) (hus : ∀ us ∈ uys, us.length = t.sz)
    (hy : ∀ i (h : i < ys.length) (h1 : i < uys.length) (h2 : i < Gy.length), Rdo w ok t ys[i] uys[i] Gy[i]) {p : Nat} (hp : p + ys.length ≤ xs.length) (h0 : 0 < ys.length) :
    ∃ (bl off : Nat) (cells : Array Value) (e : TypeId), A = some ⟨bl, off, none⟩ ∧ F = [bl] ∧ w.heap[bl]? = some (.cells cells e (0, 0)) ∧ off + p * t.sz + uys.flatten.length ≤ cells.size ∧
      ∀ (ok' : Nat → Prop), (∀ n, ok n → ok' n) →
        let w' := w.setRow bl (cells.toList.take (off + p * t.sz) ++ uys.flatten ++ cells.toList.drop (off + p * t.sz + uys.flatten.length)).toArray
        OwnG w' t.sz (Rdo w' ok' t) (Fl.lay xs p ys) A c F := by
  obtain ⟨uxs, Fx, hux, hfx, husx, helx, hcase⟩ := h.els
  rcases hcase with ⟨rfl, rfl, rfl⟩ | ⟨bl, off, cells, e, rfl, rfl, hh, hc, hfit, hcells⟩
  · simp only [List.length_nil] at hp; omega
  have hFx : Fx.flatten = [] := flat_nil fun l hl => by
    obtain ⟨i, hi, rfl⟩ := List.getElem_of_mem hl
    exact (Rdo.noOwn hno (helx i (by omega) (by omega) hi)).1
  rw [hFx]
  have hxl : uxs.flatten.length = xs.length * t.sz := by rw [flat_len husx, hux]
  have hyl : uys.flatten.length = ys.length * t.sz := by rw [flat_len hus, hul]
  have hpu : p + uys.length ≤ uxs.length := by omega
  have hfit' : off + p * t.sz + uys.flatten.length ≤ cells.size := by
    have h1 : (p + ys.length) * t.sz ≤ c * t.sz := Nat.mul_le_mul_right _ (by omega)
    rw [Nat.add_mul] at h1; omega
  have hpf : p * t.sz + uys.flatten.length ≤ uxs.flatten.length := by
    have h1 : (p + ys.length) * t.sz ≤ xs.length * t.sz := Nat.mul_le_mul_right _ hp
    rw [Nat.add_mul] at h1; omega
  refine ⟨bl, off, cells, e, rfl, rfl, hh, hfit', fun ok' hoo => ?_⟩
  intro w'
  have hoth : ∀ n, n ≠ bl → w'.heap[n]? = w.heap[n]? := fun n hn => setRow_heapEq _ _ _ hn
  have hto : OkTo w ok w' ok' := fun n hn => ⟨hoo n hn, hoth n fun e => hob bl (by simp) (e ▸ hn)⟩
  have hrep : (List.replicate (Fl.lay xs p ys).length ([] : List Nat)).flatten = [] := flat_nil fun l hl => (List.mem_replicate.1 hl).2
  rw [← hrep]
  refine OwnG.make (uss := Fl.lay uxs p uys) (setRow_heap w bl cells _ e _ hh) (by rw [lay_len hpu, lay_len hp, hux]) (by simp) ?_ ?_ (by rw [lay_len hp]; exact hc) ?_ ?_
  · intro us hm
    simp only [Fl.lay, List.mem_append] at hm
    rcases hm with (hm | hm) | hm
    · exact husx us (List.mem_of_mem_take hm)
    · exact hus us hm
    · exact husx us (List.mem_of_mem_drop hm)
  · intro i h1 h2 h3
    have g1 : (Fl.lay xs p ys)[i]? = some (Fl.lay xs p ys)[i] := List.getElem?_eq_getElem h1
    have g2 : (Fl.lay uxs p uys)[i]? = some (Fl.lay uxs p uys)[i] := List.getElem?_eq_getElem h2
    generalize (Fl.lay xs p ys)[i] = x at g1 ⊢
    generalize (Fl.lay uxs p uys)[i] = us at g2 ⊢
    rw [lay_get hp] at g1
    rw [lay_get hpu, hul] at g2
    rw [List.getElem_replicate]
    have hX : xs[i]? = some x → uxs[i]? = some us → Rdo w' ok' t x us [] := by
      intro e1 e2
      obtain ⟨q1, e1⟩ := List.getElem?_eq_some_iff.1 e1
      obtain ⟨q2, e2⟩ := List.getElem?_eq_some_iff.1 e2
      have hr := helx i q1 q2 (by omega)
      rw [(Rdo.noOwn hno hr).1, e1, e2] at hr
      exact hr.mono hto (by simp)
    have hY : ys[i - p]? = some x → uys[i - p]? = some us → Rdo w' ok' t x us [] := by
      intro e1 e2
      obtain ⟨q1, e1⟩ := List.getElem?_eq_some_iff.1 e1
      obtain ⟨q2, e2⟩ := List.getElem?_eq_some_iff.1 e2
      have hr := hy _ q1 q2 (by omega)
      rw [(Rdo.noOwn hno hr).1, e1, e2] at hr
      exact hr.mono hto (by simp)
    split at g1
    · rename_i q; rw [if_pos q] at g2; exact hX g1 g2
    · rename_i q
      rw [if_neg q] at g2
      split at g1
      · rename_i q; rw [if_pos q] at g2; exact hY g1 g2
      · rename_i q; rw [if_neg q] at g2; exact hX g1 g2
  · simp only [List.size_toArray, List.length_append, List.length_take, List.length_drop, Array.length_toList]; omega
  · intro j v hj
    rw [lay_flat husx hus hpu, lay_get hpf] at hj
    rw [splice_at hfit']
    split at hj
    · rename_i q; rw [if_pos (by omega)]; exact hcells j v hj
    · rename_i q
      rw [if_neg (by omega)]
      split at hj
      · rename_i q'; rw [if_pos (by omega), show off + j - (off + p * t.sz) = j - p * t.sz by omega]; exact hj
      · rename_i q'; rw [if_neg (by omega)]; exact hcells j v hj

theorem Hs.noOwn {w' : World} {g : Gh} {xs : List t.den} (hno : t.noOwn = true) : Hs w w' g (.row t xs) := by
  intro t' n' hd' ad' _ k q te2 _ hq
  simp [Box.hd] at hd'
  obtain ⟨rfl, rfl⟩ := hd'
  rw [noOwn_slAt hno] at hq
  cases hq

/-- A row is written over a stretch, its handles stay. -/
theorem StG.lay {w0 : World} {own0 : Ow} {s : S} {γ : Gam} {a : Act} (hst : StG w0 own0 s γ a w) {r : Nat} {xs ys : List t.den} (hb : find s.bx r = some (.row t xs)) (hno : t.noOwn = true)
    {uys : List (List Value)} {Gy : List (List Nat)} (hul : uys.length = ys.length) (hgl : Gy.length = ys.length) (hus : ∀ us ∈ uys, us.length = t.sz)
    (hy : ∀ i (h : i < ys.length) (h1 : i < uys.length) (h2 : i < Gy.length), Rdo w (okOf w s.bx γ) t ys[i] uys[i] Gy[i]) {p : Nat} (hp : p + ys.length ≤ xs.length) (h0 : 0 < ys.length) :
    ∃ (bl off : Nat) (cells : Array Value) (e : TypeId), (γ r).A = some ⟨bl, off, none⟩ ∧ w.heap[bl]? = some (.cells cells e (0, 0)) ∧ off + p * t.sz + uys.flatten.length ≤ cells.size ∧
      ∃ γ', StG w0 own0 (s.reb [(r, .row t (Fl.lay xs p ys))] ([r].contains ·) (([] : List Nat).contains ·)) γ' a (w.setRow bl (cells.toList.take (off + p * t.sz) ++ uys.flatten ++ cells.toList.drop (off + p * t.sz + uys.flatten.length)).toArray) ∧
        (γ' r).A = (γ r).A ∧ (γ' r).c = (γ r).c ∧ find (s.reb [(r, .row t (Fl.lay xs p ys))] ([r].contains ·) (([] : List Nat).contains ·)).bx r = some (.row t (Fl.lay xs p ys)) := by
  have hbox : OwnG w t.sz (Rdo w (okOf w s.bx γ) t) xs (γ r).A (γ r).c (γ r).F := hst.inv.boxes r _ hb
  obtain ⟨bl, off, cells, e, hA, hF, hh, hfit, hown⟩ := OwnG.lay hbox (fun n hn h => h.2.1 (mem_owned hb hn)) hno hul hgl hus hy hp h0
  refine ⟨bl, off, cells, e, hA, hh, hfit, ?_⟩
  have hblF : bl ∈ (γ r).F := by rw [hF]; simp
  let w' := w.setRow bl (cells.toList.take (off + p * t.sz) ++ uys.flatten ++ cells.toList.drop (off + p * t.sz + uys.flatten.length)).toArray
  have hreb := hst.reb (w' := w') (nb := [(r, .row t (Fl.lay xs p ys))]) (D := ([r].contains ·)) (dead := (([] : List Nat).contains ·)) (g := fun _ => γ r) rfl rfl rfl (by simp [w'])
    (fun n _ hn => setRow_heapEq _ _ _ fun e => hn (by rw [e]; exact owned_contains (by simpa using ⟨_, hb⟩) (mem_FsOf.2 ⟨r, by simp, hblF⟩)))
    (by simp) (fun p hp => by simp at hp; subst hp; exact .inl (by simp)) (by simpa [owned] using box_nodup hst.inv.apart hb)
    (fun n hn => by
      have hn' : n ∈ (γ r).F := by simpa [owned] using hn
      exact ⟨by simpa [w'] using hst.inv.below n (mem_owned hb hn'), .inr (owned_contains (by simpa using ⟨_, hb⟩) (mem_FsOf.2 ⟨r, by simp, hn'⟩))⟩)
    (fun k z _ hkD hz => by
      have hkr : k = r := by simpa using hkD
      subst hkr
      rw [hb] at hz
      cases hz
      exact ⟨.row t (Fl.lay xs p ys), by simp [find], by simp [Box.like, Box.hd, lay_len hp], rfl, fun _ => rfl, fun _ => Hs.noOwn hno⟩)
    (fun hok hwk hpp k z hk => by
      simp only [find_cons] at hk
      split at hk
      · rename_i hkb
        subst hkb
        cases hk
        have : over [(r, Box.row t (Fl.lay xs p ys))] (fun _ => γ r) γ r = γ r := over_new (x := .row t (Fl.lay xs p ys)) (by simp [find])
        simp only [BoxRel, this]
        exact hown _ hok
      · simp [find] at hk)
  have hg : over [(r, Box.row t (Fl.lay xs p ys))] (fun _ => γ r) γ r = γ r := over_new (x := .row t (Fl.lay xs p ys)) (by simp [find])
  exact ⟨_, hreb.1, congrArg Gh.A hg, congrArg Gh.c hg, by simp [S.reb, find]⟩

end
end Go.Fl
namespace Go.Fl
open Go
section
variable {P : Program} {te : List (Nat × Ty)} {T : Nat} {t : Ty} {w : World}

theorem vw_of {v : V} {p : Nat × Nat × Nat} (h : v.vw? = some p) : v = .w (.one (.vw p.1 p.2.1 p.2.2)) := by
  unfold V.vw? at h
  split at h
  · cases h; rfl
  · cases h

/-- What a row, or a part of it, is. -/
theorem partOf_rel {w0 : World} {own0 : Ow} {s : S} {γ : Gam} {a : Act} (hst : StG w0 own0 s γ a w) {x : Operand} {r lo n : Nat} {xs : List t.den} (hp : partOf s.bx (s.opv x) = some (r, lo, n)) (hb : find s.bx r = some (.row t xs)) :
    lo + n ≤ xs.length ∧ PartHd (γ r).A (γ r).c t.sz lo n (a.eval x) := by
  have rx := hst.opv x
  unfold partOf at hp
  split at hp
  · rename_i b hx
    split at hp
    · rename_i te' ys hb2
      cases hp
      rw [hx] at rx
      rw [hb] at hb2
      cases hb2
      obtain ⟨x2, t2, n2, hb3, hd2, hcv⟩ := rx
      rw [hb] at hb3
      cases hb3
      simp [Box.hd] at hd2
      obtain ⟨rfl, rfl⟩ := hd2
      exact ⟨by omega, .inl ⟨rfl, hcv⟩⟩
    · cases hp
  · rename_i b lo' n' hx
    cases hp
    rw [hx] at rx
    obtain ⟨x2, t2, n2, hb3, hd2, hle, hcv⟩ := rx
    rw [hb] at hb3
    cases hb3
    simp [Box.hd] at hd2
    obtain ⟨rfl, rfl⟩ := hd2
    exact ⟨hle, hcv⟩
  · cases hp

/-- Where a part that is not empty lies. -/
theorem PartHd.at {A : Option Addr} {c sz lo n : Nat} {cv : Value} (h : PartHd A c sz lo n cv) {bl off : Nat} (hA : A = some ⟨bl, off, none⟩) (h0 : 0 < n) : ∃ c', cv = .slice (some ⟨bl, off + lo * sz, none⟩) n c' := by
  subst hA
  rcases h with ⟨rfl, rfl⟩ | ⟨a, ha, k, h1, h2, rfl⟩
  · exact ⟨c, by simp⟩
  · cases ha
    exact ⟨k - lo, by rw [if_neg (by omega)]⟩

theorem Ty.flat_noMp : ∀ {t : Ty}, t.flat = true → t.noMp = true := by
  intro t
  induction t with
  | pair a b iha ihb =>
    intro h
    simp only [Ty.flat, Bool.and_eq_true] at h
    simp [Ty.noMp, iha h.1, ihb h.2]
  | mp t _ => intro h; simp [Ty.flat] at h
  | hnd f => intro h; simp [Ty.flat] at h
  | _ => intro _; rfl

theorem flat_rep {α : Type} (z : α) : ∀ n : Nat, (List.replicate n [z]).flatten = List.replicate n z
  | 0 => rfl
  | n + 1 => by rw [List.replicate_succ, List.flatten_cons, flat_rep z n, List.replicate_succ]; rfl

theorem ex_copy {o : Oper} {x y : Operand} {U : Nat} {ρ : Operand → Value} {u v r : Value} {w' : World} (ho : o.op = .call { callee := .builtin .copy, args := #[x, y], argTypes := #[T, U] }) (hx : ρ x = u) (hy : ρ y = v)
    (hr : (Builtin.copy_ #[T, U] o.type #[u, v]).run P w = .ok r w') : (execOp ρ o).run P w = .ok (.value r) w' := by
  simp [execOp, ho, resolve, invoke, builtin, hx, hy, hr]

theorem ex_clear {o : Oper} {x : Operand} {ρ : Operand → Value} {u r : Value} {w' : World} (ho : o.op = .call { callee := .builtin .clear, args := #[x], argTypes := #[T] }) (hx : ρ x = u)
    (hr : (Builtin.clear_ #[T] o.type #[u]).run P w = .ok r w') : (execOp ρ o).run P w = .ok (.value r) w' := by
  simp [execOp, ho, resolve, invoke, builtin, hx, hr]

/-- Nothing is written. -/
theorem StG.lay0 {w0 : World} {own0 : Ow} {s : S} {γ : Gam} {a : Act} (hst : StG w0 own0 s γ a w) {r : Nat} {xs : List t.den} (hb : find s.bx r = some (.row t xs)) (hno : t.noOwn = true) :
    ∃ γ', StG w0 own0 (s.reb [(r, .row t xs)] ([r].contains ·) (([] : List Nat).contains ·)) γ' a w ∧ (γ' r).A = (γ r).A ∧ (γ' r).c = (γ r).c ∧
      find (s.reb [(r, .row t xs)] ([r].contains ·) (([] : List Nat).contains ·)).bx r = some (.row t xs) := by
  have hbox : OwnG w t.sz (Rdo w (okOf w s.bx γ) t) xs (γ r).A (γ r).c (γ r).F := hst.inv.boxes r _ hb
  have hreb := hst.reb (w' := w) (nb := [(r, .row t xs)]) (D := ([r].contains ·)) (dead := (([] : List Nat).contains ·)) (g := fun _ => γ r) rfl rfl rfl (Nat.le_refl _)
    (fun n _ hn => rfl)
    (by simp) (fun p hp => by simp at hp; subst hp; exact .inl (by simp)) (by simpa [owned] using box_nodup hst.inv.apart hb)
    (fun n hn => by
      have hn' : n ∈ (γ r).F := by simpa [owned] using hn
      exact ⟨hst.inv.below n (mem_owned hb hn'), .inr (owned_contains (by simpa using ⟨_, hb⟩) (mem_FsOf.2 ⟨r, by simp, hn'⟩))⟩)
    (fun k z _ hkD hz => by
      have hkr : k = r := by simpa using hkD
      subst hkr
      rw [hb] at hz
      cases hz
      exact ⟨.row t xs, by simp [find], by simp [Box.like, Box.hd], rfl, fun _ => rfl, fun _ => Hs.noOwn hno⟩)
    (fun hok hwk hpp k z hk => by
      simp only [find_cons] at hk
      split at hk
      · rename_i hkb
        subst hkb
        cases hk
        have : over [(r, Box.row t xs)] (fun _ => γ r) γ r = γ r := over_new (x := .row t xs) (by simp [find])
        simp only [BoxRel, this]
        exact OwnG.mono (OkTo.of (fun _ _ => rfl) hok) (fun _ _ => rfl) hbox
      · simp [find] at hk)
  have hg : over [(r, Box.row t xs)] (fun _ => γ r) γ r = γ r := over_new (x := .row t xs) (by simp [find])
  exact ⟨_, hreb.1, congrArg Gh.A hg, congrArg Gh.c hg, by simp [S.reb, find]⟩

theorem Srcs.take {ok : Nat → Prop} {tx : TypeId} {x : Value} {ys : List t.den} {uys : List (List Value)} {Gy : List (List Nat)} (h : Srcs P w ok t tx x ys uys Gy) (k : Nat) :
    (uys.take k).length = (ys.take k).length ∧ (Gy.take k).length = (ys.take k).length ∧ (∀ us ∈ uys.take k, us.length = t.sz) ∧
      ∀ i (h : i < (ys.take k).length) (h1 : i < (uys.take k).length) (h2 : i < (Gy.take k).length), Rdo w ok t (ys.take k)[i] (uys.take k)[i] (Gy.take k)[i] := by
  have a1 := h.ul
  have a2 := h.gl
  refine ⟨by simp [a1], by simp [a2], fun us hm => h.us us (List.mem_of_mem_take hm), fun i h1 h2 h3 => ?_⟩
  simp only [List.getElem_take]
  simp only [List.length_take] at h1 h2 h3
  exact h.el i (by omega) (by omega) (by omega)

theorem sim_copy {E : Env} {o : Oper} {s : S} {x y : Operand} {U : Nat} {t' : Ty} {e : Ef} (hte : TyOk P E.te) (ho : o.op = .call { callee := .builtin .copy, args := #[x, y], argTypes := #[T, U] })
    (hU : find E.te U = some (.sl t')) (h : (copyE E T s (s.opv x) (s.opv y)).can e) : OpSim P o s (s.app o.dst e) := by
  unfold copyE at h
  split at h
  · rename_i r lo n t1 hpx ht
    split at h
    · rename_i te' xs hb
      split at h
      · rename_i hc
        obtain ⟨het, hno, hone⟩ := hc
        split at h
        · rename_i ys hsrc
          simp only [Tr.can] at h
          subst h
          intro w0 own0 a w ⟨γ, hst⟩ next Q hn
          rw [app_eq] at hn
          have hts : te'.sz = t1.sz := by rcases het with rfl | rfl <;> rfl
          obtain ⟨ei, hu, hE⟩ := desc_sl (hte T _ ht)
          obtain ⟨e', hu', _⟩ := desc_sl (hte U _ hU)
          obtain ⟨i, hi, hsz, hby, z, hz, hzz⟩ := (hte ei _ hE).info
          have hsize : (P.info? ei).map (·.size) = some 1 := by simp [hi, hsz, ← hts, hone]
          obtain ⟨uys, Gy, hs, _⟩ := srcOf_rel (P := P) hst hu' (hst.opv y) hsrc
          obtain ⟨hle, hhd⟩ := partOf_rel hst hpx hb
          obtain ⟨A, c, hval, hat⟩ := hs.at'
          obtain ⟨b1, b2, b3, b4⟩ := hs.take n
          have hlk : (ys.take n).length = min ys.length n := by simp [Nat.min_comm]
          have hcl : (uys.take n).flatten.length = min ys.length n := by rw [flat_len b3, b1, hone, Nat.mul_one, hlk]
          rcases Nat.eq_zero_or_pos (min ys.length n) with h0 | h0
          · have hnil : ys.take n = [] := List.length_eq_zero_iff.1 (by rw [hlk]; exact h0)
            rw [hnil, lay_nil] at hn
            obtain ⟨γ', hst', _⟩ := hst.lay0 hb hno
            obtain ⟨d, cd, hd⟩ : ∃ d cd, a.eval x = .slice d n cd := by
              rcases hhd with ⟨_, h⟩ | ⟨_, _, _, _, _, h⟩ <;> exact ⟨_, _, h⟩
            rw [h0] at hn
            exact wp_value (ex_copy ho hd hval (run_copy_none w T U o.type ei d A n cd ys.length c hu hsize h0)) (hn _ _ ⟨γ', hst'.put o.dst (rel_int _ _)⟩)
          · obtain ⟨bl, off, cells, e2, hA, hh, hfit, γ', hst', _⟩ := hst.lay hb hno b1 b2 b3 b4 (p := lo) (by rw [hlk]; omega) (by rw [hlk]; exact h0)
            obtain ⟨cd, hd⟩ := hhd.at hA (by omega)
            obtain ⟨a1, rfl, _⟩ : ∃ a1, A = some a1 ∧ True := by
              have hl : 0 < uys.flatten.length := by
                rw [flat_len hs.us, hs.ul, hone]; omega
              obtain ⟨a1, h1, _⟩ := hat 0 _ (List.getElem?_eq_getElem hl)
              exact ⟨a1, h1, trivial⟩
            have hpre : ∀ (j : Nat) (v : Value), (uys.take n).flatten[j]? = some v → uys.flatten[j]? = some v := by
              intro j v hj
              rw [← List.take_append_drop n uys, List.flatten_append, List.getElem?_append_left (getElem?_lt hj)]
              exact hj
            have hat2 : ∀ (j : Nat) (v : Value), (uys.take n).flatten[j]? = some v → w.cell? (a1.add j) = some v := by
              intro j v hj
              obtain ⟨a2, h1, h2⟩ := hat j v (hpre j v hj)
              cases h1
              exact h2
            have hrun := run_copy_row (P := P) w T U o.type ei bl (off + lo * te'.sz) n cd a1 ys.length c cells e2 (uys.take n).flatten hu hsize hh hcl
              hat2 hfit (els_one b1 b2 b4)
            rw [hcl] at hrun
            rw [hcl] at hst'
            exact wp_value (ex_copy ho hd hval hrun) (hn _ _ ⟨γ', hst'.put o.dst (rel_int _ _)⟩)
        · exact h.elim
      · exact h.elim
    · exact h.elim
  · exact h.elim

theorem sim_clear {E : Env} {o : Oper} {s : S} {x : Operand} {e : Ef} (hte : TyOk P E.te) (ho : o.op = .call { callee := .builtin .clear, args := #[x], argTypes := #[T] })
    (h : (clearE E T s (s.opv x)).can e) : OpSim P o s (s.app o.dst e) := by
  unfold clearE at h
  split at h
  · rename_i r lo n t1 hpx ht
    split at h
    · rename_i te' xs hb
      split at h
      · rename_i hc
        obtain ⟨rfl, hfl, hone⟩ := hc
        simp only [Tr.can] at h
        subst h
        intro w0 own0 a w ⟨γ, hst⟩ next Q hn
        rw [app_eq] at hn
        have hno := Ty.flat_noOwn hfl
        obtain ⟨ei, hu, hE⟩ := desc_sl (hte T _ ht)
        obtain ⟨i, hi, hsz, hby, z, hz, hzz⟩ := (hte ei _ hE).info
        obtain ⟨hle, hhd⟩ := partOf_rel hst hpx hb
        rcases Nat.eq_zero_or_pos n with h0 | h0
        · subst h0
          rw [List.replicate_zero, lay_nil] at hn
          obtain ⟨γ', hst', _⟩ := hst.lay0 hb hno
          obtain ⟨d, cd, hd⟩ : ∃ d cd, a.eval x = .slice d 0 cd := by
            rcases hhd with ⟨_, h⟩ | ⟨_, _, _, _, _, h⟩ <;> exact ⟨_, _, h⟩
          have hrun : (Builtin.clear_ #[T] o.type #[.slice d 0 cd]).run P w = .ok (.tuple #[]) w := by
            cases d <;> simp [Builtin.clear_, run_underlying hu]
          exact wp_value (ex_clear ho hd hrun) (hn _ _ ⟨γ', hst'.put o.dst (VRel.un _)⟩)
        · have hzl := zeroCells_len te'
          obtain ⟨z0, hz0⟩ : ∃ z0, zeroCells te' = [z0] := by
            rw [hone] at hzl
            match zeroCells te', hzl with
            | [z0], _ => exact ⟨z0, rfl⟩
          have hnm : te'.noMp = true := Ty.flat_noMp hfl
          have hr := zeroCells_rdo (w := w) (ok := okOf w s.bx γ) te' hnm
          rw [hz0] at hr
          have hz1 : z0.oneCell' = true := hr.oneCell z0 (by simp)
          have hone' : te'.one = true ∨ te'.sz = 1 := .inr hone
          obtain ⟨bl, off, cells, e2, hA, hh, hfit, γ', hst', _⟩ := hst.lay (ys := List.replicate n te'.zero) (uys := List.replicate n [z0]) (Gy := List.replicate n []) hb hno (by simp) (by simp)
            (fun us hm => by rw [(List.mem_replicate.1 hm).2, hone]; rfl) (fun i h1 h2 h3 => by simpa using hr) (p := lo) (by simpa using hle) (by simpa using h0)
          obtain ⟨cd, hd⟩ := hhd.at hA h0
          rw [flat_rep] at hst' hfit
          have hzc : z.cells = #[z0] := by
            rw [hzz, pack_cells _ hzl (fun _ => by rw [hz0]; simpa using hz1), hz0]
          have hst2 := run_storeCells_at P bl (off + lo * te'.sz) e2 (List.replicate n z0) 0 cells w hh (by simpa using hfit) (fun v hv => by rw [(List.mem_replicate.1 hv).2]; exact hz1)
          have hzcs : (Builtin.zeroCells z.cells n).toList = List.replicate n z0 := by
            rw [hzc]
            simp [Builtin.zeroCells]
            apply List.ext_getElem
            · simp
            · intro i h1 h2
              simp [Nat.mod_one]
          have hrun : (Builtin.clear_ #[T] o.type #[.slice (some ⟨bl, off + lo * te'.sz, none⟩) n cd]).run P w = .ok (.tuple #[]) (w.setRow bl (cells.toList.take (off + lo * te'.sz) ++ List.replicate n z0 ++ cells.toList.drop (off + lo * te'.sz + (List.replicate n z0).length)).toArray) := by
            obtain ⟨m, rfl⟩ : ∃ m, n = m + 1 := ⟨n - 1, by omega⟩
            simp only [Nat.add_zero] at hst2
            simp [Builtin.clear_, run_underlying hu, zeroValue, typeInfo, hi, hz, hzcs, hst2]
          exact wp_value (ex_clear ho hd hrun) (hn _ _ ⟨γ', hst'.put o.dst (VRel.un _)⟩)
      · exact h.elim
    · exact h.elim
  · exact h.elim

theorem sim_appendV {E : Env} {o : Oper} {s : S} {x y : Operand} {U : Nat} {t' : Ty} {e : Ef} {p : Nat × Nat × Nat} (hte : TyOk P E.te) (ho : o.op = .call { callee := .builtin .append, args := #[x, y], argTypes := #[T, U] })
    (hU : find E.te U = some (.sl t')) (hx : s.opv x = .w (.one (.vw p.1 p.2.1 p.2.2))) (h : (appendV E T s p (s.opv y)).can e) : OpSim P o s (s.app o.dst e) := by
  obtain ⟨r, lo, n⟩ := p
  unfold appendV at h
  split at h
  · rename_i te' xs t1 hb ht
    split at h
    · rename_i hc
      obtain ⟨het, hno, hlo⟩ := hc
      simp only at hlo hb hx
      subst hlo
      split at h
      · rename_i ys hsrc
        obtain ⟨hl, h⟩ := tr_tst h
        have hl : n + ys.length ≤ xs.length := by simpa using hl
        simp only [Tr.can] at h
        subst h
        intro w0 own0 a w ⟨γ, hst⟩ next Q hn
        rw [app_eq] at hn
        have hts : te'.sz = t1.sz := by rcases het with rfl | rfl <;> rfl
        obtain ⟨ei, hu, hE⟩ := desc_sl (hte T _ ht)
        obtain ⟨e', hu', _⟩ := desc_sl (hte U _ hU)
        obtain ⟨i, hi, hsz, hby, z, hz, hzz⟩ := (hte ei _ hE).info
        obtain ⟨uys, Gy, hs, _⟩ := srcOf_rel (P := P) hst hu' (hst.opv y) hsrc
        have hpx : partOf s.bx (s.opv x) = some (r, 0, n) := by rw [hx]; rfl
        obtain ⟨hle, hhd⟩ := partOf_rel hst hpx hb
        have hbox : OwnG w te'.sz (Rdo w (okOf w s.bx γ) te') xs (γ r).A (γ r).c (γ r).F := hst.inv.boxes r _ hb
        have hcap := own_cap hbox
        have hval : a.eval x = .slice (γ r).A n (γ r).c := by
          rcases hhd with ⟨_, h⟩ | ⟨ad, hA, k, h1, h2, h⟩
          · exact h
          · rw [h, hA, h2]
            rcases hcap.2 with h3 | ⟨bl, off, h3⟩
            · rw [h3]; simp
            · rw [hA] at h3
              cases h3
              simp
        have hres : PartHd (γ r).A (γ r).c te'.sz 0 (n + ys.length) (.slice (γ r).A (n + ys.length) (γ r).c) := .inl ⟨rfl, rfl⟩
        rcases Nat.eq_zero_or_pos ys.length with h0 | h0
        · have hnil : ys = [] := List.length_eq_zero_iff.1 h0
          subst hnil
          rw [lay_nil] at hn
          obtain ⟨γ', hst', gA, gc, gf⟩ := hst.lay0 hb hno
          have huys : uys = [] := List.length_eq_zero_iff.1 (by simpa using hs.ul)
          subst huys
          refine wp_value (ex_append ho hval rfl (run_append_none T U o.type ei i hu hi _ _ _ _ (by rw [hsz, ← hts]; exact hs.src) (by omega))) (hn _ _ ⟨γ', hst'.put o.dst ?_⟩)
          exact ⟨_, te', _, gf, rfl, by simpa using hle, by rw [gA, gc]; exact .inl ⟨rfl, by simp⟩⟩
        · obtain ⟨bl, off, cells, e2, hA, hh, hfit, γ', hst', gA, gc, gf⟩ := hst.lay hb hno hs.ul hs.gl hs.us hs.el (p := n) hl h0
          have hval' := hval
          rw [hA] at hval'
          have hrun := run_append_room_row (P := P) (w := w) T U o.type ei e2 i hu hi bl off n (γ r).c cells hh (a.eval y) ys.length uys.flatten (by rw [hsz, ← hts]; exact hs.src) (by omega) (by rw [hsz, ← hts]; exact hfit)
          rw [hsz, ← hts] at hrun
          refine wp_value (ex_append ho hval' rfl hrun) (hn _ _ ⟨γ', hst'.put o.dst ?_⟩)
          exact ⟨_, te', _, gf, rfl, by rw [lay_len hl]; omega, by rw [gA, gc, hA]; exact .inl ⟨rfl, rfl⟩⟩
      · exact h.elim
    · exact h.elim
  · exact h.elim

theorem run_slice_room {w0 : World} {own0 : Ow} {s : S} {γ : Gam} {a : Act} (hst : StG w0 own0 s γ a w) {E : Nat} (hu : P.underlying T = some (.slice E)) (hz : (sizeOf E).run P w = .ok t.sz w)
    {lo hi : Option Operand} {A : Option Addr} {n c l m d : Nat} (hl : BndIs s lo 0 l) (hh : BndIs s hi d m) (hd : hi = none → d = n) (h1 : l ≤ m) (h2 : m ≤ c) :
    (Instr.sliceAt T (.slice A n c) (lo.map a.eval) (hi.map a.eval) none).run P w = .ok (.slice (if c = l then A else A.map (·.add (l * t.sz))) (m - l) (c - l)) w := by
  rcases hl.val hst with ⟨rfl, rfl⟩ | ⟨k, hl⟩ <;> rcases hh.val hst with ⟨rfl, rfl⟩ | ⟨k', hh⟩
  · simp [Instr.sliceAt, Instr.slice, run_underlying hu, Instr.sliceBounds, hz, hd rfl]
  · simp [Instr.sliceAt, Instr.slice, run_underlying hu, Instr.sliceBounds, hz, hh, run_sliceBound, h2]
  · have := hd rfl
    subst this
    simp [Instr.sliceAt, Instr.slice, run_underlying hu, Instr.sliceBounds, hz, hl, run_sliceBound, h1]
  · simp [Instr.sliceAt, Instr.slice, run_underlying hu, Instr.sliceBounds, hz, hl, hh, run_sliceBound, h1, h2]

theorem sim_sliceV {o : Oper} {s : S} {E : Env} {x : Operand} {lo hi : Option Operand} {e : Ef} {p : Nat × Nat × Nat} (hte : TyOk P E.te) (ho : o.op = .slice T x lo hi none) (hx : s.opv x = .w (.one (.vw p.1 p.2.1 p.2.2)))
    (h : (sliceV E T s p lo hi).can e) : OpSim P o s (s.app o.dst e) := by
  obtain ⟨r, q, n⟩ := p
  unfold sliceV at h
  split at h
  · rename_i te' xs t1 hb ht
    split at h
    · rename_i hc
      obtain ⟨het, hlo⟩ := hc
      simp only at hlo hb hx
      subst hlo
      obtain ⟨l, m, h1, h2, h3, h4, h5⟩ := cutB_can h
      cases h5
      rw [app_put]
      refine OpSim.pureV fun w0 own0 γ a w hst => ?_
      have hts : te'.sz = t1.sz := by rcases het with rfl | rfl <;> rfl
      obtain ⟨E1, hu, hE⟩ := desc_sl (hte T _ ht)
      have hpx : partOf s.bx (s.opv x) = some (r, 0, n) := by rw [hx]; rfl
      obtain ⟨hle, hhd⟩ := partOf_rel hst hpx hb
      have hbox : OwnG w te'.sz (Rdo w (okOf w s.bx γ) te') xs (γ r).A (γ r).c (γ r).F := hst.inv.boxes r _ hb
      have hcap := own_cap hbox
      have hval : a.eval x = .slice (γ r).A n (γ r).c := by
        rcases hhd with ⟨_, h⟩ | ⟨ad, hA, k, h1, h2, h⟩
        · exact h
        · rw [h, hA, h2]
          rcases hcap.2 with h3 | ⟨bl, off, h3⟩
          · rw [h3]; simp
          · rw [hA] at h3
            cases h3
            simp
      have hm : m ≤ xs.length := by
        cases hi with
        | none => simp only at h2; omega
        | some _ => exact h2
      have hrun := run_slice_room (t := t1) hst hu (hte E1 _ hE).size h3 h4 (n := n) (by rintro rfl; rfl) h1 (Nat.le_trans hm hcap.1) (A := (γ r).A)
      rw [← hts] at hrun
      exact ⟨_, ex_slice ho hval hrun, _, te', _, hb, rfl, by omega, part_hd h1 hm hcap.1 hcap.2⟩
    · exact h.elim
  · exact h.elim

theorem sim_slice3 {o : Oper} {s : S} {E : Env} {x lo hi mx : Operand} {e : Ef} (hte : TyOk P E.te) (ho : o.op = .slice T x (some lo) (some hi) (some mx))
    (h : (slice3E E T s (s.opv x) (s.opv lo) (s.opv hi) (s.opv mx)).can e) : OpSim P o s (s.app o.dst e) := by
  unfold slice3E at h
  split at h
  · rename_i r t1 k1 l k2 m k3 q hx ht hlo hhi hmx
    split at h
    · rename_i te' xs hb
      split at h
      · rename_i het
        obtain ⟨h1, h⟩ := tr_tst h
        obtain ⟨h2, h⟩ := tr_tst h
        obtain ⟨h3, h⟩ := tr_tst h
        obtain ⟨h4, h⟩ := tr_tst h
        simp at h1 h2 h3 h4
        simp only [Tr.can] at h
        subst h
        rw [app_put]
        refine OpSim.pureV fun w0 own0 γ a w hst => ?_
        obtain ⟨E1, hu, hE⟩ := desc_sl (hte T _ ht)
        have hz := (hte E1 _ hE).size (w := w)
        have rx := hst.opv x
        rw [hx] at rx
        obtain ⟨x2, t2, n2, hb2, hd2, hcv⟩ := rx
        rw [hb] at hb2
        cases hb2
        simp [Box.hd] at hd2
        obtain ⟨rfl, rfl⟩ := hd2
        have hbox : OwnG w te'.sz (Rdo w (okOf w s.bx γ) te') xs (γ r).A (γ r).c (γ r).F := hst.inv.boxes r _ hb
        have hcap := own_cap hbox
        have el := hst.opv lo
        rw [hlo] at el
        have el := int_of el
        have eh := hst.opv hi
        rw [hhi] at eh
        have eh := int_of eh
        have em := hst.opv mx
        rw [hmx] at em
        have em := int_of em
        obtain ⟨l, rfl⟩ := Int.eq_ofNat_of_zero_le h1
        obtain ⟨m, rfl⟩ := Int.eq_ofNat_of_zero_le (Int.le_trans h1 h2)
        obtain ⟨q, rfl⟩ := Int.eq_ofNat_of_zero_le (Int.le_trans (Int.le_trans h1 h2) h3)
        have q1 : l ≤ m := Int.ofNat_le.1 h2
        have q2 : m ≤ q := Int.ofNat_le.1 h3
        have q3 : q ≤ (γ r).c := Nat.le_trans (Int.ofNat_le.1 h4) hcap.1
        refine ⟨.slice (if q = l then (γ r).A else (γ r).A.map (·.add (l * t1.sz))) (m - l) (q - l), ?_, trivial⟩
        simp [execOp, ho, hcv, el, eh, em, Instr.sliceAt, Instr.slice, run_underlying hu, Instr.sliceBounds, hz, run_sliceBound, q1, q2, q3]
      · exact h.elim
    · exact h.elim
  · exact h.elim

theorem sim_cutV {o : Oper} {s : S} {x : Operand} {e : Ef} (ho : o.op = .move x ∨ o.op = .assign x) (h : (cutV s (s.opv x)).can e) : OpSim P o s (s.app o.dst e) := by
  unfold cutV at h
  split at h
  · rename_i r lo n hx
    split at h
    · rename_i te' xs hb
      split at h
      · rename_i hlo
        subst hlo
        simp only [Tr.can] at h
        subst h
        rw [app_eq]
        intro w0 own0 a w ⟨γ, hst⟩ next Q hn
        have hpx : partOf s.bx (s.opv x) = some (r, 0, n) := by rw [hx]; rfl
        obtain ⟨hle, hhd⟩ := partOf_rel hst hpx hb
        have hbox : OwnG w te'.sz (Rdo w (okOf w s.bx γ) te') xs (γ r).A (γ r).c (γ r).F := hst.inv.boxes r _ hb
        have hcap := own_cap hbox
        have hval : a.eval x = .slice (γ r).A n (γ r).c := by
          rcases hhd with ⟨_, h⟩ | ⟨ad, hA, k, h1, h2, h⟩
          · exact h
          · rw [h, hA, h2]
            rcases hcap.2 with h3 | ⟨bl, off, h3⟩
            · rw [h3]; simp
            · rw [hA] at h3
              cases h3
              simp
        obtain ⟨F', g1, g2, g3⟩ := hbox.cut (l := 0) (m := n) (box_nodup hst.inv.apart hb) (Nat.zero_le _) (by simpa using hle)
        have heq : (if (γ r).c = 0 then (γ r).A else (γ r).A.map (·.add (0 * te'.sz))) = (γ r).A := by
          rcases hcap.2 with h | ⟨bl, of', h⟩
          · simp [h]
          · rw [h]; simp [add_eq]
        rw [heq] at g1
        simp only [List.drop_zero, Nat.sub_zero] at g1
        have hFs : FsOf γ [r] = (γ r).F := by simp [FsOf]
        obtain ⟨γ', hst', hg, hf⟩ := hst.take (w' := w) (Ds := [r]) (dead := [r, nid r]) (b := r) (zs := xs.take n) (t := te') (.inl (by simp)) (by simpa using ⟨_, hb⟩) (by simp)
          rfl rfl rfl (Nat.le_refl _) (fun _ _ _ => rfl) g2 (fun n hn => ⟨hst.inv.below n (mem_owned hb (g3 n hn)), .inr (by rw [hFs]; exact g3 n hn)⟩)
          (fun ok' hok => OwnG.mono (OkTo.of (fun _ _ => rfl) hok) (fun _ _ => rfl) g1)
        refine wp_value (v := a.eval x) (w' := w) ?_ (hn _ _ ⟨γ', hst'.put o.dst ⟨_, te', _, hf, rfl, by rw [hg, hval]; simp; omega⟩⟩)
        rcases ho with ho | ho <;> simp [execOp, ho]
      · exact h.elim
    · exact h.elim
  · exact h.elim

theorem run_append_make {tT tx ty e : TypeId} {i : TypeInfo} {z : Value} (ht : P.underlying tT = some (.slice e)) (hx : P.underlying tx = some (.int .i64)) (hi : P.info? e = some i) (hz : i.zero = some z) (hby : i.bytes ≤ 65536) (hs0 : i.size ≠ 0) {n : Nat} (h0 : 0 < n) (hn : n ≤ lim) :
    (Builtin.append_ #[tT, tx] ty #[.slice none 0 0, .int .i64 (n : Int)]).run P w = .ok (.slice (some ⟨w.heap.size, 0, none⟩) n (grownCap w n 0 e))
      (w.drew.alloc (.cells (Builtin.zeroCells z.cells n ++ Builtin.zeroCells z.cells (grownCap w n 0 e - n)) e)) := by
  have hn' : n ≤ 2147483648 := hn
  have hw : IntKind.i64.wrap (n : Int) = n := by
    have e1 : (2 : Int) ^ 64 = 18446744073709551616 := rfl
    have e2 : (2 : Int) ^ (64 - 1) = 9223372036854775808 := rfl
    have e3 : (n : Int) % 18446744073709551616 = n := Int.emod_eq_of_lt (by omega) (by omega)
    have e4 : ¬ ((n : Int) ≥ 9223372036854775808) := by omega
    simp only [IntKind.wrap, IntKind.signed, IntKind.bits, Bool.true_and, e1, e2, e3, e4, decide_false]
    rfl
  have hb : i.bytes * n ≤ 65536 * 2147483648 := Nat.mul_le_mul hby hn'
  have hb2 : ¬ ((281474976710656 : Int) < (n : Int) * i.bytes) := by
    have : ((i.bytes * n : Nat) : Int) ≤ 281474976710656 := by omega
    rw [Int.natCast_mul, Int.mul_comm] at this
    omega
  have hn0 : ¬ n = 0 := by omega
  have hneg : ¬ (n : Int) < 0 := by omega
  have hcap : Builtin.nextslicecap n 0 = n := by simp [Builtin.nextslicecap, h0]
  have h48' : ¬ (281474976710656 < n * i.bytes) := by rw [Nat.mul_comm]; omega
  have h63' : ¬ (9223372036854775807 < (n : Int)) := by omega
  have hns : ¬ (n = 0 ∨ i.size = 0) := by omega
  have hle : ¬ (n : Int) ≤ 0 := by omega
  have hmax : max (n : Int) 0 = n := by omega
  simp [Builtin.append_, run_underlying ht, run_underlying hx, sizeOf, typeInfo, zeroValue, hi, hz, asInt, asIntOf, hw, hns, hs0, hle, hmax, hneg, hb2, hn0, h63', h48', hcap, Question.forced, newRow, grownCap, Builtin.firstCells]
  intro h
  exact absurd (Nat.mul_eq_zero.1 h) hns

theorem sim_makeApp {E : Env} {h0 : Hint} {o : Oper} {s : S} {x y : Operand} {U : Nat} {site : Nat} {e : Ef} (hte : TyOk P E.te) (ho : o.op = .call { callee := .builtin .append, args := #[x, y], argTypes := #[T, U] })
    (hU : find E.te U = some (.int .i64)) (h : (makeApp E h0 site T (s.opv x) (s.opv y)).can e) (hok : e.okB s.bx = true) : OpSim P o s (s.app o.dst e) := by
  unfold makeApp at h
  split at h
  · rename_i n t1 hx hy ht
    split at h
    · rename_i hc
      obtain ⟨hz0, h⟩ := tr_tst h
      obtain ⟨hl, h⟩ := tr_tst h
      simp only [Tr.can] at h
      subst h
      intro w0 own0 a w ⟨γ, hst⟩ next Q hn
      rw [app_eq] at hn
      rw [Bool.and_eq_true] at hc
      obtain ⟨hm, hsz0⟩ := hc
      have hl : Int.toNat n ≤ lim := by simpa using hl
      have hz0 : (0 : Int) ≤ n := by simpa using hz0
      obtain ⟨k, rfl⟩ := Int.eq_ofNat_of_zero_le hz0
      simp only [Int.toNat_natCast] at hn hl
      have hsite : find s.bx site = none := by
        rcases (nodup_of_okB hok).2 _ (List.mem_singleton.2 rfl) with h | h
        · simp at h
        · exact h
      generalize hte' : elT h0 t1 = te' at *
      have het : te' = t1 ∨ te' = .fz t1 := hte' ▸ elT_or h0 t1
      have hts : te'.sz = t1.sz := by rcases het with rfl | rfl <;> rfl
      have htz : zeroCells te' = zeroCells t1 := by rcases het with rfl | rfl <;> rfl
      obtain ⟨ei, hu, hE⟩ := desc_sl (hte T _ ht)
      have hu' : P.underlying U = some (.int .i64) := (hte U _ hU).desc
      obtain ⟨i, hi, hsz, hby, z, hz, hzz⟩ := (hte ei _ hE).info
      obtain ⟨_, _, z3⟩ := Ty.zeros_rel (w := w) (ok := fun _ => True) (bx := []) (γ := γ) t1
      have hcells : z.cells = (zeroCells t1).toArray := by rw [hzz]; exact pack_cells _ (zeroCells_len t1) fun _ => z3
      have hzl := zeroCells_len te'
      rw [← htz] at hcells
      have hzsz : z.cells.size = te'.sz := by rw [hcells]; simpa using hzl
      have rx := hst.opv x
      rw [hx] at rx
      have hxv : a.eval x = .slice none 0 0 := rx
      have ry := hst.opv y
      rw [hy] at ry
      have hyv := int_of ry
      have hstep : ∀ (w' : World) (A : Option Addr) (c : Nat) (F : List Nat), (Builtin.append_ #[T, U] o.type #[.slice none 0 0, .int .i64 (k : Int)]).run P w = .ok (.slice A k c) w' → w'.os = w.os → w'.tape = w.tape → w'.output = w.output → w.heap.size ≤ w'.heap.size →
          (∀ n, n < w.heap.size → w'.heap[n]? = w.heap[n]?) → F.Nodup → (∀ n ∈ F, n < w'.heap.size ∧ w.heap.size ≤ n) → (∀ ok' : Nat → Prop, OwnG w' te'.sz (Rdo w' ok' te') (List.replicate k te'.zero) A c F) → o.wp P a w next Q := by
        intro w' A c F hrun g1 g2 g3 g4 g5 g6 g7 g8
        obtain ⟨γ', hst', hg, hf⟩ := hst.take (w' := w') (Ds := []) (dead := []) (b := site) (zs := List.replicate k te'.zero) (A := A) (c := c) (F' := F) (t := te') (.inr hsite) (by simp) (by simp) g1 g2 g3 g4
          (fun n hn _ => g5 n hn) g6 (fun n hn => ⟨(g7 n hn).1, .inl (g7 n hn).2⟩) (fun ok' _ => g8 ok')
        refine wp_value (ex_append ho hxv hyv hrun) (hn _ _ ⟨γ', hst'.put o.dst ⟨_, te', _, hf, rfl, by rw [hg]; simp⟩⟩)
      rcases Nat.eq_zero_or_pos k with h0 | h0
      · subst h0
        refine hstep w none 0 [] ?_ rfl rfl rfl (Nat.le_refl _) (fun _ _ => rfl) (by simp) (by simp) (fun ok' => .inl ⟨rfl, rfl, rfl⟩)
        have hw : IntKind.i64.wrap 0 = 0 := rfl
        simp [Builtin.append_, run_underlying hu, run_underlying hu', sizeOf, typeInfo, hi, asInt, asIntOf, hw]
      · have hrun := run_append_make (P := P) (w := w) (ty := o.type) hu hu' hi hz hby (by rw [hsz, ← hts]; simpa using hsz0) h0 hl
        have hge : k ≤ grownCap w k 0 ei := grownCap_ge w k 0 ei
        refine hstep _ _ _ [w.heap.size] hrun rfl rfl rfl (by simp) (fun n hn => hao w.drew _ n hn) (by simp) (by simp) (fun ok' => ?_)
        have hnew := heap_alloc_new w.drew (.cells (Builtin.zeroCells z.cells k ++ Builtin.zeroCells z.cells (grownCap w k 0 ei - k)) ei)
        refine .inr ⟨w.heap.size, 0, _, ei, List.replicate k [], rfl, by simp, hnew, by simpa using hge, ?_, by simp, fun j hj hj' => ?_⟩
        · simp only [Array.size_append, size_zeroCells, hzsz, ← Nat.add_mul, Nat.add_sub_cancel' hge]; omega
        · refine ⟨zeroCells te', ?_, hzl, fun m v hmv => ?_⟩
          · have := zeroCells_rdo (w := w.drew.alloc (.cells (Builtin.zeroCells z.cells k ++ Builtin.zeroCells z.cells (grownCap w k 0 ei - k)) ei)) (ok := ok') te' hm
            simpa using this
          · have hml : m < te'.sz := by rw [← hzl]; exact getElem?_lt hmv
            have hjk : j < k := by simpa using hj
            have hlt : j * te'.sz + m < k * te'.sz := by
              have : (j + 1) * te'.sz ≤ k * te'.sz := Nat.mul_le_mul_right _ hjk
              rw [Nat.add_mul] at this
              omega
            rw [Nat.zero_add, Array.getElem?_append_left (by rw [size_zeroCells, hzsz]; exact hlt)]
            have hz1 : (Builtin.zeroCells z.cells k)[j * te'.sz + m]? = z.cells[m]? := by
              have := madeCells_get z.cells k te'.sz j m hzsz hjk hml
              rwa [← hzsz] at this ⊢
            rw [hz1, hcells]
            simpa using hmv
    · exact h.elim
  · exact h.elim

end
end Go.Fl
/- Cuts: what a description makes of a state. -/
namespace Go.Fl
open Go

theorem find_filter {α : Type} (D : Nat → Bool) (xs : List (Nat × α)) (b : Nat) : find (xs.filter fun p => !D p.1) b = if D b then none else find xs b := by
  have := find_filter_map D (fun x : α => x) xs b
  simpa using this

theorem ofTup_toTup : ∀ {ts : List Ty} {y : Dyn} {v : (tupT ts).den}, toTup ts y = some v → ofTup ts v = y := by
  intro ts
  induction ts with
  | nil => intro y v h; cases y with
    | nil => rfl
    | cons _ _ => simp [toTup] at h
  | cons t ts ih =>
    intro y v h
    cases y with
    | nil => simp [toTup] at h
    | cons d r =>
      obtain ⟨t', x⟩ := d
      simp only [toTup, Option.bind_eq_some_iff] at h
      obtain ⟨y, hy, h⟩ := h
      obtain ⟨z, hz, rfl⟩ := Option.map_eq_some_iff.1 h
      obtain ⟨rfl, rfl⟩ := castT_some hy
      simp only [ofTup]
      rw [ih hz]

theorem cast_dyn {t t' : Ty} {x : t'.den} {xs : Dyn} (h : (castT t' t x).map (fun y => ([⟨t, y⟩] : Dyn)) = some xs) : xs = [⟨t', x⟩] := by
  obtain ⟨y, hy, rfl⟩ := Option.map_eq_some_iff.1 h
  obtain ⟨rfl, rfl⟩ := castT_some hy
  rfl

def Cap.L : Cap → L
  | .ptr b => .ptr b 0
  | .fpt t x => .fpt t x

/-- What a closure holds, kept or let go. -/
def WkC (ρ : Nat → Nat) (fr : Bxs) (dead : Nat → Bool) (c c' : Cap) : Prop := (c' = c.ren ρ ∧ ∀ b, c.uses b = true → dead b = false) ∨ ∃ t x, c' = .fpt t x ∧ rpRd fr t c.L = some x

/-- The box that a leaf leads to. -/
def L.at : L → Nat → Bool
  | .row b, k | .ptr b _, k | .ept b _ _, k | .vw b _ _, k | .mrow b, k | .it b, k | .nrow b _ _, k | .nept b _ _ _ _, k | .nvw b _ _ _ _, k => b == k
  | .clo _ cs, k => cs.any (·.uses k)
  | _, _ => false

/-- A leaf that is kept, or forgotten, or is only read from now on. -/
def Wk (ρ : Nat → Nat) (fr : Bxs) (dead : Nat → Bool) (l l' : L) : Prop :=
  l' = .un ∨ (l' = l.ren ρ ∧ ∀ b, l.at b = true → dead b = false) ∨ (∃ t x, l' = .val t x ∧ (l.one = true → t.one = true) ∧ rdL fr t l = some x) ∨ (∃ t x, (l' = .fpt t x ∧ rpRd fr t l = some x) ∨ (l' = .fpp t x ∧ fppRd fr t l = some x)) ∨
    ∃ f cs ds, l = .clo f cs ∧ l' = .clo f ds ∧ All2 (WkC ρ fr dead) cs ds

theorem rdL_t1 {fr : Bxs} {t : Ty} {l : L} {x : t.den} (h : rdL fr t l = some x) (h1 : l.one = true) : t.one = true := by
  have row : ∀ {te : Ty} {xs : List te.den}, castRow te t xs = some x → t.one = true := by
    intro te xs h
    cases t <;> first | rfl | cases h
  cases l with
  | val t' y => obtain ⟨rfl, _⟩ := castT_some h; exact h1
  | row b => simp only [rdL] at h; split at h <;> first | exact row h | cases h
  | vw b lo n => simp only [rdL] at h; split at h <;> first | exact row h | cases h
  | nrow b i off =>
    simp only [rdL] at h
    split at h
    · cases t <;> first | rfl | cases h
    · cases h
  | mrow b =>
    simp only [rdL] at h
    split at h
    · obtain ⟨rfl, _⟩ := castT_some h; rfl
    · cases h
  | nil => cases t <;> first | rfl | (simp [rdL] at h)
  | mnil => cases t <;> first | rfl | (simp [rdL] at h)
  | _ => simp [rdL] at h

theorem caps_mk {σ ρ : Nat → Nat} {fr : Bxs} {ks : List Nat} {dead : Nat → Bool} (hρ : ∀ b ∈ ks, ρ (σ b) = b) (hd : ∀ b ∈ ks, dead (σ b) = false) : ∀ {cs : List (Nat ⊕ Ty)} {ds : List Cap} {xs : Dyn} (rest : Dyn), capsDyn σ fr cs ds = some xs →
    (cs.all fun | .inl b => ks.contains b | .inr _ => true) = true → ∃ ds', mkCaps cs (xs ++ rest) = (ds', rest) ∧ All2 (WkC ρ fr dead) ds ds' := by
  intro cs
  induction cs with
  | nil =>
    intro ds xs rest h _
    cases ds with
    | nil => simp [capsDyn] at h; subst h; exact ⟨[], rfl, .nil⟩
    | cons _ _ => simp [capsDyn] at h
  | cons c cs ih =>
    intro ds xs rest h hk
    simp only [List.all_cons, Bool.and_eq_true] at hk
    cases c with
    | inl b =>
      cases ds with
      | nil => simp [capsDyn] at h
      | cons d ds =>
        cases d with
        | ptr k =>
          simp only [capsDyn] at h
          split at h
          · rename_i hbk
            have hbk' : σ b = k := by simpa using hbk
            subst hbk'
            obtain ⟨ds', h1, h2⟩ := ih rest h hk.2
            have hb : b ∈ ks := by simpa using hk.1
            refine ⟨.ptr b :: ds', by simp [mkCaps, h1], .cons (.inl ⟨by simp [Cap.ren, hρ b hb], fun k hk' => ?_⟩) h2⟩
            simp [Cap.uses] at hk'
            subst hk'
            exact hd b hb
          · cases h
        | fpt t x => simp [capsDyn] at h
    | inr t =>
      cases ds with
      | nil => simp [capsDyn] at h
      | cons d ds =>
        cases d with
        | ptr k =>
          simp only [capsDyn, Option.bind_eq_some_iff, Option.map_eq_some_iff] at h
          obtain ⟨y, hy, z, hz, rfl⟩ := h
          obtain ⟨ds', h1, h2⟩ := ih rest hz hk.2
          exact ⟨.fpt t y :: ds', by simp [mkCaps, h1], .cons (.inr ⟨t, y, rfl, hy⟩) h2⟩
        | fpt t' x =>
          simp only [capsDyn, Option.bind_eq_some_iff, Option.map_eq_some_iff] at h
          obtain ⟨y, hy, z, hz, rfl⟩ := h
          obtain ⟨ds', h1, h2⟩ := ih rest hz hk.2
          exact ⟨.fpt t y :: ds', by simp [mkCaps, h1], .cons (.inr ⟨t, y, rfl, hy⟩) h2⟩

theorem L.same_eq {l m : L} (h : l.sameH m = true) : l = m := by
  cases l <;> cases m <;> simp_all [L.sameH]

section
variable {σ ρ : Nat → Nat} {fr : Bxs} {ks : List Nat} {dead : Nat → Bool} (hρ : ∀ b ∈ ks, ρ (σ b) = b) (hd : ∀ b ∈ ks, dead (σ b) = false)
include hρ hd

theorem leaf_mk {d : LD} {l : L} {xs : Dyn} (rest : Dyn) (h : d.arg σ fr l = some xs) (hk : d.alive ks = true) : ∃ l', d.mk (xs ++ rest) = (l', rest) ∧ Wk ρ fr dead l l' := by
  cases d with
  | un => simp [LD.arg] at h; subst h; exact ⟨.un, rfl, .inl rfl⟩
  | val t =>
    have h' : (rdL fr t l).map (fun y => ([⟨t, y⟩] : Dyn)) = some xs := by simpa only [LD.arg] using h
    obtain ⟨y, hy, rfl⟩ := Option.map_eq_some_iff.1 h'
    exact ⟨.val t y, rfl, .inr (.inr (.inl ⟨t, y, rfl, rdL_t1 hy, hy⟩))⟩
  | fpt t =>
    have h' : (rpRd fr t l).map (fun y => ([⟨t, y⟩] : Dyn)) = some xs := by simpa only [LD.arg] using h
    obtain ⟨y, hy, rfl⟩ := Option.map_eq_some_iff.1 h'
    exact ⟨.fpt t y, rfl, .inr (.inr (.inr (.inl ⟨t, y, .inl ⟨rfl, hy⟩⟩)))⟩
  | fpp t =>
    have h' : (fppRd fr t l).map (fun y => ([⟨t, y⟩] : Dyn)) = some xs := by simpa only [LD.arg] using h
    obtain ⟨y, hy, rfl⟩ := Option.map_eq_some_iff.1 h'
    exact ⟨.fpp t y, rfl, .inr (.inr (.inr (.inl ⟨t, y, .inr ⟨rfl, hy⟩⟩)))⟩
  | lit m =>
    have h' : (if (m.ren σ).sameH l then some ([] : Dyn) else none) = some xs := by simpa only [LD.arg] using h
    split at h'
    · rename_i hs
      cases h'
      have hml := L.same_eq hs
      subst hml
      refine ⟨m, rfl, .inr (.inl ?_)⟩
      have use1 : ∀ {b k : Nat}, b ∈ ks → (σ b == k) = true → dead k = false := fun hb h => by
        have := eq_of_beq h
        subst this
        exact hd _ hb
      cases m with
      | nil => exact ⟨rfl, fun b hb => by cases hb⟩
      | mnil => exact ⟨rfl, fun b hb => by cases hb⟩
      | pnil => exact ⟨rfl, fun b hb => by cases hb⟩
      | row b =>
        have hb : b ∈ ks := by simpa [LD.alive] using hk
        exact ⟨by simp only [L.ren, hρ b hb], fun k hk' => use1 hb hk'⟩
      | ptr b o =>
        have hb : b ∈ ks := by simpa [LD.alive] using hk
        exact ⟨by simp only [L.ren, hρ b hb], fun k hk' => use1 hb hk'⟩
      | mrow b =>
        have hb : b ∈ ks := by simpa [LD.alive] using hk
        exact ⟨by simp only [L.ren, hρ b hb], fun k hk' => use1 hb hk'⟩
      | it b =>
        have hb : b ∈ ks := by simpa [LD.alive] using hk
        exact ⟨by simp only [L.ren, hρ b hb], fun k hk' => use1 hb hk'⟩
      | _ => simp [LD.alive] at hk
    · cases h'
  | clo f cs =>
    cases l with
    | clo g ds =>
      simp only [LD.arg] at h
      split at h
      · rename_i hfg
        have hfg' : f = g := by simpa using hfg
        subst hfg'
        obtain ⟨ds', h1, h2⟩ := caps_mk hρ hd rest h hk
        exact ⟨.clo f ds', by simp [LD.mk, h1], .inr (.inr (.inr (.inr ⟨f, ds, ds', rfl, rfl, h2⟩)))⟩
      · cases h
    | _ => simp [LD.arg] at h
  | ept b off =>
    cases l with
    | ept c i off' =>
      simp only [LD.arg] at h
      split at h
      · rename_i hc
        cases h
        simp at hc
        obtain ⟨hc1, hc2⟩ := hc
        subst hc1 hc2
        have hb : b ∈ ks := by simpa [LD.alive] using hk
        exact ⟨.ept b i off, by simp [LD.mk], .inr (.inl ⟨by simp [L.ren, hρ b hb], fun k hk' => by simp [L.at] at hk'; subst hk'; exact hd b hb⟩)⟩
      · cases h
    | _ => simp [LD.arg] at h
  | nrow b off =>
    cases l with
    | nrow c i off' =>
      simp only [LD.arg] at h
      split at h
      · rename_i hc
        cases h
        simp at hc
        obtain ⟨hc1, hc2⟩ := hc
        subst hc1 hc2
        have hb : b ∈ ks := by simpa [LD.alive] using hk
        exact ⟨.nrow b i off, by simp [LD.mk], .inr (.inl ⟨by simp [L.ren, hρ b hb], fun k hk' => by simp [L.at] at hk'; subst hk'; exact hd b hb⟩)⟩
      · cases h
    | _ => simp [LD.arg] at h

theorem leaves_mk : ∀ {ds : List LD} {ls : List L} {xs : Dyn} (rest : Dyn), argLs σ fr ds ls = some xs → (ds.all (·.alive ks)) = true → ∃ ls', mkLs ds (xs ++ rest) = (ls', rest) ∧ All2 (Wk ρ fr dead) ls ls' := by
  intro ds
  induction ds with
  | nil =>
    intro ls xs rest h _
    cases ls with
    | nil => simp [argLs] at h; subst h; exact ⟨[], rfl, .nil⟩
    | cons _ _ => simp [argLs] at h
  | cons d ds ih =>
    intro ls xs rest h hk
    cases ls with
    | nil => simp [argLs] at h
    | cons l ls =>
      simp only [argLs, Option.bind_eq_some_iff, Option.map_eq_some_iff] at h
      obtain ⟨x, hx, y, hy, rfl⟩ := h
      simp only [List.all_cons, Bool.and_eq_true] at hk
      obtain ⟨l', h1, h2⟩ := leaf_mk hρ hd (y ++ rest) hx hk.1
      obtain ⟨ls', h3, h4⟩ := ih rest hy hk.2
      refine ⟨l' :: ls', ?_, .cons h2 h4⟩
      rw [List.append_assoc]
      simp [mkLs, h1, h3]

/-- A slot that is kept, or forgotten. -/
def WkV (ρ : Nat → Nat) (fr : Bxs) (dead : Nat → Bool) (v v' : V) : Prop :=
  v' = .w (.one .un) ∨ (∃ l l', v = .w (.one l) ∧ v' = .w (.one l') ∧ Wk ρ fr dead l l') ∨ (∃ t x ls, v = .w (.agg ls) ∧ v' = .w (.one (.val t x)) ∧ rdW fr t (.agg ls) = some x) ∨
    (∃ ls ls', v = .w (.agg ls) ∧ v' = .w (.agg ls') ∧ All2 (Wk ρ fr dead) ls ls') ∨ ∃ t x ls', t.one = false ∧ v = .w (.one (.val t x)) ∧ v' = .w (.agg ls') ∧ All2 (Wk ρ fr dead) (t.leaves x) ls'

theorem slot_mk {d : VD} {v : V} {xs : Dyn} (rest : Dyn) (h : d.arg σ fr v = some xs) (hk : d.alive ks = true) : ∃ v', d.mk (xs ++ rest) = (v', rest) ∧ WkV ρ fr dead v v' := by
  cases d with
  | one ld =>
    have gen : ∀ {l : L}, v = .w (.one l) → ld.arg σ fr l = some xs → ∃ v', (VD.one ld).mk (xs ++ rest) = (v', rest) ∧ WkV ρ fr dead v v' := by
      intro l hv hx
      obtain ⟨l', h1, h2⟩ := leaf_mk hρ hd rest hx hk
      exact ⟨.w (.one l'), by simp [VD.mk, h1], .inr (.inl ⟨l, l', hv, rfl, h2⟩)⟩
    cases v with
    | tup _ => cases ld with
      | un => cases h; exact ⟨.w (.one .un), rfl, .inl rfl⟩
      | _ => cases h
    | w q => cases q with
      | one l => cases ld with
        | un => cases h; exact ⟨.w (.one .un), rfl, .inl rfl⟩
        | _ => exact gen rfl h
      | agg ls => cases ld with
        | un => cases h; exact ⟨.w (.one .un), rfl, .inl rfl⟩
        | val t =>
          obtain ⟨y, hy, rfl⟩ := Option.map_eq_some_iff.1 h
          exact ⟨_, rfl, .inr (.inr (.inl ⟨_, y, _, rfl, rfl, hy⟩))⟩
        | _ => cases h
  | agg ds =>
    cases v with
    | tup _ => cases h
    | w q => cases q with
      | agg ls =>
        obtain ⟨ls', h1, h2⟩ := leaves_mk hρ hd rest h hk
        exact ⟨.w (.agg ls'), by simp [VD.mk, h1], .inr (.inr (.inr (.inl ⟨_, ls', rfl, rfl, h2⟩)))⟩
      | one l => cases l with
        | val t x =>
          simp only [VD.arg] at h
          split at h
          · cases h
          · rename_i ho
            obtain ⟨ls', h1, h2⟩ := leaves_mk hρ hd rest h hk
            exact ⟨.w (.agg ls'), by simp [VD.mk, h1], .inr (.inr (.inr (.inr ⟨_, _, ls', by simpa using ho, rfl, rfl, h2⟩)))⟩
        | _ => cases h

theorem slots_mk : ∀ {ds : List VD} {vs : List V} {xs : Dyn} (rest : Dyn), argVs σ fr ds vs = some xs → (ds.all (·.alive ks)) = true →
    ∃ vs', mkRegs ds (xs ++ rest) = (vs', rest) ∧ vs'.length = ds.length ∧ ∀ (i : Nat) (v' : V), vs'[i]? = some v' → ∃ v, vs[i]? = some v ∧ WkV ρ fr dead v v' := by
  intro ds
  induction ds with
  | nil => intro vs xs rest h _; simp [argVs] at h; subst h; exact ⟨[], rfl, rfl, fun i v' h => by simp at h⟩
  | cons d ds ih =>
    intro vs xs rest h hk
    cases vs with
    | nil => simp [argVs] at h
    | cons v vs =>
      simp only [argVs, Option.bind_eq_some_iff, Option.map_eq_some_iff] at h
      obtain ⟨x, hx, y, hy, rfl⟩ := h
      simp only [List.all_cons, Bool.and_eq_true] at hk
      obtain ⟨v1, h1, h2⟩ := slot_mk hρ hd (y ++ rest) hx hk.1
      obtain ⟨vs', h3, h4, h5⟩ := ih rest hy hk.2
      refine ⟨v1 :: vs', by rw [List.append_assoc]; simp [mkRegs, h1, h3], by simp [h4], fun i v' hv' => ?_⟩
      cases i with
      | zero => simp at hv'; subst hv'; exact ⟨v, rfl, h2⟩
      | succ i => exact h5 i v' (by simpa using hv')

/-- A box that is kept, some of its leaves forgotten. -/
def WkB (ρ : Nat → Nat) (fr : Bxs) (dead : Nat → Bool) : Box → Box → Prop
  | .row t xs, y => y = .row t xs
  | .var ls, y => ∃ ls', y = .var ls' ∧ All2 (Wk ρ fr dead) ls ls'
  | .mp t m, y => y = .mp t m
  | .it t m _, y => y = .it t m none
  | .hole _ _ _ _ _, _ => False

theorem bx_mk {bx : Bxs} : ∀ {ds : List (Nat × BD)} {xs : Dyn}, argBx σ fr bx ds = some xs → (ds.all (·.2.alive ks)) = true →
    (mkBx ds xs).map (·.1) = ds.map (·.1) ∧ ∀ b y, (b, y) ∈ mkBx ds xs → ∃ x, find bx (σ b) = some x ∧ WkB ρ fr dead x y := by
  intro ds
  induction ds with
  | nil => intro xs h _; simp [argBx] at h; subst h; exact ⟨rfl, fun b y h => by simp [mkBx] at h⟩
  | cons d ds ih =>
    obtain ⟨b, d⟩ := d
    intro xs h hk
    simp only [List.all_cons, Bool.and_eq_true] at hk
    simp only [argBx, Option.bind_eq_some_iff, Option.map_eq_some_iff] at h
    obtain ⟨x, hx, y, hy, rfl⟩ := h
    obtain ⟨h1, h2⟩ := ih hy hk.2
    cases d with
    | row t =>
      cases hf : find bx (σ b) with
      | none => rw [hf] at hx; cases hx
      | some z =>
        rw [hf] at hx
        cases z with
        | row t' zs =>
          have := cast_dyn hx
          subst this
          refine ⟨by simp [mkBx, h1], fun b' y' hm => ?_⟩
          simp only [List.cons_append, List.nil_append, mkBx] at hm
          rcases List.mem_cons.1 hm with h | h
          · simp at h; obtain ⟨rfl, rfl⟩ := h; exact ⟨_, hf, rfl⟩
          · exact h2 b' y' h
        | _ => cases hx
    | mp t =>
      cases hf : find bx (σ b) with
      | none => rw [hf] at hx; cases hx
      | some z =>
        rw [hf] at hx
        cases z with
        | mp t' m =>
          have := cast_dyn hx
          subst this
          refine ⟨by simp [mkBx, h1], fun b' y' hm => ?_⟩
          simp only [List.cons_append, List.nil_append, mkBx] at hm
          rcases List.mem_cons.1 hm with h | h
          · simp at h; obtain ⟨rfl, rfl⟩ := h; exact ⟨_, hf, rfl⟩
          · exact h2 b' y' h
        | _ => cases hx
    | it t =>
      cases hf : find bx (σ b) with
      | none => rw [hf] at hx; cases hx
      | some z =>
        rw [hf] at hx
        cases z with
        | it t' m c =>
          have := cast_dyn hx
          subst this
          refine ⟨by simp [mkBx, h1], fun b' y' hm => ?_⟩
          simp only [List.cons_append, List.nil_append, mkBx] at hm
          rcases List.mem_cons.1 hm with h | h
          · simp at h; obtain ⟨rfl, rfl⟩ := h; exact ⟨_, hf, rfl⟩
          · exact h2 b' y' h
        | _ => cases hx
    | var ls =>
      cases hf : find bx (σ b) with
      | none => rw [hf] at hx; cases hx
      | some z =>
        rw [hf] at hx
        cases z with
        | var ms =>
          obtain ⟨ls', h3, h4⟩ := leaves_mk hρ hd y hx hk.1
          refine ⟨by simp [mkBx, h3, h1], fun b' y' hm => ?_⟩
          simp only [mkBx, h3] at hm
          rcases List.mem_cons.1 hm with h | h
          · simp at h; obtain ⟨rfl, rfl⟩ := h; exact ⟨_, hf, _, rfl, h4⟩
          · exact h2 b' y' h
        | _ => cases hx
end
end Go.Fl
/- Cuts: what a description makes of a state holds. -/
namespace Go.Fl
open Go

/-- Boxes that go by other names, and lie where they lay. -/
def Nam (ρ : Nat → Nat) (bx : Bxs) (γ : Nat → Gh) (bx' : Bxs) (γ' : Nat → Gh) (dead : Nat → Bool) : Prop :=
  ∀ b x, dead b = false → find bx b = some x → ∃ y, find bx' (ρ b) = some y ∧ x.like y ∧ γ' (ρ b) = γ b

section
variable {w : World} {ok ok' : Nat → Prop} {bx bx' : Bxs} {γ γ' : Nat → Gh} {dead : Nat → Bool} {ρ : Nat → Nat} (hok : ∀ b, ok b → ok' b) (hp : Nam ρ bx γ bx' γ' dead)
include hp

theorem NestAt.nam {b i off : Nat} {cv : Value} (hd : dead b = false) (h : NestAt w bx γ b i off cv) : NestAt w bx' γ' (ρ b) i off cv := by
  obtain ⟨x, t, te, n, a, h1, h2, h3, h4, h5, h6, h7⟩ := h
  obtain ⟨y, hy, hl, hg⟩ := hp b _ hd h1
  exact ⟨y, t, te, n, a, hy, like_hd hl h2, h3, by rw [hg]; exact h4, h5, h6, h7⟩

theorem PtrAt.nam {b off : Nat} {cv : Value} (hd : dead b = false) (h : PtrAt bx γ b off cv) : PtrAt bx' γ' (ρ b) off cv := by
  obtain ⟨ls, bl, h1, h2, h3⟩ := h
  obtain ⟨y, hy, ⟨ms, rfl, _⟩, hg⟩ := hp b _ hd h1
  exact ⟨ms, bl, hy, by rw [hg]; exact h2, h3⟩

include hok

theorem CapRel.nam {c : Cap} {cv : Value} (hd : ∀ b, c.uses b = true → dead b = false) (h : CapRel w ok bx γ c cv) : CapRel w ok' bx' γ' (c.ren ρ) cv := by
  cases c with
  | ptr b => exact PtrAt.nam hp (hd b (by simp [Cap.uses])) h
  | fpt t x => exact FptAt.mono (fun _ _ => rfl) hok h

theorem LRel.nam {l : L} {cv : Value} (hd : ∀ b, l.at b = true → dead b = false) (h : LRel w ok bx γ l cv) : LRel w ok' bx' γ' (l.ren ρ) cv := by
  cases l with
  | un => trivial
  | ud => exact h
  | val t x => obtain ⟨cs, h1, h2⟩ := h; exact ⟨cs, h1.mono (fun _ _ => rfl) hok, h2⟩
  | nil => exact h
  | mnil => exact h
  | pnil => exact h
  | row b =>
    obtain ⟨x, t, n, h1, h2, h3⟩ := h
    obtain ⟨y, hy, hl, hg⟩ := hp b _ (hd b (by simp [L.at])) h1
    exact ⟨y, t, n, hy, like_hd hl h2, by rw [h3, hg]⟩
  | ptr b off => exact PtrAt.nam hp (hd b (by simp [L.at])) h
  | ept b i off =>
    obtain ⟨x, t, n, a, h1, h2, h3, h4, h5⟩ := h
    obtain ⟨y, hy, hl, hg⟩ := hp b _ (hd b (by simp [L.at])) h1
    exact ⟨y, t, n, a, hy, like_hd hl h2, h3, by rw [hg]; exact h4, h5⟩
  | fpt t x => exact FptAt.mono (fun _ _ => rfl) hok h
  | fpp t x => exact FppAt.mono (fun _ _ => rfl) hok h
  | clo f cs =>
    obtain ⟨cvs, h1, h2⟩ := h
    refine ⟨cvs, h1, ?_⟩
    clear h1
    induction h2 with
    | nil => exact .nil
    | cons hc _ ih =>
      refine .cons (CapRel.nam hok hp (fun b hb => hd b ?_) hc) (ih (fun b hb => hd b ?_))
      · simp [L.at, hb]
      · simp only [L.at, List.any_cons, Bool.or_eq_true] at hb ⊢; exact .inr hb
  | vw b lo n =>
    obtain ⟨x, t, m, h1, h2, h3, h4⟩ := h
    obtain ⟨y, hy, hl, hg⟩ := hp b _ (hd b (by simp [L.at])) h1
    refine ⟨y, t, m, hy, like_hd hl h2, h3, ?_⟩
    rw [hg]
    exact h4
  | mrow b =>
    obtain ⟨t, m, r, h1, h2, h3⟩ := h
    obtain ⟨y, hy, ⟨m', rfl⟩, hg⟩ := hp b _ (hd b (by simp [L.at])) h1
    exact ⟨t, m', r, hy, by rw [hg]; exact h2, h3⟩
  | it b =>
    obtain ⟨t, m, c, r, h1, h2, h3⟩ := h
    obtain ⟨y, hy, ⟨m', c', rfl⟩, hg⟩ := hp b _ (hd b (by simp [L.at])) h1
    exact ⟨t, m', c', r, hy, by rw [hg]; exact h2, h3⟩
  | nrow b i off => exact NestAt.nam hp (hd b (by simp [L.at])) h
  | nept b i off j o =>
    obtain ⟨a, m, c, te, x, t, n, h1, h2, h3, h4, h5, h6, h7⟩ := h
    obtain ⟨y, hy, hl, _⟩ := hp b _ (hd b (by simp [L.at])) h3
    exact ⟨a, m, c, te, y, t, n, NestAt.nam hp (hd b (by simp [L.at])) h1, h2, hy, like_hd hl h4, h5, h6, h7⟩
  | nvw b i off lo n =>
    obtain ⟨a, m, c, te, x, t, k, h1, h3, h4, h5, h6, h7⟩ := h
    obtain ⟨y, hy, hl, _⟩ := hp b _ (hd b (by simp [L.at])) h3
    exact ⟨a, m, c, te, y, t, k, NestAt.nam hp (hd b (by simp [L.at])) h1, hy, like_hd hl h4, h5, h6, h7⟩
end

section
variable {w : World} {ok ok' : Nat → Prop} {bx fr : Bxs} {γ : Gam} {t : Ty}

theorem rp_rel (hro : Rdb w ok ok' fr bx γ) (hok : ∀ n, ok n → ok' n) {l : L} {cv : Value} {x : t.den} (hl : LRel w ok bx γ l cv) (h : rpRd fr t l = some x) : FptAt w ok' t x cv := by
  cases l with
  | fpt t' y =>
    obtain ⟨rfl, rfl⟩ := castT_some h
    exact FptAt.mono (fun _ _ => rfl) hok hl
  | ptr b off =>
    simp only [rpRd] at h
    split at h
    · rename_i ls hb
      have hb' := hro.sub _ _ hb
      obtain ⟨bl, cs, e, hA, hF, hh, h1, h2, h3⟩ := hro.box _ _ hb
      obtain ⟨ls2, bl2, hb2, hA2, rfl⟩ := hl
      rw [hA] at hA2
      cases hA2
      have hokb : ok' bl := hro.blk _ _ hb bl (by simp [hF])
      by_cases ho : t.one = true
      · rw [if_pos ho] at h
        split at h
        · rename_i l hlo
          obtain ⟨c, hc, hr⟩ := h3.get off l hlo
          have := rdL_one hro hok ho hr (show rdL fr t l = some x from h)
          refine ⟨_, [c], rfl, rfl, hokb, this, fun j v hj => ?_⟩
          cases j with
          | zero => simp at hj; subst hj; simp only [World.cell?, hh]; simpa using hc
          | succ j => simp at hj
        · simp [rdW, ho] at h
      · rw [if_neg ho] at h
        simp only [rdW, ho, Bool.false_eq_true, if_false, Option.bind_eq_some_iff] at h
        obtain ⟨p, hp, h⟩ := h
        have h3' : LsRel w ok bx γ ((ls.drop off).take t.sz) ((cs.toList.drop off).take t.sz) := (All2.drop h3 off).take _
        obtain ⟨u, v, huv, h4, h5⟩ := rdLs_rel hro hok h3' hp
        split at h
        · rename_i hp2
          cases h
          rw [hp2] at h5
          cases h5
          rw [List.append_nil] at huv
          refine ⟨_, u, rfl, rfl, hokb, h4, fun j v hj => ?_⟩
          rw [← huv, List.getElem?_take] at hj
          split at hj
          · rw [List.getElem?_drop] at hj
            simp only [World.cell?, hh]
            simpa using hj
          · cases hj
        · cases h
    · cases h
  | ept b i off =>
    simp only [rpRd] at h
    split at h
    · rename_i te' xs hb
      split at h
      · rename_i ho
        subst ho
        split at h
        · rename_i hf
          split at h
          · rename_i hi
            have hb' := hro.sub _ _ hb
            obtain ⟨x2, t2, n2, ad, hb2, hd2, hi2, hA, rfl⟩ := hl
            rw [hb'] at hb2
            cases hb2
            simp [Box.hd] at hd2
            obtain ⟨rfl, rfl⟩ := hd2
            obtain ⟨bl, o2, cells, e, Fs, hA2, hF, hh, hc, hsz, hfl, hel⟩ := own_head (hro.box _ _ hb) hi
            rw [hA] at hA2
            cases hA2
            obtain ⟨us, h4, h5, h6⟩ := hel i hi (by omega)
            have hget : xs.getD i te'.zero = xs[i] := by simp [List.getD, hi]
            refine ⟨_, us, rfl, rfl, hro.blk _ _ hb bl (by simp [hF]), ?_, fun j v hj => ?_⟩
            · have h7 := (Rdo.noOwn hf h4).2.mono (fun _ _ => rfl) hok
              rw [hget] at h
              rcases castE_some h with ⟨h8, rfl⟩ | ⟨h8, rfl⟩ <;> subst h8 <;> exact h7
            · simp only [World.cell?, hh, Nat.add_zero]
              exact h6 j v hj
          · cases h
        · cases h
      · cases h
    · cases h
  | _ => simp [rpRd] at h

theorem fpp_rel (hro : Rdb w ok ok' fr bx γ) (hok : ∀ n, ok n → ok' n) {l : L} {cv : Value} {x : t.den} (hl : LRel w ok bx γ l cv) (h : fppRd fr t l = some x) : FppAt w ok' t x cv := by
  cases l with
  | fpp t' y =>
    obtain ⟨rfl, rfl⟩ := castT_some h
    exact FppAt.mono (fun _ _ => rfl) hok hl
  | ptr b off =>
    simp only [fppRd] at h
    split at h
    · rename_i ls hb
      have hb' := hro.sub _ _ hb
      obtain ⟨bl, cs, e, hA, hF, hh, h1, h2, h3⟩ := hro.box _ _ hb
      obtain ⟨ls2, bl2, hb2, hA2, rfl⟩ := hl
      rw [hA] at hA2
      cases hA2
      have hokb : ok' bl := hro.blk _ _ hb bl (by simp [hF])
      split at h
      · rename_i l hlo
        obtain ⟨c, hc, hr⟩ := h3.get off l hlo
        refine ⟨_, c, rfl, rfl, hokb, fun j v hj => ?_, rp_rel hro hok hr h⟩
        cases j with
        | zero => simp at hj; subst hj; simp only [World.cell?, hh]; simpa using hc
        | succ j => simp at hj
      · cases h
    · cases h
  | _ => simp [fppRd] at h

/-- What a cut needs of the boxes that are let go. -/
structure Cut (w : World) (ok ok' : Nat → Prop) (bx bx' : Bxs) (γ γ' : Gam) (ρ : Nat → Nat) (fr : Bxs) (dead : Nat → Bool) : Prop where
  okk : ∀ n, ok n → ok' n
  nam : Nam ρ bx γ bx' γ' dead
  fr : Rdb w ok ok' fr bx γ

variable {bx' : Bxs} {γ' : Gam} {dead : Nat → Bool} {ρ : Nat → Nat}

theorem WkC.rels (hc : Cut w ok ok' bx bx' γ γ' ρ fr dead) {cs ds : List Cap} (h : All2 (WkC ρ fr dead) cs ds) : ∀ {cvs : List Value}, All2 (CapRel w ok bx γ) cs cvs → All2 (CapRel w ok' bx' γ') ds cvs := by
  induction h with
  | nil => intro cvs h; cases h; exact .nil
  | @cons c d cs ds h0 _ ih =>
    intro cvs h
    cases h with
    | cons hx ht =>
      refine .cons ?_ (ih ht)
      rcases h0 with ⟨rfl, hd⟩ | ⟨t, x, rfl, hr⟩
      · exact CapRel.nam hc.okk hc.nam hd hx
      · refine rp_rel hc.fr hc.okk (l := c.L) ?_ hr
        cases c with
        | ptr b => exact hx
        | fpt t y => exact hx

theorem Wk.rel (hc : Cut w ok ok' bx bx' γ γ' ρ fr dead) {l l' : L} {cv : Value} (h : Wk ρ fr dead l l') (hr : LRel w ok bx γ l cv) : LRel w ok' bx' γ' l' cv := by
  rcases h with rfl | ⟨rfl, hd⟩ | ⟨t, x, rfl, _, hx⟩ | ⟨t, x, ⟨rfl, hx⟩ | ⟨rfl, hx⟩⟩ | ⟨f, cs, ds, rfl, rfl, hx⟩
  · trivial
  · exact LRel.nam hc.okk hc.nam hd hr
  · exact rdL_rel hc.fr hc.okk hr hx
  · exact rp_rel hc.fr hc.okk hr hx
  · exact fpp_rel hc.fr hc.okk hr hx
  · obtain ⟨cvs, h1, h2⟩ := hr
    exact ⟨cvs, h1, WkC.rels hc hx h2⟩

theorem Wk.rels (hc : Cut w ok ok' bx bx' γ γ' ρ fr dead) {ls ls' : List L} (h : All2 (Wk ρ fr dead) ls ls') : ∀ {cvs : List Value}, LsRel w ok bx γ ls cvs → LsRel w ok' bx' γ' ls' cvs := by
  induction h with
  | nil => intro cvs h; cases h; exact .nil
  | cons h0 _ ih => intro cvs h; cases h with
    | cons hx ht => exact .cons (h0.rel hc hx) (ih ht)

theorem Wk.one1 {l l' : L} (h : Wk ρ fr dead l l') (h1 : l.one = true) : l'.one = true := by
  rcases h with rfl | ⟨rfl, _⟩ | ⟨t, x, rfl, ho, _⟩ | ⟨t, x, ⟨rfl, _⟩ | ⟨rfl, _⟩⟩ | ⟨f, cs, ds, rfl, rfl, _⟩
  · rfl
  · rw [L.ren_one]; exact h1
  · exact ho h1
  · rfl
  · rfl
  · rfl

theorem Wk.one {ls ls' : List L} (h : All2 (Wk ρ fr dead) ls ls') (h1 : ∀ l ∈ ls, l.one = true) : ∀ l ∈ ls', l.one = true := by
  induction h with
  | nil => intro l hl; simp at hl
  | cons h0 _ ih =>
    intro l hl
    rcases List.mem_cons.1 hl with rfl | hl
    · exact h0.one1 (h1 _ (by simp))
    · exact ih (fun l hl => h1 l (by simp [hl])) l hl

theorem WkV.rel (hc : Cut w ok ok' bx bx' γ γ' ρ fr dead) {v v' : V} {cv : Value} (h : WkV ρ fr dead v v') (hr : VRel w ok bx γ v cv) : VRel w ok' bx' γ' v' cv := by
  rcases h with rfl | ⟨l, l', rfl, rfl, h⟩ | ⟨t, x, ls, rfl, rfl, h⟩ | ⟨ls, ls', rfl, rfl, h⟩ | ⟨t, x, ls', ho, rfl, rfl, h⟩
  · trivial
  · exact h.rel hc hr
  · exact rdW_rel (v := .agg ls) hc.fr hc.okk hr h
  · obtain ⟨h1, cvs, h2, h3, h4⟩ := hr
    exact ⟨Wk.one h h1, cvs, h2, h3, Wk.rels hc h h4⟩
  · obtain ⟨cs, h1, h2⟩ := hr
    obtain ⟨h3, h4⟩ := Ty.leaves_rel (bx := bx) (γ := γ) h1
    refine ⟨Wk.one h h4, cs, ?_, h1.oneCell, Wk.rels hc h h3⟩
    rw [h2]
    simp [pack, ho]

theorem WkB.rel (hc : Cut w ok ok' bx bx' γ γ' ρ fr dead) {b b' : Nat} {x y : Box} (hg : γ' b' = γ b) (h : WkB ρ fr dead x y) (hr : BoxRel w ok bx γ b x) : BoxRel w ok' bx' γ' b' y := by
  cases x with
  | row t xs =>
    rw [show y = .row t xs from h]
    simp only [BoxRel, hg]
    exact OwnG.mono (OkTo.of (fun _ _ => rfl) hc.okk) (fun _ _ => rfl) hr
  | var ls =>
    obtain ⟨ls', rfl, ha⟩ := h
    obtain ⟨bl, cs, e, h1, h2, h3, h4, h5, h6⟩ := hr
    exact ⟨bl, cs, e, by rw [hg]; exact h1, by rw [hg]; exact h2, h3, Wk.one ha h4, h5, Wk.rels hc ha h6⟩
  | mp t m =>
    rw [show y = .mp t m from h]
    obtain ⟨r, es, ck, h1, h2, h3, h4, h5⟩ := hr
    exact ⟨r, es, ck, by rw [hg]; exact h1, by rw [hg]; exact h2, h3, h4, h5.imp fun e _ x hx => hx.mono (fun _ _ => rfl) hc.okk⟩
  | it t rest cur =>
    rw [show y = .it t rest none from h]
    obtain ⟨bl, src, since, last, seen, h1, h2, h3, h4⟩ := hr
    refine ⟨bl, src, since, last, seen, by rw [hg]; exact h1, by rw [hg]; exact h2, h3, ?_⟩
    rcases h4 with ⟨e1, e2, _⟩ | ⟨r, es, ck, g1, g2, g3, g4, g5, g6, g7, _⟩
    · exact .inl ⟨e1, e2, rfl⟩
    · exact .inr ⟨r, es, ck, g1, hc.okk _ g2, g3, g4, g5, g6.imp fun e _ x hx => hx.mono (fun _ _ => rfl) hc.okk, g7, .inl rfl⟩
  | hole _ _ _ _ _ => exact h.elim

theorem WkB.like {x y : Box} (h : WkB ρ fr dead x y) : x.like y := by
  cases x with
  | row t xs => rw [show y = .row t xs from h]; exact Box.like.refl _
  | var ls => obtain ⟨ls', rfl, ha⟩ := h; exact ⟨ls', rfl, ha.length⟩
  | mp t m => rw [show y = .mp t m from h]; exact ⟨_, rfl⟩
  | it t r c => rw [show y = .it t r none from h]; exact ⟨_, _, rfl⟩
  | hole _ _ _ _ _ => exact h.elim
end

/-- The kept boxes' names, back. -/
def inv (σ : Nat → Nat) (ks : List Nat) (c : Nat) : Nat := (ks.find? fun b => σ b == c).getD c

theorem inv_eq {σ : Nat → Nat} : ∀ {ks : List Nat}, (ks.map σ).Nodup → ∀ b ∈ ks, inv σ ks (σ b) = b := by
  intro ks
  induction ks with
  | nil => intro _ b hb; simp at hb
  | cons k r ih =>
    intro hn b hb
    simp only [List.map_cons, List.nodup_cons] at hn
    unfold inv
    rw [List.find?_cons]
    by_cases h : σ k = σ b
    · have : (σ k == σ b) = true := by simpa using h
      rw [this]
      rcases List.mem_cons.1 hb with rfl | hb
      · rfl
      · exact absurd (h ▸ List.mem_map.2 ⟨b, hb, rfl⟩) hn.1
    · have hf : (σ k == σ b) = false := by simpa using h
      rw [hf]
      rcases List.mem_cons.1 hb with rfl | hb
      · exact absurd rfl h
      · exact ih hn.2 b hb

/-- What a description makes. -/
structure Made (d : Desc) (σ : Nat → Nat) (fr bx : Bxs) (regs pins : List V) (s0 : S) : Prop where
  bxs : s0.bx.map (·.1) = d.bx.map (·.1)
  box : ∀ b y, (b, y) ∈ s0.bx → ∃ x, find bx (σ b) = some x ∧ WkB (inv σ (d.bx.map (·.1))) fr (fun c => !((d.bx.map (·.1)).map σ).contains c) x y
  regs : ∃ rs, s0.regs = rs ++ List.replicate (d.n - rs.length) (.w (.one .un)) ∧ rs.length = d.regs.length ∧ ∀ (i : Nat) (v' : V), rs[i]? = some v' → ∃ v, regs[i]? = some v ∧ WkV (inv σ (d.bx.map (·.1))) fr (fun c => !((d.bx.map (·.1)).map σ).contains c) v v'
  pins : ∀ (i : Nat) (v' : V), s0.pins[i]? = some v' → ∃ v, pins[i]? = some v ∧ WkV (inv σ (d.bx.map (·.1))) fr (fun c => !((d.bx.map (·.1)).map σ).contains c) v v'

theorem argD_made {d : Desc} {σ : Nat → Nat} {fr bx : Bxs} {regs pins : List V} {x : (tupT d.ts).den} (h : argD σ fr bx d regs pins = some x) (hok : d.okB = true) (hinj : ((d.bx.map (·.1)).map σ).Nodup) :
    Made d σ fr bx regs pins (d.mk' x) := by
  unfold argD at h
  simp only [Option.bind_eq_some_iff] at h
  obtain ⟨xs, hx, ys, hy, zs, hz, ht⟩ := h
  simp only [Desc.okB, Bool.and_eq_true] at hok
  obtain ⟨⟨⟨hk1, hk2⟩, hk3⟩, hk4⟩ := hok
  have hρ := inv_eq hinj
  have hd : ∀ b ∈ d.bx.map (·.1), (fun c => !((d.bx.map (·.1)).map σ).contains c) (σ b) = false := by
    intro b hb
    have : σ b ∈ (d.bx.map (·.1)).map σ := List.mem_map.2 ⟨b, hb, rfl⟩
    simpa using List.mem_map.2 ⟨b, hb, rfl⟩
  obtain ⟨rs, a1, a2, a3⟩ := slots_mk (dead := fun c => !((d.bx.map (·.1)).map σ).contains c) hρ hd (ys ++ zs) hx hk2
  obtain ⟨ps, b1, b2, b3⟩ := slots_mk (dead := fun c => !((d.bx.map (·.1)).map σ).contains c) hρ hd zs hy hk3
  obtain ⟨c1, c2⟩ := bx_mk (dead := fun c => !((d.bx.map (·.1)).map σ).contains c) hρ hd hz hk4
  have hmk : d.mk' x = { regs := rs ++ List.replicate (d.n - rs.length) (.w (.one .un)), bx := mkBx d.bx zs, pins := ps } := by
    simp only [Desc.mk', ofTup_toTup ht, a1, b1]
  rw [hmk]
  exact ⟨c1, c2, ⟨rs, rfl, a2, a3⟩, b3⟩

end Go.Fl
/- Cuts hold. -/
namespace Go.Fl
open Go

theorem frOf_eq (bx : Bxs) (io : List Nat) : frOf bx io = bx.filter fun p => !io.contains p.1 := by
  cases io with
  | nil => simp only [frOf, List.contains_nil, Bool.not_false]; exact (List.filter_eq_self.2 fun _ _ => rfl).symm
  | cons => rfl

theorem made_cut {w : World} {bx fr : Bxs} {γ : Gam} {d : Desc} {σ : Nat → Nat} {regs pins : List V} {s0 : S} (hinv : BInv w bx γ) (hh : ∀ n ∈ γ.hid, n ∉ owned bx γ) (hm : Made d σ fr bx regs pins s0)
    (hks : (d.bx.map (·.1)).Nodup) (hinj : ((d.bx.map (·.1)).map σ).Nodup) {hid0 : List Nat}
    (hfr : (fr = [] ∧ ∀ n ∈ hid0, n ∈ γ.hid ∨ (n ∈ owned bx γ ∧ n ∉ FsOf γ ((d.bx.map (·.1)).map σ))) ∨ (fr = frOf bx ((d.bx.map (·.1)).map σ) ∧ ∀ n ∈ hid0, n ∈ γ.hid)) :
    Cut w (okOf w bx γ) (okOf w s0.bx ⟨fun b => γ (σ b), hid0⟩) bx s0.bx γ ⟨fun b => γ (σ b), hid0⟩ (inv σ (d.bx.map (·.1))) fr (fun c => !((d.bx.map (·.1)).map σ).contains c) ∧
    BInv w s0.bx ⟨fun b => γ (σ b), hid0⟩ ∧ owned s0.bx (fun b => γ (σ b)) = FsOf γ ((d.bx.map (·.1)).map σ) ∧ ∀ c ∈ (d.bx.map (·.1)).map σ, ∃ x, find bx c = some x := by
  have hfound : ∀ c ∈ (d.bx.map (·.1)).map σ, ∃ x, find bx c = some x := by
    intro c hc
    obtain ⟨b, hb, rfl⟩ := List.mem_map.1 hc
    have hb' : b ∈ s0.bx.map (·.1) := by rw [hm.bxs]; exact hb
    obtain ⟨p, hp, rfl⟩ := List.mem_map.1 hb'
    obtain ⟨x, hx, _⟩ := hm.box p.1 p.2 hp
    exact ⟨x, hx⟩
  have hsites : (s0.bx.map (·.1)).Nodup := by rw [hm.bxs]; exact hks
  have hown : owned s0.bx (fun b => γ (σ b)) = FsOf γ ((d.bx.map (·.1)).map σ) := by
    unfold owned FsOf
    congr 1
    have : (s0.bx.map fun p => (γ (σ p.1)).F) = (s0.bx.map (·.1)).map fun b => (γ (σ b)).F := by rw [List.map_map]; rfl
    rw [this, hm.bxs]
    simp only [List.map_map]
    rfl
  have hsub : ∀ n ∈ FsOf γ ((d.bx.map (·.1)).map σ), n ∈ owned bx γ := by
    intro n hn
    obtain ⟨k, hk, hnk⟩ := mem_FsOf.1 hn
    obtain ⟨x, hx⟩ := hfound k hk
    exact mem_owned hx hnk
  have hokk : ∀ n, okOf w bx γ n → okOf w s0.bx ⟨fun b => γ (σ b), hid0⟩ n := by
    intro n hn
    refine ⟨hn.1, fun hm' => hn.2.1 (hsub n (hown ▸ hm')), fun hm' => ?_⟩
    rcases hfr with ⟨_, h⟩ | ⟨_, h⟩
    · rcases h n hm' with h | h
      · exact hn.2.2 h
      · exact hn.2.1 h.1
    · exact hn.2.2 (h n hm')
  have hnam : Nam (inv σ (d.bx.map (·.1))) bx γ s0.bx (fun b => γ (σ b)) (fun c => !((d.bx.map (·.1)).map σ).contains c) := by
    intro c x hd hx
    have hc : c ∈ (d.bx.map (·.1)).map σ := by simpa using hd
    obtain ⟨b, hb, rfl⟩ := List.mem_map.1 hc
    have hb' : b ∈ s0.bx.map (·.1) := by rw [hm.bxs]; exact hb
    obtain ⟨p, hp, rfl⟩ := List.mem_map.1 hb'
    obtain ⟨x', hx', hw⟩ := hm.box p.1 p.2 hp
    rw [hx] at hx'
    cases hx'
    rw [inv_eq hinj p.1 hb]
    exact ⟨p.2, find_of_mem hsites hp, hw.like, rfl⟩
  have hrdb : Rdb w (okOf w bx γ) (okOf w s0.bx ⟨fun b => γ (σ b), hid0⟩) fr bx γ := by
    rcases hfr with ⟨rfl, _⟩ | ⟨rfl, h⟩
    · exact Rdb.nil _ _ _ _ _
    · rw [frOf_eq]
      have hf : ∀ b x, find (bx.filter fun p => !((d.bx.map (·.1)).map σ).contains p.1) b = some x → find bx b = some x ∧ b ∉ (d.bx.map (·.1)).map σ := by
        intro b x h
        rw [find_filter (((d.bx.map (·.1)).map σ).contains ·)] at h
        split at h
        · cases h
        · rename_i hn; exact ⟨h, by simpa using hn⟩
      refine ⟨fun b x h => (hf b x h).1, fun b x h => hinv.boxes b x (hf b x h).1, fun b x hb n hn => ?_⟩
      obtain ⟨h1, h2⟩ := hf b x hb
      have hno := mem_owned h1 hn
      refine ⟨hinv.below n hno, fun hm' => ?_, fun hm' => hh n (h n hm') hno⟩
      have hm'' : n ∈ FsOf γ ((d.bx.map (·.1)).map σ) := hown ▸ hm'
      obtain ⟨k, hk, hnk⟩ := mem_FsOf.1 hm''
      obtain ⟨y, hy⟩ := hfound k hk
      exact apart_two hinv.apart h1 hy (fun e => h2 (e ▸ hk)) hn hnk
  have hcut : Cut w (okOf w bx γ) (okOf w s0.bx ⟨fun b => γ (σ b), hid0⟩) bx s0.bx γ ⟨fun b => γ (σ b), hid0⟩ (inv σ (d.bx.map (·.1))) fr (fun c => !((d.bx.map (·.1)).map σ).contains c) := ⟨hokk, hnam, hrdb⟩
  refine ⟨hcut, ⟨hsites, ?_, ?_, ?_⟩, hown, hfound⟩
  · show (owned s0.bx (fun b => γ (σ b))).Nodup
    rw [hown]
    exact FsOf_nodup hinv.apart hinj hfound
  · intro n hn
    have hn' : n ∈ FsOf γ ((d.bx.map (·.1)).map σ) := hown ▸ hn
    exact hinv.below n (hsub n hn')
  · intro b y hb
    obtain ⟨x, hx, hw⟩ := hm.box b y (find_mem hb)
    exact hw.rel hcut rfl (hinv.boxes _ x hx)

theorem ext_sound {w w0 : World} {own0 : Ow} {s : S} {a : Act} {d : Desc} {v : (tupT d.ts).den} (h : ext d s = some v) (hst : St w0 own0 s a w) : St w0 own0 (d.mk' v) a w := by
  obtain ⟨γ, hst⟩ := hst
  unfold ext at h
  generalize sigOf d s = σ at h
  cases hc : (d.okB && Nat.ble d.n s.regs.length && Nat.ble d.regs.length d.n && nodupB ((d.bx.map (·.1)).map σ)) with
  | false => rw [hc] at h; cases h
  | true =>
    rw [hc, cond_true] at h
    simp only [Bool.and_eq_true, Nat.ble_eq] at hc
    obtain ⟨⟨⟨hok, hn⟩, hrn⟩, hnd⟩ := hc
    have hks : (d.bx.map (·.1)).Nodup := by
      have := hok
      simp only [Desc.okB, Bool.and_eq_true] at this
      exact nodupB_spec this.1.1.1
    have hinj : ((d.bx.map (·.1)).map σ).Nodup := nodupB_spec hnd
    have hm := argD_made h hok hinj
    obtain ⟨hcut, hinv, hown, hfound⟩ := made_cut (hid0 := γ.hid) hst.inv (fun n hn => hst.hid_own hn) hm hks hinj (.inr ⟨rfl, fun n hn => hn⟩)
    have hown' : ∀ n ∈ owned (d.mk' v).bx (fun b => γ (σ b)), n ∈ owned s.bx γ := by
      intro n hn
      have hn' : n ∈ FsOf γ ((d.bx.map (·.1)).map σ) := hown ▸ hn
      obtain ⟨k, hk, hnk⟩ := mem_FsOf.1 hn'
      obtain ⟨x, hx⟩ := hfound k hk
      exact mem_owned hx hnk
    obtain ⟨rs, e1, e2, e3⟩ := hm.regs
    refine ⟨⟨fun b => γ (σ b), γ.hid⟩, hinv, fun r v' hv' => ?_, ?_, fun r v' hv' => ?_, hst.hid, hst.hidb, hst.fr, fun n hn => hst.sub n (hown' n hn), hst.defers⟩
    · rw [e1] at hv'
      rcases Nat.lt_or_ge r rs.length with hr | hr
      · rw [List.getElem?_append_left hr] at hv'
        obtain ⟨v0, hv0, hwk⟩ := e3 r v' hv'
        exact hwk.rel hcut (hst.regs r v0 hv0)
      · rw [List.getElem?_append_right hr, List.getElem?_replicate] at hv'
        split at hv'
        · cases hv'; exact VRel.un _
        · cases hv'
    · rw [e1]
      have := hst.len
      simp only [List.length_append, List.length_replicate]
      omega
    · obtain ⟨v0, hv0, hwk⟩ := hm.pins r v' hv'
      exact hwk.rel hcut (hst.pins r v0 hv0)

end Go.Fl
/- Contracts; what leads to nothing that is only read. -/
namespace Go.Fl
open Go

/-- Which end it is. -/
def outIs : (os : Outs) → outT os → Desc → S → Prop
  | [], _, _, _ => False
  | [(_, d)], v, d', s => d' = d ∧ s = d.mk' v
  | (_, d) :: _ :: _, .inl v, d', s => d' = d ∧ s = d.mk' v
  | _ :: o :: r, .inr v, d', s => outIs (o :: r) v d' s

theorem outTr_can {α : Type} {K : Desc → S → Tr α} {r : α} : ∀ {os : Outs} {v : outT os}, (outTr K os v).can r → ∃ d s1, outIs os v d s1 ∧ (∃ e, (e, d) ∈ os) ∧ (∃ x, s1 = d.mk' x) ∧ (K d s1).can r := by
  intro os
  induction os with
  | nil => intro v _; cases v
  | cons p os ih =>
    obtain ⟨e, d⟩ := p
    cases os with
    | nil => intro v h; exact ⟨d, _, ⟨rfl, rfl⟩, ⟨e, by simp⟩, ⟨v, rfl⟩, h⟩
    | cons q os =>
      intro v h
      rcases h with ⟨x, hx, h⟩ | ⟨y, hy, h⟩
      · subst hx
        exact ⟨d, _, ⟨rfl, rfl⟩, ⟨e, by simp⟩, ⟨x, rfl⟩, h⟩
      · subst hy
        obtain ⟨d', s1, h1, ⟨e', h2⟩, h3, h4⟩ := ih h
        exact ⟨d', s1, h1, ⟨e', List.mem_cons_of_mem _ h2⟩, h3, h4⟩

theorem outIs_eq : ∀ {os : Outs} {v : outT os} {d d' : Desc} {s s' : S}, outIs os v d s → outIs os v d' s' → d' = d ∧ s' = s := by
  intro os
  induction os with
  | nil => intro v; cases v
  | cons p os ih =>
    obtain ⟨e, d⟩ := p
    cases os with
    | nil => rintro v _ _ _ _ ⟨rfl, rfl⟩ ⟨rfl, rfl⟩; exact ⟨rfl, rfl⟩
    | cons q os =>
      intro v
      cases v with
      | inl v => rintro _ _ _ _ ⟨rfl, rfl⟩ ⟨rfl, rfl⟩; exact ⟨rfl, rfl⟩
      | inr v => intro _ _ _ _ h h'; exact ih h h'

def retV : List Value → Value
  | [v] => v
  | vs => .tuple vs.toArray

/-- A function that can be called. -/
def Callable (P : Program) (f : Nat) : Prop := ∃ fn, P.funcs[f]? = some fn ∧ (fn.name == "runtime.NumGoroutine") = false ∧ fn.body.isNone = false

/-- What a call is handed. -/
structure At (w : World) (γ : Gam) (s : S) (vals : List Value) : Prop where
  inv : BInv w s.bx γ
  regs : All2 (VRel w (okOf w s.bx γ) s.bx γ) s.regs vals
  hid : (∀ n ∈ γ.hid, n < w.heap.size ∧ n ∉ owned s.bx γ) ∧ GK w ∧ ∀ n, n < GKn → n < w.heap.size ∧ n ∉ owned s.bx γ

/-- What a call leaves; 'own', 'vals', 'γ', 'w': what it was handed. -/
structure After (w : World) (γ : Gam) (own : List Nat) (vals : List Value) (s1 : S) (γ1 : Gam) (vals' : List Value) (w' : World) : Prop where
  inv : BInv w' s1.bx γ1
  regs : All2 (VRel w' (okOf w' s1.bx γ1) s1.bx γ1) s1.regs vals'
  pins : ∀ (i : Nat) (v : V), s1.pins[i]? = some v → VRel w' (okOf w' s1.bx γ1) s1.bx γ1 v (vals.getD i undef)
  fr : Fr own w w'
  sub : ∀ n ∈ owned s1.bx γ1, n ∈ own ∨ w.heap.size ≤ n
  hid : γ1.hid = γ.hid

/-- The cells of a block. -/
def cellsAt (w : World) : Option Addr → List Value
  | some a => match w.heap[a.block]? with
    | some (.cells cs _ _) => cs.toList
    | _ => []
  | none => []

/-- What the variables that are handed over hold. -/
def cvals (w : World) (γ : Nat → Gh) : Bxs → List Value
  | [] => []
  | (b, .var _) :: r => cellsAt w (γ b).A ++ cvals w γ r
  | _ :: r => cvals w γ r

/-- What a contract says. -/
def Spec (P : Program) (c : Con) : Prop :=
  Callable P c.f ∧ c.okB = true ∧ ∀ (x : (tupT c.din.ts).den) (o : outT c.outs), c.F x = some o → ∀ (w : World) (γ : Gam) (vals : List Value), At w γ (c.din.mk' x) vals →
    Calls P c.f vals.toArray w fun
      | .returned v, w' => ∀ d s1, outIs c.outs o d s1 → ∃ γ1 vals', v = retV vals' ∧ After w γ (owned (c.din.mk' x).bx γ) (vals ++ cvals w γ (c.din.mk' x).bx) s1 γ1 vals' w'
      | _, _ => False

/-! ### Nothing deep -/

def Cap.sh : Cap → Bool
  | .ptr _ => true
  | .fpt _ _ => false

def L.sh : L → Bool
  | .val t _ => t.flat
  | .fpt _ _ => false
  | .fpp _ _ => false
  | .clo _ cs => cs.all (·.sh)
  | _ => true

def W.sh : W → Bool
  | .one l => l.sh
  | .agg ls => ls.all (·.sh)

def V.sh : V → Bool
  | .w x => x.sh
  | .tup xs => xs.all (·.sh)

def Box.sh : Box → Bool
  | .row t _ => t.free
  | .var ls => ls.all (·.sh)
  | .mp t _ => t.flat
  | _ => false

section
variable {w : World} {ok ok' : Nat → Prop} {bx : Bxs} {γ : Nat → Gh}

theorem LRel.okAny {l : L} {cv : Value} (hs : l.sh = true) (h : LRel w ok bx γ l cv) : LRel w ok' bx γ l cv := by
  cases l with
  | val t x => obtain ⟨cs, h1, h2⟩ := h; exact ⟨cs, h1.okAny hs, h2⟩
  | fpt t x => cases hs
  | fpp t x => cases hs
  | clo f cs =>
    obtain ⟨cvs, h1, h2⟩ := h
    refine ⟨cvs, h1, h2.imp fun c hc cv hr => ?_⟩
    have := List.all_eq_true.1 hs c hc
    cases c with
    | ptr b => exact hr
    | fpt t x => cases this
  | _ => exact h

theorem LsRel.okAny {ls : List L} {cvs : List Value} (hs : ls.all (·.sh) = true) (h : LsRel w ok bx γ ls cvs) : LsRel w ok' bx γ ls cvs :=
  All2.imp h fun l hl _ hr => LRel.okAny (List.all_eq_true.1 hs l hl) hr

theorem WRel.okAny {x : W} {cv : Value} (hs : x.sh = true) (h : WRel w ok bx γ x cv) : WRel w ok' bx γ x cv := by
  cases x with
  | one l => exact LRel.okAny (l := l) hs h
  | agg ls => obtain ⟨h0, cvs, h1, h2, h3⟩ := h; exact ⟨h0, cvs, h1, h2, LsRel.okAny hs h3⟩

theorem VRel.okAny {v : V} {cv : Value} (hs : v.sh = true) (h : VRel w ok bx γ v cv) : VRel w ok' bx γ v cv := by
  cases v with
  | w x => exact WRel.okAny (x := x) hs h
  | tup xs => obtain ⟨cvs, h1, h2⟩ := h; exact ⟨cvs, h1, h2.imp fun x hx _ hr => WRel.okAny (List.all_eq_true.1 hs x hx) hr⟩

theorem OwnG.okAny' {t : Ty} (ht : t.free = true) {xs : List t.den} {A : Option Addr} {c : Nat} {F : List Nat} (h : OwnG w t.sz (Rdo w ok t) xs A c F) : OwnG w t.sz (Rdo w ok' t) xs A c F := by
  rcases h with h | ⟨bl, off, cells, e, Fs, h1, h2, h3, h4, h5, h6, h7⟩
  · exact .inl h
  · refine .inr ⟨bl, off, cells, e, Fs, h1, h2, h3, h4, h5, h6, fun i hi hi' => ?_⟩
    obtain ⟨us, g1, g2⟩ := h7 i hi hi'
    exact ⟨us, g1.okAny ht, g2⟩

theorem BoxRel.okAny {b : Nat} {x : Box} (hs : x.sh = true) (h : BoxRel w ok bx γ b x) : BoxRel w ok' bx γ b x := by
  cases x with
  | row t xs => exact OwnG.okAny' hs h
  | var ls => obtain ⟨bl, cs, e, h1, h2, h3, h4, h5, h6⟩ := h; exact ⟨bl, cs, e, h1, h2, h3, h4, h5, LsRel.okAny hs h6⟩
  | mp t m =>
    obtain ⟨r, es, ck, h1, h2, h3, h4, h5⟩ := h
    exact ⟨r, es, ck, h1, h2, h3, h4, h5.imp fun e _ x ⟨g1, us, g2, g3⟩ => ⟨g1, us, g2.okAny hs, g3⟩⟩
  | it t r c => cases hs
  | hole t xs i o l => cases hs
end

/-! ### What a description makes, from values of its types -/

theorem ofTup_ts : ∀ (ts : List Ty) (x : (tupT ts).den), (ofTup ts x).map (·.1) = ts := by
  intro ts
  induction ts with
  | nil => intro x; rfl
  | cons t ts ih => intro x; show t :: (ofTup ts x.2).map (·.1) = _; rw [ih]

theorem dyn_cons {y : Dyn} {t : Ty} {r : List Ty} (h : y.map (·.1) = t :: r) : ∃ (x : t.den) (z : Dyn), y = ⟨t, x⟩ :: z ∧ z.map (·.1) = r := by
  cases y with
  | nil => simp at h
  | cons d z =>
    obtain ⟨t', x⟩ := d
    simp at h
    obtain ⟨rfl, h⟩ := h
    exact ⟨x, z, rfl, h⟩

theorem caps_ty : ∀ {cs : List (Nat ⊕ Ty)} {y : Dyn} {r : List Ty}, y.map (·.1) = capsT cs ++ r → ((mkCaps cs y).2.map (·.1)) = r ∧ ((cs.any fun | .inl _ => false | .inr _ => true) = false → (mkCaps cs y).1.all (·.sh) = true) := by
  intro cs
  induction cs with
  | nil => intro y r h; exact ⟨h, fun _ => rfl⟩
  | cons c cs ih =>
    intro y r h
    cases c with
    | inl b =>
      obtain ⟨h1, h2⟩ := ih (y := y) (r := r) h
      exact ⟨h1, fun h => by
        have := h2 (by simpa using h)
        simpa [mkCaps, Cap.sh] using this⟩
    | inr t =>
      obtain ⟨x, z, rfl, hz⟩ := dyn_cons h
      obtain ⟨h1, _⟩ := ih (y := z) (r := r) hz
      exact ⟨h1, fun h => by simp at h⟩

theorem leaf_ty {d : LD} {y : Dyn} {r : List Ty} (h : y.map (·.1) = d.ts ++ r) : ((d.mk y).2.map (·.1)) = r ∧ (d.deep = false → (d.mk y).1.sh = true) := by
  cases d with
  | un => exact ⟨h, fun _ => rfl⟩
  | val t =>
    obtain ⟨x, z, rfl, hz⟩ := dyn_cons h
    exact ⟨hz, fun hd => by
      have : t.flat = true := by simpa [LD.deep] using hd
      exact this⟩
  | fpt t =>
    obtain ⟨x, z, rfl, hz⟩ := dyn_cons h
    exact ⟨hz, fun hd => by simp [LD.deep] at hd⟩
  | fpp t =>
    obtain ⟨x, z, rfl, hz⟩ := dyn_cons h
    exact ⟨hz, fun hd => by simp [LD.deep] at hd⟩
  | lit l =>
    refine ⟨h, fun hd => ?_⟩
    cases l <;> first | rfl | (simp [LD.deep] at hd)
  | clo f cs =>
    obtain ⟨h1, h2⟩ := caps_ty h
    exact ⟨h1, h2⟩
  | ept b off =>
    obtain ⟨x, z, rfl, hz⟩ := dyn_cons h
    exact ⟨hz, fun _ => rfl⟩
  | nrow b off =>
    obtain ⟨x, z, rfl, hz⟩ := dyn_cons h
    exact ⟨hz, fun _ => rfl⟩

theorem leaves_ty : ∀ {ds : List LD} {y : Dyn} {r : List Ty}, y.map (·.1) = ds.flatMap (·.ts) ++ r → ((mkLs ds y).2.map (·.1)) = r ∧ (ds.any (·.deep) = false → (mkLs ds y).1.all (·.sh) = true) := by
  intro ds
  induction ds with
  | nil => intro y r h; exact ⟨h, fun _ => rfl⟩
  | cons d ds ih =>
    intro y r h
    rw [List.flatMap_cons, List.append_assoc] at h
    obtain ⟨h1, h2⟩ := leaf_ty h
    obtain ⟨h3, h4⟩ := ih h1
    refine ⟨h3, fun hd => ?_⟩
    simp only [List.any_cons, Bool.or_eq_false_iff] at hd
    simp only [mkLs, List.all_cons, Bool.and_eq_true]
    exact ⟨h2 hd.1, h4 hd.2⟩

theorem slot_ty {d : VD} {y : Dyn} {r : List Ty} (h : y.map (·.1) = d.ts ++ r) : ((d.mk y).2.map (·.1)) = r ∧ (d.deep = false → (d.mk y).1.sh = true) := by
  cases d with
  | one l => exact leaf_ty (d := l) h
  | agg ls => exact leaves_ty (ds := ls) h

theorem slots_ty : ∀ {ds : List VD} {y : Dyn} {r : List Ty}, y.map (·.1) = ds.flatMap (·.ts) ++ r → ((mkRegs ds y).2.map (·.1)) = r ∧ (mkRegs ds y).1.length = ds.length ∧ (ds.any (·.deep) = false → (mkRegs ds y).1.all (·.sh) = true) := by
  intro ds
  induction ds with
  | nil => intro y r h; exact ⟨h, rfl, fun _ => rfl⟩
  | cons d ds ih =>
    intro y r h
    rw [List.flatMap_cons, List.append_assoc] at h
    obtain ⟨h1, h2⟩ := slot_ty h
    obtain ⟨h3, h5, h4⟩ := ih h1
    refine ⟨h3, by simp [mkRegs, h5], fun hd => ?_⟩
    simp only [List.any_cons, Bool.or_eq_false_iff] at hd
    simp only [mkRegs, List.all_cons, Bool.and_eq_true]
    exact ⟨h2 hd.1, h4 hd.2⟩

def BD.box : BD → Box → Prop
  | .row t, y => ∃ xs, y = .row t xs
  | .mp t, y => ∃ m, y = .mp t m
  | .it t, y => ∃ m, y = .it t m none
  | .var ds, y => ∃ ls, y = .var ls ∧ ls.length = ds.length

theorem mkLs_length : ∀ (ds : List LD) (y : Dyn), (mkLs ds y).1.length = ds.length := by
  intro ds
  induction ds with
  | nil => intro y; rfl
  | cons d ds ih => intro y; simp [mkLs, ih]

theorem bx_ty : ∀ {ds : List (Nat × BD)} {y : Dyn}, y.map (·.1) = ds.flatMap (·.2.ts) → (mkBx ds y).map (·.1) = ds.map (·.1) ∧ (ds.any (·.2.deep) = false → (mkBx ds y).all (·.2.sh) = true) ∧
    ∀ b d, find ds b = some d → ∃ x, find (mkBx ds y) b = some x ∧ d.box x := by
  intro ds
  induction ds with
  | nil => intro y h; exact ⟨rfl, fun _ => rfl, fun b d h => by cases h⟩
  | cons p ds ih =>
    obtain ⟨b, d⟩ := p
    intro y h
    rw [List.flatMap_cons] at h
    have fin : ∀ {x : Box} {z : Dyn}, mkBx ((b, d) :: ds) y = (b, x) :: mkBx ds z → z.map (·.1) = ds.flatMap (·.2.ts) → d.box x → (d.deep = false → x.sh = true) →
        (mkBx ((b, d) :: ds) y).map (·.1) = ((b, d) :: ds).map (·.1) ∧ (((b, d) :: ds).any (·.2.deep) = false → (mkBx ((b, d) :: ds) y).all (·.2.sh) = true) ∧
          ∀ k e, find ((b, d) :: ds) k = some e → ∃ x, find (mkBx ((b, d) :: ds) y) k = some x ∧ e.box x := by
      intro x z he hz hb hs
      obtain ⟨h1, h2, h3⟩ := ih hz
      rw [he]
      refine ⟨by simp [h1], fun hd => ?_, fun k e hk => ?_⟩
      · simp only [List.any_cons, Bool.or_eq_false_iff] at hd
        simp only [List.all_cons, Bool.and_eq_true]
        exact ⟨hs hd.1, h2 hd.2⟩
      · rw [find_cons] at hk ⊢
        split at hk
        · cases hk; exact ⟨x, by simp_all, hb⟩
        · rename_i hne
          rw [if_neg hne]
          exact h3 k e hk
    cases d with
    | row t =>
      obtain ⟨x, z, rfl, hz⟩ := dyn_cons h
      exact fin (x := .row t x) (z := z) rfl hz ⟨x, rfl⟩ (fun hd => by simpa [BD.deep, Box.sh] using hd)
    | mp t =>
      obtain ⟨x, z, rfl, hz⟩ := dyn_cons h
      exact fin (x := .mp t x) (z := z) rfl hz ⟨x, rfl⟩ (fun hd => by simpa [BD.deep, Box.sh] using hd)
    | it t =>
      obtain ⟨x, z, rfl, hz⟩ := dyn_cons h
      exact fin (x := .it t x none) (z := z) rfl hz ⟨x, rfl⟩ (fun hd => by simp [BD.deep] at hd)
    | var ls =>
      obtain ⟨h1, h2⟩ := leaves_ty (ds := ls) h
      exact fin (x := .var (mkLs ls y).1) (z := (mkLs ls y).2) rfl h1 ⟨_, rfl, mkLs_length _ _⟩ h2

structure Shape (d : Desc) (s1 : S) : Prop where
  bxs : s1.bx.map (·.1) = d.bx.map (·.1)
  box : ∀ b e, find d.bx b = some e → ∃ x, find s1.bx b = some x ∧ e.box x
  regs : d.regs.length = d.n → s1.regs.length = d.n
  sh : d.deep = false → s1.regs.all (·.sh) = true ∧ s1.pins.all (·.sh) = true ∧ s1.bx.all (·.2.sh) = true

theorem mk_shape (d : Desc) (x : (tupT d.ts).den) : Shape d (d.mk' x) := by
  have h := ofTup_ts d.ts x
  obtain ⟨h1, h2, h3⟩ := slots_ty (ds := d.regs) (r := d.pins.flatMap (·.ts) ++ d.bx.flatMap (·.2.ts)) h
  obtain ⟨h4, _, h5⟩ := slots_ty (ds := d.pins) (r := d.bx.flatMap (·.2.ts)) h1
  obtain ⟨h6, h7, h8⟩ := bx_ty h4
  refine ⟨h6, h8, fun hn => ?_, fun hd => ?_⟩
  · simp only [Desc.mk', List.length_append, List.length_replicate, h2]; omega
  · simp only [Desc.deep, Bool.or_eq_false_iff] at hd
    refine ⟨?_, h5 hd.1.2, h7 hd.2⟩
    simp only [Desc.mk', List.all_append, h3 hd.1.1, Bool.true_and]
    exact List.all_eq_true.2 fun v hv => by rw [(List.mem_replicate.1 hv).2]; rfl

end Go.Fl
