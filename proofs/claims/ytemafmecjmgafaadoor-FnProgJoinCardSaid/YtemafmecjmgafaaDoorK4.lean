/- An evaluator of loaded functions, and that it is sound (part 4); no conditions. -/
import Derived.Test.YtemafmecjmgafaaDoorK3
import Derived.Shelf.Strings.Builder1
import Derived.Test.YtemafmecjmgafaaDoorK1
import Derived.Test.YtemafmecjmgafaaDoorRows
import Derived.Stop.LaidErr
import Derived.Shelf.Lay
import Derived.Shelf.LaysM
import Derived.Shelf.Strings.Shaped
set_option linter.all false
namespace Go.Fl
open Go Go.Proofs Go.Shelf Go.RowKit
set_option maxRecDepth 100000
/-- Numbers, each with a blank ahead. -/
def numsT (ns : List Int) : List UInt8 := (ns.map fun n => 32 :: Lib.itoa n).flatten
def opNums (o : OpD) : List Int := (kOffs o.1.toNat).map fun j => (opL o).getD j 0
theorem ba_app (a b : List UInt8) : ByteArray.mk a.toArray ++ ByteArray.mk b.toArray = ByteArray.mk (a ++ b).toArray := by
  apply ByteArray.ext
  simp
theorem numsT_len : ∀ ns : List Int, (∀ n ∈ ns, -9223372036854775808 ≤ n ∧ n ≤ 9223372036854775807) → (numsT ns).length ≤ 22 * ns.length
  | [], _ => by simp [numsT]
  | n :: ns, h => by
    have h1 := numsT_len ns (fun x hx => h x (List.mem_cons_of_mem _ hx))
    have h2 := h n (by simp)
    have h3 := itoaLen h2.1 h2.2
    simp only [numsT, List.map_cons, List.flatten_cons, List.length_append, List.length_cons] at h1 ⊢
    omega
theorem szd_rng {n : Int} (h : szd n = true) : -9223372036854775808 ≤ n ∧ n ≤ 9223372036854775807 := by
  simp only [szd, Bool.and_eq_true, decide_eq_true_eq] at h; omega
theorem kOffs_len (k : Nat) : (kOffs k).length ≤ 4 := by
  unfold kOffs; split <;> simp
theorem kWord_len (k : Nat) : (kWord k).length ≤ 5 := by
  unfold kWord; split <;> simp
theorem numsT_take {ns : List Int} {i : Nat} (h : i < ns.length) : numsT (ns.take (i + 1)) = numsT (ns.take i) ++ 32 :: Lib.itoa ns[i] := by
  have e : ns.take (i + 1) = ns.take i ++ [ns[i]] := by rw [List.take_add_one, List.getElem?_eq_getElem h]; rfl
  rw [e]
  simp only [numsT, List.map_append, List.flatten_append, List.map_cons, List.map_nil, List.flatten_cons, List.flatten_nil, List.append_nil]
theorem Tryd.OpText (o : OpD) (k : Nat) (hk : o.1 = k) (h1 : 1 ≤ k) (h11 : k ≤ 11) (hok : FqOpOk 0 (o, ()) = some (true, ())) (w : World) (hg : GK w) :
    Calls Tryd.prog 32 #[opV o] w fun e w' => e = .returned (.string (if (opNums o).all szd = true then ByteArray.mk (kWord k ++ numsT (opNums o)).toArray else ByteArray.mk #[])) ∧ Below w.heap.size w w' := by
  have hcall := Tryd.opOk o true hok
  obtain ⟨a0, a1, a2, a3, a4, a5, ⟨a6, a7, ⟨⟩⟩, ⟨⟩⟩ := o
  simp only at hk
  subst hk
  generalize hns : opNums ((k : Int), a1, a2, a3, a4, a5, (a6, a7, ()), ()) = ns
  have hcells : opV ((k : Int), a1, a2, a3, a4, a5, (a6, a7, ()), ()) = .agg #[.int .i64 k, .int .i64 a1, .int .i64 a2, .int .i64 a3, .int .i64 a4, .int .i64 a5, .int .i64 a6, .int .i64 a7] := rfl
  rw [hcells] at hcall ⊢
  generalize hR : (if ns.all szd = true then ByteArray.mk (kWord k ++ numsT ns).toArray else ByteArray.mk #[]) = R
  have hnl : ns.length = (kOffs k).length := by rw [← hns]; simp [opNums]
  have hn4 : (kOffs k).length ≤ 4 := by
    have : k = 1 ∨ k = 2 ∨ k = 3 ∨ k = 4 ∨ k = 5 ∨ k = 6 ∨ k = 7 ∨ k = 8 ∨ k = 9 ∨ k = 10 ∨ k = 11 := by omega
    rcases this with rfl | rfl | rfl | rfl | rfl | rfl | rfl | rfl | rfl | rfl | rfl <;> decide
  go_enter Tryd.func32, Tryd.ntmps32
  go_wp2_with (go_at_call 44; refine (hcall _ ?_).mono ?_)
  · exact GK_mono (fun n hn => Below.heap_alloc _ _ _ (Nat.lt_of_lt_of_le hn hg.size)) (by simp) hg
  · rintro e W1 ⟨rfl, hb⟩
    have hc : ∀ (j : Nat) (v : Value), #[Value.int .i64 k, .int .i64 a1, .int .i64 a2, .int .i64 a3, .int .i64 a4, .int .i64 a5, .int .i64 a6, .int .i64 a7][j]? = some v → W1.cell? ⟨w.heap.size, j, none⟩ = some v := by
      intro j v hj
      rw [hb.cell (by simp)]
      rw [← hj]
      exact World.cell?_alloc_new _ _ _ _
    have hb0 : Below w.heap.size w W1 := Below.trans' ((Below.refl _ w).alloc (Nat.le_refl _) _) hb
    have hg1 : GK W1 := GK_mono (fun n hn => hb0.block n (Nat.lt_of_lt_of_le hn hg.size)) hb0.size hg
    have hsz : w.heap.size < W1.heap.size := by have := hb.size; simp at this; omega
    generalize (w.alloc (.cells #[Value.int .i64 k, .int .i64 a1, .int .i64 a2, .int .i64 a3, .int .i64 a4, .int .i64 a5, .int .i64 a6, .int .i64 a7] 35)) = w1 at *
    go_wp2_with (go_at_call 61; refine (Tryd.spoken k h1 h11 w.heap.size _ ?_).mono ?_)
    · exact hc 0 _ rfl
    · rintro e W2 ⟨sl, rfl, hb2, A, rfl, hA⟩
      have hg2 : GK W2 := GK_mono (fun n hn => hb2.block n (Nat.lt_of_lt_of_le hn hg1.size)) hb2.size hg1
      go_wp2
      have hcell2 : ∀ (j : Nat) (hj : j < ns.length) (x : Nat), x = (kOffs k)[j]'(by omega) → W2.cell? ⟨w.heap.size, x, none⟩ = some (.int .i64 ns[j]) := by
        intro j hj x hx
        rw [hb2.cell (by simpa using hsz)]
        have hx8 : x < 8 := by
          have hm : x ∈ kOffs k := by rw [hx]; exact List.getElem_mem _
          have : k = 1 ∨ k = 2 ∨ k = 3 ∨ k = 4 ∨ k = 5 ∨ k = 6 ∨ k = 7 ∨ k = 8 ∨ k = 9 ∨ k = 10 ∨ k = 11 := by omega
          rcases this with rfl | rfl | rfl | rfl | rfl | rfl | rfl | rfl | rfl | rfl | rfl <;> simp [kOffs] at hm <;> omega
        have e : ns[j] = (opL ((k : Int), a1, a2, a3, a4, a5, (a6, a7, ()), ())).getD x 0 := by
          simp only [← hns, opNums, List.getElem_map, Int.toNat_natCast, hx]
        rw [e]
        apply hc
        have : x = 0 ∨ x = 1 ∨ x = 2 ∨ x = 3 ∨ x = 4 ∨ x = 5 ∨ x = 6 ∨ x = 7 := by omega
        rcases this with h | h | h | h | h | h | h | h <;> rw [h] <;> rfl
      clear hc hcall hok hcells
      go_loopw [3, 16] (fun s i wr => ∃ j : Nat, j ≤ ns.length ∧ i = .int .i64 j ∧ s = .string (ByteArray.mk (kWord k ++ numsT (ns.take j)).toArray) ∧ (ns.take j).all szd = true ∧ Below W2.heap.size W2 wr)
        (fun _ i _ => ns.length - (intOf i).toNat)
      case atStart => exact ⟨0, Nat.zero_le _, rfl, by simp [numsT], by simp, Below.refl _ _⟩
      case round =>
        obtain ⟨j, hj, rfl, rfl, hall, hwr⟩ := hrel
        have hgr : GK wr := GK_mono (fun n hn => hwr.block n (Nat.lt_of_lt_of_le hn hg2.size)) hwr.size hg2
        have hw2 : w.heap.size < W2.heap.size := by have := hb2.size; omega
        by_cases hlt : j < ns.length
        · obtain ⟨B, rfl, hB1, hB2, hBc⟩ := hA j (by omega)
          have hp : wr.cell? ⟨B, j, none⟩ = some (.pointer (some ⟨w.heap.size, (kOffs k)[j]'(by omega), none⟩)) := by rw [hwr.cell (by simpa using hB2)]; exact hBc
          have hv : wr.cell? ⟨w.heap.size, (kOffs k)[j]'(by omega), none⟩ = some (.int .i64 ns[j]) := by rw [hwr.cell (by simpa using hw2)]; exact hcell2 j hlt _ rfl
          generalize (kOffs k)[j]'(by omega) = x at hp hv
          have hjl : (j : Int) < (kOffs k).length := by omega
          have hq2 := kWord_len k
          have hq3 := numsT_len (ns.take j) (fun n hn => szd_rng (List.all_eq_true.1 hall n hn))
          have hq4 : (ns.take j).length ≤ 4 := by simp; omega
          clear hA hcell2 hBc
          have hb02 : Below w.heap.size w W2 := Below.trans' hb0 hb2
          have hb0r : Below w.heap.size w wr := Below.trans' hb02 hwr
          have hsc := Tryd.sized ns[j] wr hgr
          cases hz : szd ns[j] with
          | false =>
            rw [hz] at hsc
            have hna : ns.all szd = false := by
              rw [List.all_eq_false]; exact ⟨ns[j], List.getElem_mem _, by rw [hz]; simp⟩
            rw [if_neg (by rw [hna]; simp)] at hR
            subst hR
            go_wp2_with (go_at_call 54; refine hsc.mono ?_; rintro e W3 ⟨rfl, hb3⟩)
            go_ret
            exact ⟨rfl, Below.trans' hb0r hb3⟩
          | true =>
            have hnj := szd_rng hz
            have hq1 := itoaLen hnj.1 hnj.2
            rw [hz] at hsc
            go_wp2_with (first
              | (go_at_call 54; refine hsc.mono ?_; rintro e W3 ⟨rfl, hb3⟩; have hv3 : W3.cell? ⟨w.heap.size, x, none⟩ = some (.int .i64 ns[j]) := (by rw [hb3.cell (by have := hwr.size; simp; omega)]; exact hv); have hg3 : GK W3 := GK_mono (fun n hn => hb3.block n (Nat.lt_of_lt_of_le hn hgr.size)) hb3.size hgr)
              | (go_at_call 55; refine (Any.strconv_Itoa Tryd.laysM171 ns[j] hnj.1 hnj.2 _ hg3.pow).mono ?_; rintro e W4 ⟨rfl, kk, os, rfl⟩))
            all_goals first
              | (exfalso; omega)
              | skip
            refine ⟨⟨j + 1, by omega, ?_, ?_, ?_, ?_⟩, ?_⟩
            · simp
            · have e32 : ByteArray.mk #[32] = ByteArray.mk ([32] : List UInt8).toArray := rfl
              rw [e32, ba_app, ba_app, numsT_take hlt]
              simp
            · rw [List.take_add_one, List.getElem?_eq_getElem hlt, List.all_append, hall]
              simp [hz]
            · exact Below.trans' hwr (Below.trans' hb3 (grow_below _ _ _))
            · simp [intOf]; omega
        · have hje : j = ns.length := by omega
          subst hje
          have hjl : ¬ ((ns.length : Int) < ((kOffs k).length : Int)) := by omega
          rw [List.take_length] at hall ⊢
          rw [if_pos hall] at hR
          subst hR
          clear hA hcell2
          have hb02 : Below w.heap.size w W2 := Below.trans' hb0 hb2
          have hb0r : Below w.heap.size w wr := Below.trans' hb02 hwr
          go_wp2
          go_ret
          exact ⟨rfl, hb0r⟩
end Go.Fl
/- impl.OpText: its contract. -/
namespace Go.Fl
open Go Go.Proofs Go.Shelf Go.RowKit
set_option maxRecDepth 100000
abbrev opTy : Ty := .pair (.int .i64) (.pair (.int .i64) (.pair (.int .i64) (.pair (.int .i64) (.pair (.int .i64) (.pair (.int .i64) (.pair (.pair (.int .i64) (.pair (.int .i64) .unit)) .unit))))))
def opD (l : List Int) : OpD := (l.getD 0 0, l.getD 1 0, l.getD 2 0, l.getD 3 0, l.getD 4 0, l.getD 5 0, (l.getD 6 0, l.getD 7 0, ()), ())
theorem opD_opL {l : List Int} (h : l.length = 8) : opL (opD l) = l := by
  match l, h with
  | [c0, c1, c2, c3, c4, c5, c6, c7], _ => rfl
theorem opV_rel (w : World) (ok : Nat → Prop) (o : OpD) : ∃ cs, Rdf w ok opTy o cs ∧ opV o = pack opTy cs := by
  obtain ⟨a0, a1, a2, a3, a4, a5, ⟨a6, a7, ⟨⟩⟩, ⟨⟩⟩ := o
  exact ⟨[.int .i64 a0, .int .i64 a1, .int .i64 a2, .int .i64 a3, .int .i64 a4, .int .i64 a5, .int .i64 a6, .int .i64 a7], ⟨[_], [_, _, _, _, _, _, _], rfl, rfl, [_], [_, _, _, _, _, _], rfl, rfl, [_], [_, _, _, _, _], rfl, rfl, [_], [_, _, _, _], rfl, rfl, [_], [_, _, _], rfl, rfl, [_], [_, _], rfl, rfl, [_, _], [], rfl, ⟨[_], [_], rfl, rfl, [_], [], rfl, rfl, rfl⟩, rfl⟩, rfl⟩
theorem opV_of {w : World} {ok : Nat → Prop} {o : OpD} {cs : List Value} (h : Rdf w ok opTy o cs) : pack opTy cs = opV o := by
  obtain ⟨a0, a1, a2, a3, a4, a5, ⟨a6, a7, ⟨⟩⟩, ⟨⟩⟩ := o
  obtain ⟨u0, v0, rfl, h0, u1, v1, rfl, h1, u2, v2, rfl, h2, u3, v3, rfl, h3, u4, v4, rfl, h4, u5, v5, rfl, h5, u6, v6, rfl, ⟨u7, v7, rfl, h7, u8, v8, rfl, h8, h9⟩, h6⟩ := h
  have e0 : u0 = [.int .i64 a0] := h0
  have e1 : u1 = [.int .i64 a1] := h1
  have e2 : u2 = [.int .i64 a2] := h2
  have e3 : u3 = [.int .i64 a3] := h3
  have e4 : u4 = [.int .i64 a4] := h4
  have e5 : u5 = [.int .i64 a5] := h5
  have e6 : v6 = [] := h6
  have e7 : u7 = [.int .i64 a6] := h7
  have e8 : u8 = [.int .i64 a7] := h8
  have e9 : v8 = [] := h9
  subst e0 e1 e2 e3 e4 e5 e6 e7 e8 e9
  rfl
theorem Tryd.OpText_no (o : OpD) (hok : FqOpOk 0 (o, ()) = some (false, ())) (w : World) (hg : GK w) :
    Calls Tryd.prog 32 #[opV o] w fun e w' => e = .returned (.string (ByteArray.mk #[])) ∧ Below w.heap.size w w' := by
  have hcall := Tryd.opOk o false hok
  obtain ⟨a0, a1, a2, a3, a4, a5, ⟨a6, a7, ⟨⟩⟩, ⟨⟩⟩ := o
  have hcells : opV (a0, a1, a2, a3, a4, a5, (a6, a7, ()), ()) = .agg #[.int .i64 a0, .int .i64 a1, .int .i64 a2, .int .i64 a3, .int .i64 a4, .int .i64 a5, .int .i64 a6, .int .i64 a7] := rfl
  rw [hcells] at hcall ⊢
  go_enter Tryd.func32, Tryd.ntmps32
  go_wp2_with (go_at_call 44; refine (hcall _ ?_).mono ?_)
  · exact GK_mono (fun n hn => Below.heap_alloc _ _ _ (Nat.lt_of_lt_of_le hn hg.size)) (by simp) hg
  · rintro e W1 ⟨rfl, hb⟩
    have hb0 : Below w.heap.size w W1 := Below.trans' ((Below.refl _ w).alloc (Nat.le_refl _) _) hb
    go_wp2
    go_ret
    exact ⟨rfl, hb0⟩
def dinhOpText : Desc := { n := 1, regs := [.one (.val opTy)], bx := [], pins := [] }
noncomputable def FhOpText (_N : Nat) (x : OpD × Unit) : Option (ByteArray × Unit) := match FqOpOk 0 (x.1, ()) with
  | some (true, _) => bif decide (1 ≤ x.1.1) && decide (x.1.1 ≤ 11) then
      some (if (opNums x.1).all szd = true then ByteArray.mk (kWord x.1.1.toNat ++ numsT (opNums x.1)).toArray else ByteArray.mk #[], ()) else none
  | some (false, _) => some (ByteArray.mk #[], ())
  | none => none
noncomputable def conhOpText (N : Nat) : Con := ⟨32, dinhOpText, [(.ret, oukItoa)], FhOpText N⟩
theorem spechOpText (N : Nat) : Spec Tryd.prog (conhOpText N) := by
  refine Spec.flat ⟨Tryd.f32, by kernel_rfl, by kernel_rfl, by kernel_rfl⟩ (by kernel_rfl) rfl rfl rfl fun x o hx w ok γ vals hk hg hr => ?_
  obtain ⟨o8, ⟨⟩⟩ : OpD × Unit := x
  have hv : vals = [opV o8] := by
    have hr' : All2 (VRel w ok [] γ) [.w (.one (.val opTy o8))] vals := hr
    cases hr' with
    | cons h1 h2 =>
      cases h2
      obtain ⟨cs, h3, rfl⟩ := h1
      rw [opV_of h3]
  subst hv
  unfold FhOpText at hx
  have fin : ∀ {t : ByteArray} {e : Ending} {w' : World}, e = .returned (.string t) ∧ Below w.heap.size w w' → (match e, w' with
        | .returned v, w' => ∃ vals', v = retV vals' ∧ (∀ ok', All2 (VRel w' ok' [] γ) (oukItoa.mk' (t, ())).regs vals') ∧ Fr [] w w'
        | _, _ => False) := by
    rintro t e w' ⟨rfl, hb⟩
    exact ⟨[_], rfl, fun ok' => .cons ⟨_, rfl, rfl⟩ .nil, Fr.below hb⟩
  cases hq : FqOpOk 0 (o8, ()) with
  | none => simp only [hq] at hx; cases hx
  | some r =>
    obtain ⟨b, ⟨⟩⟩ := r
    cases b with
    | false =>
      simp only [hq] at hx
      obtain rfl := Option.some.inj hx
      exact (Tryd.OpText_no o8 hq w hg).mono fun e w' he => fin he
    | true =>
      simp only [hq] at hx
      by_cases hc : 1 ≤ o8.1 ∧ o8.1 ≤ 11
      · simp only [hc.1, hc.2, decide_true, Bool.and_self, cond_true] at hx
        obtain rfl := Option.some.inj hx
        have hk0 : o8.1 = ((o8.1.toNat : Nat) : Int) := by omega
        exact (Tryd.OpText o8 o8.1.toNat hk0 (by omega) (by omega) hq w hg).mono fun e w' he => fin he
      · have : (decide (1 ≤ o8.1) && decide (o8.1 ≤ 11)) = false := by
          rw [Bool.eq_false_iff]
          intro h
          simp only [Bool.and_eq_true, decide_eq_true_eq] at h
          exact hc h
        simp only [this, cond_false] at hx
        cases hx
end Go.Fl
/- Texts that are built up. -/
namespace Go.Fl
open Go Go.Proofs Go.Shelf Go.RowKit
set_option maxRecDepth 100000
theorem Tryd.lays166 : Lays.n166 Tryd.prog Tryd.lays156_ren := { Tryd.lays156 with }
theorem Tryd.lays169 : Lays.n169 Tryd.prog Tryd.lays156_ren := { Tryd.lays156 with }
theorem bld_below {T e : TypeId} {B b : Nat} {bs : List Value} {w w' : World} (h : Lib.IsBuilder T e B b bs w) (k : Below w.heap.size w w') : Lib.IsBuilder T e B b bs w' := by
  have key : ∀ {p : Value}, Lib.BuilderAt T e B b p bs w → Lib.BuilderAt T e B b p bs w' := by
    intro p hp
    have hlt := hp.lt
    obtain ⟨hB, v, hb, hown, hne⟩ := hp
    refine ⟨hB, v, (k.block b hlt).trans hb, ?_, hne⟩
    exact hown.kept (row := none) ⟨k.os, k.tape, k.output, k.size, fun n hn _ => k.block n hn⟩ (by cases v.ownBlock <;> simp)
  exact h.elim (fun x => .inl (key x)) (fun x => .inr (key x))
/-- A fresh builder. -/
theorem bld_new {T e : TypeId} {B b : Nat} {w : World} (hB : B ≤ b) (h : w.heap[b]? = some (.cells #[.pointer none, .slice none 0 0] T (0, 0))) : Lib.IsBuilder T e B b [] w := by
  refine .inl ⟨hB, _, h, ?_, by simp [Value.ownBlock]⟩
  exact World.ownsRow_nil _ _ _ _
theorem Tryd.wstr (B b : Nat) (l : List UInt8) (s : ByteArray) (w : World) (h : Lib.IsBuilder 58 5 B b (Lib.byteCells l) w) (hlen : l.length + s.size ≤ 140737488355328) (hBw : B ≤ w.heap.size) :
    Calls Tryd.prog 33 #[.pointer (some ⟨b, 0, none⟩), .string s] w fun e w' => ∃ v, e = .returned v ∧ Lib.IsBuilder 58 5 B b (Lib.byteCells (l ++ s.data.toList)) w' ∧ Below B w w' := by
  refine (Any.Builder_WriteString Tryd.lays166 Tryd.Builder_Extra B b (Lib.byteCells l) s w h (by rw [Lib.byteCells_length]; exact hlen) hBw).mono fun e w' he => ?_
  obtain ⟨rfl, h1, h2⟩ := he
  refine ⟨_, rfl, .inr ?_, h2⟩
  have : Lib.byteCells (l ++ s.data.toList) = Lib.byteCells l ++ Lib.strCells s := by simp [Lib.byteCells, Lib.strCells]
  rw [this]; exact h1
theorem Tryd.bstr (B b : Nat) (l : List UInt8) (w : World) (h : Lib.IsBuilder 58 5 B b (Lib.byteCells l) w) (hBw : B ≤ w.heap.size) :
    Calls Tryd.prog 34 #[.pointer (some ⟨b, 0, none⟩)] w fun e w' => e = .returned (.string ⟨l.toArray⟩) ∧ Below B w w' :=
  Any.Builder_String_any Tryd.lays169 Tryd.Builder_Extra B b l w h hBw
end Go.Fl
/- impl.ProgText. -/
namespace Go.Fl
open Go Go.Proofs Go.Shelf Go.RowKit
set_option maxRecDepth 100000
theorem Tryd.OpText_any (o : OpD) (t : ByteArray) (h : FhOpText 0 (o, ()) = some (t, ())) (w : World) (hg : GK w) :
    Calls Tryd.prog 32 #[opV o] w fun e w' => e = .returned (.string t) ∧ Below w.heap.size w w' := by
  unfold FhOpText at h
  cases hq : FqOpOk 0 (o, ()) with
  | none => simp only [hq] at h; cases h
  | some r =>
    obtain ⟨b, ⟨⟩⟩ := r
    cases b with
    | false =>
      simp only [hq] at h
      obtain rfl := (Prod.mk.inj (Option.some.inj h)).1
      exact Tryd.OpText_no o hq w hg
    | true =>
      simp only [hq] at h
      by_cases hc : 1 ≤ o.1 ∧ o.1 ≤ 11
      · simp only [hc.1, hc.2, decide_true, Bool.and_self, cond_true] at h
        obtain rfl := (Prod.mk.inj (Option.some.inj h)).1
        have hk0 : o.1 = ((o.1.toNat : Nat) : Int) := by omega
        exact Tryd.OpText o o.1.toNat hk0 (by omega) (by omega) hq w hg
      · have : (decide (1 ≤ o.1) && decide (o.1 ≤ 11)) = false := by
          rw [Bool.eq_false_iff]
          intro h
          simp only [Bool.and_eq_true, decide_eq_true_eq] at h
          exact hc h
        simp only [this, cond_false] at h
        cases h
theorem OpText_size {o : OpD} {t : ByteArray} (h : FhOpText 0 (o, ()) = some (t, ())) : t.size ≤ 100 := by
  unfold FhOpText at h
  cases hq : FqOpOk 0 (o, ()) with
  | none => simp only [hq] at h; cases h
  | some r =>
    obtain ⟨b, ⟨⟩⟩ := r
    cases b with
    | false =>
      simp only [hq] at h
      obtain rfl := (Prod.mk.inj (Option.some.inj h)).1
      exact Nat.zero_le 100
    | true =>
      simp only [hq] at h
      by_cases hc : (decide (1 ≤ o.1) && decide (o.1 ≤ 11)) = true
      · rw [hc, cond_true] at h
        obtain rfl := (Prod.mk.inj (Option.some.inj h)).1
        split
        · rename_i hz
          have h1 := kWord_len o.1.toNat
          have h2 := kOffs_len o.1.toNat
          have h3 := numsT_len (opNums o) (fun n hn => szd_rng (List.all_eq_true.1 hz n hn))
          have h4 : (opNums o).length = (kOffs o.1.toNat).length := by simp [opNums]
          have h5 : (ByteArray.mk (kWord o.1.toNat ++ numsT (opNums o)).toArray).size = (kWord o.1.toNat ++ numsT (opNums o)).length := List.size_toArray
          rw [h5, List.length_append]; omega
        · exact Nat.zero_le 100
      · rw [Bool.not_eq_true] at hc
        rw [hc, cond_false] at h; cases h
/-- A line an operation. -/
noncomputable def progT : List OpD → List UInt8 → Option ByteArray
  | [], acc => some ⟨acc.toArray⟩
  | o :: r, acc => match FhOpText 0 (o, ()) with
    | none => none
    | some (t, _) => if (t.toList == []) = true then some ⟨#[]⟩ else progT r (acc ++ (t.data.toList ++ [10]))
set_option maxHeartbeats 1000000 in
theorem Tryd.ProgText (os : List OpD) (a : Addr) (ha : a.spot = none) (c : Nat) (hn : os.length ≤ 40) (hn0 : 0 < os.length) (R : ByteArray) (hR : progT os [] = some R) (w : World) (hg : GK w) (hab : a.block < w.heap.size)
    (hs : ∀ i (h : i < os.length) (j : Nat) (hj : j < 8), w.cell? ⟨a.block, a.off + i * 8 + j, none⟩ = some (.int .i64 ((opL os[i]).getD j 0))) :
    Calls Tryd.prog 12 #[.slice (some a) os.length c] w fun e w' => e = .returned (.string R) ∧ Below w.heap.size w w' := by
  obtain ⟨b, o, sp⟩ := a
  simp only at ha hab hs
  subst ha
  have hn' : ¬ ((os.length : Int) > 40) := by omega
  go_enter Tryd.func12, Tryd.ntmps12
  go_wp2
  go_loopw [12] (fun s wr => ∃ (j : Nat) (acc : List UInt8), j ≤ os.length ∧ s = .int .i64 j ∧ acc.length ≤ j * 200 ∧ Lib.IsBuilder 58 5 w.heap.size w.heap.size (Lib.byteCells acc) wr ∧ Below w.heap.size w wr ∧ progT (os.drop j) acc = some R)
    (fun s _ => os.length - (intOf s).toNat)
  case atStart =>
    refine ⟨0, [], Nat.zero_le _, rfl, by simp, bld_new (Nat.le_refl _) Array.getElem?_push_size, (Below.refl _ w).alloc (Nat.le_refl _) _, hR⟩
  case round =>
    obtain ⟨j, acc, hj, rfl, hacc, hbld, hwr, hRj⟩ := hrel
    have hgr : GK wr := GK_mono (fun n hn => hwr.block n (Nat.lt_of_lt_of_le hn hg.size)) hwr.size hg
    by_cases hlt : j < os.length
    · have hlt' : (j : Int) < os.length := by omega
      have hd : os.drop j = os[j] :: os.drop (j + 1) := List.drop_eq_getElem_cons hlt
      rw [hd, progT] at hRj
      have hcell : ∀ (x : Nat) (hx : x < 8), wr.cell? ⟨b, o + j * 8 + x, none⟩ = some (.int .i64 ((opL os[j]).getD x 0)) := fun x hx => by
        rw [hwr.cell (by simpa using hab)]; exact hs j hlt x hx
      generalize os[j] = oj at hRj hcell
      obtain ⟨a0, a1, a2, a3, a4, a5, ⟨a6, a7, ⟨⟩⟩, ⟨⟩⟩ := oj
      have k0 : wr.cell? ⟨b, o + j * 8, none⟩ = some (.int .i64 a0) := hcell 0 (by omega)
      have k1 : wr.cell? ⟨b, o + j * 8 + 1, none⟩ = some (.int .i64 a1) := hcell 1 (by omega)
      have k2 : wr.cell? ⟨b, o + j * 8 + 2, none⟩ = some (.int .i64 a2) := hcell 2 (by omega)
      have k3 : wr.cell? ⟨b, o + j * 8 + 3, none⟩ = some (.int .i64 a3) := hcell 3 (by omega)
      have k4 : wr.cell? ⟨b, o + j * 8 + 4, none⟩ = some (.int .i64 a4) := hcell 4 (by omega)
      have k5 : wr.cell? ⟨b, o + j * 8 + 5, none⟩ = some (.int .i64 a5) := hcell 5 (by omega)
      have k6 : wr.cell? ⟨b, o + j * 8 + 6, none⟩ = some (.int .i64 a6) := hcell 6 (by omega)
      have k7 : wr.cell? ⟨b, o + j * 8 + 7, none⟩ = some (.int .i64 a7) := hcell 7 (by omega)
      clear hcell hs hd
      cases hot : FhOpText 0 ((a0, a1, a2, a3, a4, a5, (a6, a7, ()), ()), ()) with
      | none => rw [hot] at hRj; cases hRj
      | some r =>
        obtain ⟨t, ⟨⟩⟩ := r
        rw [hot] at hRj
        simp only at hRj
        have hts := OpText_size hot
        have hcall := Tryd.OpText_any _ t hot
        have hop : opV (a0, a1, a2, a3, a4, a5, (a6, a7, ()), ()) = .agg #[.int .i64 a0, .int .i64 a1, .int .i64 a2, .int .i64 a3, .int .i64 a4, .int .i64 a5, .int .i64 a6, .int .i64 a7] := rfl
        rw [hop] at hcall
        go_wp2_with (go_at_call 32; refine (hcall _ ?_).mono ?_)
        · exact GK_mono (fun n hn => Below.heap_alloc _ _ _ (Nat.lt_of_lt_of_le hn hgr.size)) (by simp) hgr
        · rintro e W1 ⟨rfl, hb⟩
          have hb1 : Below wr.heap.size wr W1 := Below.trans' ((Below.refl _ wr).alloc (Nat.le_refl _) _) hb
          have hbld1 := bld_below hbld hb1
          have hw1 : Below w.heap.size w W1 := Below.trans' hwr hb1
          clear hb hcall hop k0 k1 k2 k3 k4 k5 k6 k7
          cases hte : (t.toList == []) with
          | true =>
            rw [hte, if_pos rfl] at hRj
            obtain rfl := Option.some.inj hRj
            go_wp2
            go_ret
            exact ⟨rfl, hw1⟩
          | false =>
            rw [hte, if_neg (by simp)] at hRj
            have hws := Tryd.wstr w.heap.size w.heap.size acc (t ++ ByteArray.mk #[10]) W1 hbld1 (by rw [ByteArray.size_append, show (ByteArray.mk #[10]).size = 1 from rfl]; omega) hw1.size
            go_wp2_with (go_at_call 33; refine hws.mono ?_; rintro e W2 ⟨v, rfl, hbld2, hb2⟩)
            have e10 : (t ++ ByteArray.mk #[10]).data.toList = t.data.toList ++ [10] := by simp
            rw [e10] at hbld2
            have htl : t.data.toList.length = t.size := Array.length_toList
            refine ⟨⟨j + 1, _, by omega, by simp, ?_, hbld2, Below.trans hw1 hb2, hRj⟩, by simp [intOf]; omega⟩
            simp only [List.length_append, List.length_singleton, htl]
            omega
    · have hje : j = os.length := by omega
      subst hje
      have hnlt : ¬ ((os.length : Int) < (os.length : Int)) := by omega
      rw [List.drop_length, progT] at hRj
      obtain rfl := Option.some.inj hRj
      have hst := Tryd.bstr w.heap.size w.heap.size acc wr hbld hwr.size
      clear hs
      go_wp2_with (go_at_call 34; refine hst.mono ?_; rintro e W2 ⟨rfl, hb2⟩)
      go_ret
      exact ⟨rfl, Below.trans hwr hb2⟩
end Go.Fl
/- impl.ProgText: its contract. -/
namespace Go.Fl
open Go Go.Proofs Go.Shelf Go.RowKit
set_option maxRecDepth 100000
theorem Tryd.ProgText_many (A : Option Addr) (n c : Nat) (hn : 40 < n) (w : World) :
    Calls Tryd.prog 12 #[.slice A n c] w fun e w' => e = .returned (.string ⟨#[]⟩) ∧ Below w.heap.size w w' := by
  have hn' : (n : Int) > 40 := by omega
  go_enter Tryd.func12, Tryd.ntmps12
  go_wp2
  go_ret
  exact ⟨rfl, Below.refl _ _⟩
set_option maxHeartbeats 1000000 in
theorem Tryd.ProgText_none (A : Option Addr) (c : Nat) (w : World) :
    Calls Tryd.prog 12 #[.slice A 0 c] w fun e w' => e = .returned (.string ⟨#[]⟩) ∧ Below w.heap.size w w' := by
  have hst : ∀ (wr : World), wr.heap[w.heap.size]? = some (.cells #[.pointer none, .slice none 0 0] 58 (0, 0)) → w.heap.size ≤ wr.heap.size → Calls Tryd.prog 34 #[.pointer (some ⟨w.heap.size, 0, none⟩)] wr fun e w' => e = .returned (.string ⟨#[]⟩) ∧ Below w.heap.size wr w' :=
    fun wr h1 h2 => Tryd.bstr w.heap.size w.heap.size [] wr (bld_new (Nat.le_refl _) h1) h2
  go_enter Tryd.func12, Tryd.ntmps12
  go_wp2
  go_loopw [12] (fun s wr => s = .int .i64 0 ∧ Below w.heap.size w wr ∧ wr.heap[w.heap.size]? = some (.cells #[.pointer none, .slice none 0 0] 58 (0, 0)))
    (fun s _ => 0)
  case atStart => exact ⟨rfl, (Below.refl _ w).alloc (Nat.le_refl _) _, Array.getElem?_push_size⟩
  case round =>
    obtain ⟨rfl, hwr, hb⟩ := hrel
    have hst' := hst wr hb hwr.size
    go_wp2_with (go_at_call 34; refine hst'.mono ?_; rintro e W2 ⟨rfl, hb2⟩)
    go_ret
    exact ⟨rfl, Below.trans hwr hb2⟩
def dinhProgText : Desc := { n := 1, regs := [.one (.val (.sl opTy))], bx := [], pins := [] }
noncomputable def FhProgText (_N : Nat) (x : List OpD × Unit) : Option (ByteArray × Unit) :=
  bif decide (x.1.length > 40) then some (⟨#[]⟩, ()) else (progT x.1 []).map fun r => (r, ())
noncomputable def conhProgText (N : Nat) : Con := ⟨12, dinhProgText, [(.ret, oukItoa)], FhProgText N⟩
theorem spechProgText (N : Nat) : Spec Tryd.prog (conhProgText N) := by
  refine Spec.flat ⟨Tryd.f12, by kernel_rfl, by kernel_rfl, by kernel_rfl⟩ (by kernel_rfl) rfl rfl rfl fun x o hx w ok γ vals hk hg hr => ?_
  obtain ⟨os, ⟨⟩⟩ : List OpD × Unit := x
  have hv : ∃ (A : Option Addr) (c : Nat), vals = [.slice A os.length c] ∧ os.length ≤ c ∧
      ∀ i (h : i < os.length), ∃ (a : Addr) (us : List Value), A = some a ∧ a.spot = none ∧ ok a.block ∧ Rdf w ok opTy os[i] us ∧ CellsAt w a (i * opTy.sz) us := by
    have hr' : All2 (VRel w ok [] γ) [.w (.one (.val (.sl opTy) os))] vals := hr
    cases hr' with
    | cons h1 h2 =>
      cases h2
      obtain ⟨cs, ⟨A, c, rfl, hc, hel⟩, rfl⟩ := h1
      exact ⟨A, c, rfl, hc, hel⟩
  obtain ⟨A, c, rfl, hc, hel⟩ := hv
  have fin : ∀ {t : ByteArray} {e : Ending} {w' : World}, e = .returned (.string t) ∧ Below w.heap.size w w' → (match e, w' with
        | .returned v, w' => ∃ vals', v = retV vals' ∧ (∀ ok', All2 (VRel w' ok' [] γ) (oukItoa.mk' (t, ())).regs vals') ∧ Fr [] w w'
        | _, _ => False) := by
    rintro t e w' ⟨rfl, hb⟩
    exact ⟨[_], rfl, fun ok' => .cons ⟨_, rfl, rfl⟩ .nil, Fr.below hb⟩
  simp only [FhProgText] at hx
  by_cases hbig : os.length > 40
  · simp only [hbig, decide_true, cond_true] at hx
    obtain rfl := Option.some.inj hx
    exact (Tryd.ProgText_many A os.length c hbig w).mono fun e w' he => fin he
  · simp only [hbig, decide_false, cond_false] at hx
    obtain ⟨R, hR, rfl⟩ := Option.map_eq_some_iff.1 hx
    by_cases h0 : 0 < os.length
    · obtain ⟨a, us, rfl, hsp, hok, _, _⟩ := hel 0 h0
      refine (Tryd.ProgText os a hsp c (by omega) h0 R hR w hg (hk _ hok) (fun i h j hj => ?_)).mono fun e w' he => fin he
      obtain ⟨a', us, ha, _, _, h1, h2⟩ := hel i h
      cases ha
      have hus : us = (opL os[i]).map (Value.int .i64) := by
        have e1 := opV_of h1
        have e2 := Rdf.len h1
        have : pack opTy us = .agg us.toArray := rfl
        rw [this] at e1
        unfold opV at e1
        have := congrArg (fun v => match v with | Value.agg cs => cs.toList | _ => []) e1
        simpa using this
      have hl : (opL os[i]).length = 8 := rfl
      have := h2 j (.int .i64 ((opL os[i]).getD j 0)) (by rw [hus, List.getElem?_map, List.getD, List.getElem?_eq_getElem (by omega)]; rfl)
      exact this
    · have : os = [] := List.length_eq_zero_iff.1 (by omega)
      subst this
      simp only [progT, Option.some.injEq] at hR
      subst hR
      exact (Tryd.ProgText_none A c w).mono fun e w' he => fin he
end Go.Fl
/- What a row's 'laid' says, as the facts on package-level variables. -/
namespace Go.Fl
open Go Go.Proofs Go.Shelf Go.RowKit Go.Proofs.YtemafmecjmgafaaDoor
theorem gk_of_laid {W : World} {r : List (String × DataW Unit)} {a : String × DataW Unit} {b : DataW Unit} (h : laidMet Tryd.prog (a :: ("math/bits.deBruijn64tab", b) :: ("internal/strconv.uint64pow10", Rows.laid_internal_strconv_uint64pow10) :: r) W)
    (_hs : W.ShapedOpen Tryd.prog) : GK W ∧ ∀ n, n < GKn → n < W.heap.size := by
  have hp : Lib.TabIs Tryd.prog W "internal/strconv.uint64pow10" .u64 Lib.pow10Tab :=
    Lib.tabIs_of_head (g := 3) (t := 147) (n := 20) (e := 119) (by kernel_rfl) (by kernel_rfl) (by kernel_rfl) (by kernel_rfl) (by kernel_rfl) (by kernel_rfl) (show laidMet Tryd.prog (("internal/strconv.uint64pow10", Lib.tabData .u64 Lib.pow10Tab) :: _) W from h.tail.tail)
  have hsz : GKn ≤ W.heap.size := by
    obtain ⟨ps, ⟨g, t, cs, f, p, q, hg, _, hv, _⟩, _⟩ := h.tail
    have h7 : Tryd.prog.globalNamed "math/bits.deBruijn64tab" = some 7 := by kernel_rfl
    unfold World.var? at hv
    rw [h7] at hv
    simp only [Option.bind_some] at hv
    split at hv
    · rename_i hh
      have := (Array.getElem?_eq_some_iff.1 hh).1
      simp only [GKn]; omega
    · cases hv
  exact ⟨⟨hp, hsz⟩, fun n hn => Nat.lt_of_lt_of_le hn hsz⟩
end Go.Fl
