/- The law FnExactBestLengths of the given program holds: for every input that the row lets in the call returns true and leaves its arguments as they were. No condition ahead of it. -/
import Derived.Test.YtkpobdcnggdjaaaPFnExactBestLengthsx6
import Derived.Test.YtkpobdcnggdjaaaMine
namespace Go.Proofs.Ytkpobdcnggdjaaa.Pure
open Go.RowKit Go.Proofs.Ytkpobdcnggdjaaa.PFnExactBestLengths Go.Proofs.YtkpobdcnggdjaaaW.PrintWords Go.Proofs.YtkpobdcnggdjaaaW.PrintLast Go.Proofs.YtkpobdcnggdjaaaW.PrintMore Go.Proofs.Ytkpobdcnggdjaaa.Mine
set_option linter.unusedVariables false
set_option linter.unusedSimpArgs false
theorem l00In_eq (a b c : Int) : spec_l00In.f a b c = some (decide (b ≤ a ∧ a ≤ c)) := by
  unfold spec_l00In.f; by_cases h : a ≥ b
  · rw [if_pos h]; simp; intro _; exact h
  · rw [if_neg h]; simp; intro h'; omega
theorem within_eq (a b c : Int) : impl_within.f a b c = some (decide (b ≤ a ∧ a ≤ c)) := by
  unfold impl_within.f; by_cases h : a ≥ b
  · rw [if_pos h]; simp; intro _; exact h
  · rw [if_neg h]; simp; intro h'; omega

def lexLt (a b : S57) : Prop := a.f0 < b.f0 ∨ a.f0 = b.f0 ∧ a.f1 < b.f1
theorem bIdx_perm (ks : List (Int × Int)) (h : 0 < ks.length) : ((bIdx ks h).toList.map Fin.val).Perm (List.range ks.length) := by
  letI : Inhabited (Fin ks.length) := ⟨⟨0, h⟩⟩
  have hp := (bIdx_sorts ks h).1.2.2
  have e1 : (bIdx ks h).extract 0 ks.length = bIdx ks h := by
    have e0 : ∀ n, n = (bIdx ks h).size → (bIdx ks h).extract 0 n = bIdx ks h := by
      intro n hn
      subst hn
      simp
    exact e0 _ (bIdx_size ks h).symm
  have e2 : (Array.ofFn fun i : Fin ks.length => i).extract 0 ks.length = Array.ofFn fun i : Fin ks.length => i := by simp
  rw [e1, e2] at hp
  have := hp.map Fin.val
  refine this.trans ?_
  have e3 : (Array.ofFn fun i : Fin ks.length => i).toList.map Fin.val = List.range ks.length := by
    apply List.ext_getElem (by simp)
    intro i h1 h2
    simp
  rw [e3]
theorem bNat_perm (ks : List (Int × Int)) : (bNat ks).Perm (List.range ks.length) := by
  unfold bNat
  by_cases h : 0 < ks.length
  · rw [dif_pos h]; exact bIdx_perm ks h
  · rw [dif_neg h]
    have : ks.length = 0 := by omega
    rw [this]
    exact List.Perm.refl _
theorem bPerm_perm {α : Type} (f : α → Int × Int) (l : List α) : (bPerm f l).Perm l := by
  have h := (bNat_perm (l.map f)).filterMap (fun i : Nat => l[i]?)
  rw [List.length_map] at h
  have e : (List.range l.length).filterMap (fun i : Nat => l[i]?) = l := by
    apply List.ext_getElem?
    intro i
    rw [bt_filterMap l _ (fun n hn => List.mem_range.1 hn)]
    by_cases hi : i < l.length
    · rw [List.getElem?_range hi]; rfl
    · rw [List.getElem?_eq_none (by simp; omega), List.getElem?_eq_none (by omega)]; rfl
  rw [e] at h
  exact h
theorem bPerm_sorted (l : List S57) (i j : Nat) (a b : S57) (hij : i < j) (ha : (bPerm bKey l)[i]? = some a) (hb : (bPerm bKey l)[j]? = some b) : ¬ lexLt b a := by
  have hj : j < l.length := by rw [← bPerm_len bKey l]; exact (List.getElem?_eq_some_iff.1 hb).1
  rw [bPerm_get] at ha hb
  obtain ⟨ks, hks⟩ : ∃ ks, l.map bKey = ks := ⟨_, rfl⟩
  have hl : ks.length = l.length := by rw [← hks]; simp
  rw [hks] at ha hb
  have h0 : 0 < ks.length := by omega
  letI : Inhabited (Fin ks.length) := ⟨⟨0, h0⟩⟩
  have hsz := bIdx_size ks h0
  have hn : ∀ q, q < l.length → ∃ x : Fin ks.length, (bIdx ks h0)[q]! = x ∧ (bNat ks)[q]? = some x.val := by
    intro q hq
    have hq2 : q < (bIdx ks h0).size := by omega
    refine ⟨(bIdx ks h0)[q], getElem!_pos (bIdx ks h0) q hq2, ?_⟩
    unfold bNat
    rw [dif_pos h0]
    simp [hq2]
  obtain ⟨x, hx1, hx2⟩ := hn i (by omega)
  obtain ⟨y, hy1, hy2⟩ := hn j hj
  have hs := (bIdx_sorts ks h0).2 i j (Nat.zero_le _) hij (by omega)
  rw [hx1, hy1] at hs
  rw [hx2] at ha
  rw [hy2] at hb
  replace ha : l[x.val]? = some a := ha
  replace hb : l[y.val]? = some b := hb
  unfold ltOf bCf at hs
  rw [bestCf_lt] at hs
  have kx : ks[x] = bKey a := by
    have hx : x.val < l.length := by have := x.isLt; omega
    subst hks
    rw [List.getElem?_eq_getElem hx] at ha
    show (l.map bKey)[x.val]'_ = bKey a
    rw [List.getElem_map, Option.some.inj ha]
  have ky : ks[y] = bKey b := by
    have hy : y.val < l.length := by have := y.isLt; omega
    subst hks
    rw [List.getElem?_eq_getElem hy] at hb
    show (l.map bKey)[y.val]'_ = bKey b
    rw [List.getElem_map, Option.some.inj hb]
  rw [kx, ky] at hs
  have h5 := of_decide_eq_false hs
  exact h5
theorem rdT_get (ls : List S57) (i : Nat) (h : i < ls.length) : rd_T57 ls (i : Int) = ls[i] := by
  unfold rd_T57
  rw [Int.toNat_natCast, List.getD_eq_getElem?_getD, List.getElem?_eq_getElem h]
  rfl
theorem take_loop (ls : List S57) (hl : ls.length ≤ 16) (d : Nat) : ∀ i b : Nat, i + d = ls.length → b < ls.length → (∀ j : Nat, j < i → ¬ lexLt (rd_T57 ls (j : Int)) (rd_T57 ls (b : Int))) →
    ∃ b' : Nat, b' < ls.length ∧ (∀ j : Nat, j < ls.length → ¬ lexLt (rd_T57 ls (j : Int)) (rd_T57 ls (b' : Int))) ∧ Ev (fun k => spec_l05Take.l0 k ls (b : Int) (i : Int)) ((rd_T57 ls (b' : Int)).f0, (rd_T57 ls (b' : Int)).f1, (rd_T57 ls (b' : Int)).f2, ls.take b' ++ ls.drop (b' + 1)) := by
  induction d with
  | zero =>
    intro i b hi hb hm
    refine ⟨b, hb, fun j hj => hm j (by omega), Ev_succ ?_⟩
    have c1 : ¬ (i : Int) < (ls.length : Int) := by omega
    have c2 : (0 : Int) ≤ (b : Int) := by omega
    have c3 : (b : Int) < (ls.length : Int) := by omega
    have c4 : (b : Int) ≤ (ls.length : Int) := by omega
    have e1 : wrap64 ((b : Int) + 1) = ((b + 1 : Nat) : Int) := by unfold wrap64; omega
    have c5 : (0 : Int) ≤ ((b + 1 : Nat) : Int) := by omega
    have c6 : ((b + 1 : Nat) : Int) ≤ (ls.length : Int) := by omega
    have c7 : ([] : List S57).length + (ls.take b).length < 3518437208883 := by rw [List.length_take]; simp; omega
    have c8 : ([] ++ ls.take b : List S57).length + (ls.drop (b + 1)).length < 3518437208883 := by rw [List.nil_append, List.length_take, List.length_drop]; omega
    simp only [spec_l05Take.l0, if_neg c1, if_pos c2, if_pos c3, if_pos c4, Option.bind_some, e1, if_pos c5, if_pos c6, Int.toNat_natCast, if_pos c7, if_pos c8]
    rw [List.nil_append]
    exact Ev.now _
  | succ d ih =>
    intro i b hi hb hm
    have c1 : (i : Int) < (ls.length : Int) := by omega
    have c0 : (0 : Int) ≤ (i : Int) := by omega
    have c2 : (0 : Int) ≤ (b : Int) := by omega
    have c3 : (b : Int) < (ls.length : Int) := by omega
    have e1 : wrap64 ((i : Int) + 1) = ((i + 1 : Nat) : Int) := by unfold wrap64; omega
    have stay : ¬ lexLt (rd_T57 ls (i : Int)) (rd_T57 ls (b : Int)) → ∃ b' : Nat, b' < ls.length ∧ (∀ j : Nat, j < ls.length → ¬ lexLt (rd_T57 ls (j : Int)) (rd_T57 ls (b' : Int))) ∧ Ev (fun k => spec_l05Take.l0 k ls (b : Int) ((i + 1 : Nat) : Int)) ((rd_T57 ls (b' : Int)).f0, (rd_T57 ls (b' : Int)).f1, (rd_T57 ls (b' : Int)).f2, ls.take b' ++ ls.drop (b' + 1)) := by
      clear e1
      intro hn
      refine ih (i + 1) b (by omega) hb (fun j hj => ?_)
      by_cases e : j = i
      · subst e; exact hn
      · exact hm j (by omega)
    have move : lexLt (rd_T57 ls (i : Int)) (rd_T57 ls (b : Int)) → ∃ b' : Nat, b' < ls.length ∧ (∀ j : Nat, j < ls.length → ¬ lexLt (rd_T57 ls (j : Int)) (rd_T57 ls (b' : Int))) ∧ Ev (fun k => spec_l05Take.l0 k ls (i : Int) ((i + 1 : Nat) : Int)) ((rd_T57 ls (b' : Int)).f0, (rd_T57 ls (b' : Int)).f1, (rd_T57 ls (b' : Int)).f2, ls.take b' ++ ls.drop (b' + 1)) := by
      clear e1
      intro hn
      refine ih (i + 1) i (by omega) (by omega) (fun j hj => ?_)
      by_cases e : j = i
      · subst e; unfold lexLt; omega
      · have := hm j (by omega)
        unfold lexLt at *
        omega
    by_cases g1 : (rd_T57 ls (i : Int)).f0 < (rd_T57 ls (b : Int)).f0
    · obtain ⟨b', h1, h2, h3⟩ := move (.inl g1)
      refine ⟨b', h1, h2, Ev_succ ?_⟩
      simp only [spec_l05Take.l0, if_pos c1, if_pos c0, if_pos c2, if_pos c3, if_pos g1, e1]
      exact h3
    · by_cases g2 : (rd_T57 ls (i : Int)).f0 = (rd_T57 ls (b : Int)).f0
      · by_cases g3 : (rd_T57 ls (i : Int)).f1 < (rd_T57 ls (b : Int)).f1
        · obtain ⟨b', h1, h2, h3⟩ := move (.inr ⟨g2, g3⟩)
          refine ⟨b', h1, h2, Ev_succ ?_⟩
          simp only [spec_l05Take.l0, if_pos c1, if_pos c0, if_pos c2, if_pos c3, if_neg g1, if_pos g2, if_pos g3, e1]
          exact h3
        · obtain ⟨b', h1, h2, h3⟩ := stay (by unfold lexLt; clear e1; omega)
          refine ⟨b', h1, h2, Ev_succ ?_⟩
          simp only [spec_l05Take.l0, if_pos c1, if_pos c0, if_pos c2, if_pos c3, if_neg g1, if_pos g2, if_neg g3, e1]
          exact h3
      · obtain ⟨b', h1, h2, h3⟩ := stay (by unfold lexLt; clear e1; omega)
        refine ⟨b', h1, h2, Ev_succ ?_⟩
        simp only [spec_l05Take.l0, if_pos c1, if_pos c0, if_pos c2, if_pos c3, if_neg g1, if_neg g2, e1]
        exact h3
theorem take_min (ls r : List S57) (x : S57) (hl : ls.length ≤ 16) (hp : ls.Perm (x :: r)) (hnd : ((x :: r).map S57.f1).Nodup) (hmin : ∀ z ∈ r, ¬ lexLt z x) : ∃ rest, rest.Perm r ∧ Ev (fun k => spec_l05Take.f k ls) (x.f0, x.f1, x.f2, rest) := by
  have h1 : 1 ≤ ls.length := by rw [hp.length_eq]; simp
  obtain ⟨b, hb, hm, he⟩ := take_loop ls hl (ls.length - 1) 1 0 (by omega) (by omega) (fun j hj => by
    obtain rfl : j = 0 := by omega
    unfold lexLt
    omega)
  have hmem : ls[b] ∈ x :: r := hp.mem_iff.1 (List.getElem_mem hb)
  rw [rdT_get ls b hb] at he hm
  have hxm : ∃ j, ∃ hj : j < ls.length, ls[j] = x := List.mem_iff_getElem.1 (hp.mem_iff.2 (by simp))
  obtain ⟨j, hj, hjx⟩ := hxm
  have hn1 := hm j hj
  rw [rdT_get ls j hj, hjx] at hn1
  have hmx : ls[b] = x := by
    rcases List.mem_cons.1 hmem with e | hr
    · exact e
    · exfalso
      have hn2 := hmin _ hr
      have hf : ls[b].f1 = x.f1 := by unfold lexLt at hn1 hn2; omega
      rw [List.map_cons, List.nodup_cons] at hnd
      exact hnd.1 (by rw [← hf]; exact List.mem_map.2 ⟨_, hr, rfl⟩)
  rw [hmx] at he
  refine ⟨ls.take b ++ ls.drop (b + 1), ?_, he⟩
  have hs : ls = ls.take b ++ x :: ls.drop (b + 1) := by
    rw [← hmx, ← List.drop_eq_getElem_cons hb, List.take_append_drop]
  have hp2 : (x :: (ls.take b ++ ls.drop (b + 1))).Perm (x :: r) := by
    refine List.Perm.trans ?_ hp
    conv => rhs; rw [hs]
    exact List.perm_middle.symm
  exact hp2.cons_inv
theorem sum_perm {a b : List Int} (h : a.Perm b) : a.sum = b.sum := by
  induction h with
  | nil => rfl
  | cons x _ ih => simp [ih]
  | swap x y l => simp; omega
  | trans _ _ h1 h2 => exact h1.trans h2
structure BInv (n : Nat) (tot : Int) (ts : List S57) (num : Int) : Prop where
  nd : (ts.map S57.f1).Nodup
  lt : ∀ t ∈ ts, t.f1 < num
  lv : (ts.flatMap S57.f2).Perm ((List.range n).map (fun i : Nat => (i : Int)))
  ne : ∀ t ∈ ts, 1 ≤ t.f2.length
  w : ∀ t ∈ ts, 1 ≤ t.f0
  s : (ts.map S57.f0).sum ≤ tot
theorem BInv.perm {n : Nat} {tot num : Int} {ts us : List S57} (h : BInv n tot ts num) (hp : ts.Perm us) : BInv n tot us num :=
  ⟨(hp.map _).nodup_iff.1 h.nd, fun t ht => h.lt t (hp.mem_iff.2 ht), (hp.symm.flatMap_right S57.f2).trans h.lv, fun t ht => h.ne t (hp.mem_iff.2 ht), fun t ht => h.w t (hp.mem_iff.2 ht), by rw [← sum_perm (hp.map S57.f0)]; exact h.s⟩
theorem BInv.len {n : Nat} {tot num : Int} {ts : List S57} (h : BInv n tot ts num) : (ts.map fun t => t.f2.length).sum = n := by
  have := h.lv.length_eq
  simp only [List.length_flatMap, List.length_map, List.length_range] at this
  exact this
theorem BInv.size {n : Nat} {tot num : Int} {ts : List S57} (h : BInv n tot ts num) : ts.length ≤ n := by
  rw [← h.len]
  have : ∀ us : List S57, (∀ t ∈ us, 1 ≤ t.f2.length) → us.length ≤ (us.map fun t => t.f2.length).sum := by
    intro us
    induction us with
    | nil => intro _; simp
    | cons u us ih =>
      intro hu
      have h1 := hu u (by simp)
      have h2 := ih (fun t ht => hu t (by simp [ht]))
      simp only [List.length_cons, List.map_cons, List.sum_cons]
      omega
  exact this ts h.ne
theorem BInv.join {n : Nat} {tot num : Int} {x y : S57} {r : List S57} (h : BInv n tot (x :: y :: r) num) : BInv n tot (r ++ [⟨x.f0 + y.f0, num, x.f2 ++ y.f2⟩]) (num + 1) := by
  have hs : ∀ us : List S57, ((us ++ [(⟨x.f0 + y.f0, num, x.f2 ++ y.f2⟩ : S57)]).map S57.f0).sum = (us.map S57.f0).sum + (x.f0 + y.f0) := fun us => by simp
  refine ⟨?_, ?_, ?_, ?_, ?_, ?_⟩
  · have h1 := h.nd
    simp only [List.map_cons, List.nodup_cons] at h1
    rw [List.map_append, List.nodup_append]
    refine ⟨h1.2.2, by simp, ?_⟩
    intro a ha b hb
    obtain ⟨t, ht, rfl⟩ := List.mem_map.1 ha
    have h2 := h.lt t (by simp [ht])
    simp at hb
    omega
  · intro t ht
    rcases List.mem_append.1 ht with ht | ht
    · have := h.lt t (by simp [ht]); omega
    · rw [List.mem_singleton.1 ht]
      show num < num + 1
      omega
  · refine List.Perm.trans ?_ h.lv
    rw [List.flatMap_append]
    have e : (x :: y :: r).flatMap S57.f2 = (x.f2 ++ y.f2) ++ r.flatMap S57.f2 := by simp [List.append_assoc]
    rw [e]
    have e2 : ([⟨x.f0 + y.f0, num, x.f2 ++ y.f2⟩] : List S57).flatMap S57.f2 = x.f2 ++ y.f2 := by simp
    rw [e2]
    exact List.perm_append_comm
  · intro t ht
    rcases List.mem_append.1 ht with ht | ht
    · exact h.ne t (by simp [ht])
    · rw [List.mem_singleton.1 ht]
      have := h.ne x (by simp)
      show 1 ≤ (x.f2 ++ y.f2).length
      rw [List.length_append]
      omega
  · intro t ht
    rcases List.mem_append.1 ht with ht | ht
    · exact h.w t (by simp [ht])
    · rw [List.mem_singleton.1 ht]
      have h1 := h.w x (by simp)
      have h2 := h.w y (by simp)
      show 1 ≤ x.f0 + y.f0
      omega
  · rw [hs]
    have h1 := h.s
    simp only [List.map_cons, List.sum_cons] at h1
    omega
theorem BInv.pair {n : Nat} {tot num : Int} {x y : S57} {r : List S57} (h : BInv n tot (x :: y :: r) num) : x.f0 + y.f0 ≤ tot ∧ 1 ≤ x.f0 ∧ 1 ≤ y.f0 ∧ x.f2.length + y.f2.length ≤ n ∧ ∀ i ∈ x.f2 ++ y.f2, 0 ≤ i ∧ i < (n : Int) := by
  refine ⟨?_, h.w x (by simp), h.w y (by simp), ?_, ?_⟩
  · have h1 := h.s
    simp only [List.map_cons, List.sum_cons] at h1
    have : ∀ us : List S57, (∀ t ∈ us, 1 ≤ t.f0) → 0 ≤ (us.map S57.f0).sum := by
      intro us
      induction us with
      | nil => intro _; simp
      | cons u us ih =>
        intro hu
        have h1 := hu u (by simp)
        have h2 := ih (fun t ht => hu t (by simp [ht]))
        simp only [List.map_cons, List.sum_cons]
        omega
    have := this r (fun t ht => h.w t (by simp [ht]))
    omega
  · have h1 := h.len
    simp only [List.map_cons, List.sum_cons] at h1
    omega
  · intro i hi
    have : i ∈ (x :: y :: r).flatMap S57.f2 := by
      simp only [List.flatMap_cons, ← List.append_assoc]
      exact List.mem_append_left _ hi
    obtain ⟨j, hj, rfl⟩ := List.mem_map.1 (h.lv.mem_iff.1 this)
    have := List.mem_range.1 hj
    omega
theorem bump_some : ∀ (z out : List Int) (n : Nat), out.length = n → (∀ i ∈ z, 0 ≤ i ∧ i < (n : Int)) → ∃ o, bBump z out = some o ∧ o.length = n
  | [], out, n, hl, _ => ⟨out, rfl, hl⟩
  | i :: z, out, n, hl, h => by
    obtain ⟨o, h1, h2⟩ := bump_some z (out.set i.toNat (wrap64 (rd out i + 1))) n (by rw [List.length_set]; exact hl) (fun j hj => h j (by simp [hj]))
    have hi := h i (by simp)
    exact ⟨o, by rw [bBump, if_pos ⟨hi.1, by rw [hl]; exact hi.2⟩]; exact h1, h2⟩
theorem l2_loop (last : List S57) (lv : List Int) (hlv : lv.length ≤ 16) (hlast : last.length ≤ 16) (num a0 a1 b0 b1 : Int) (a2 b2 o' : List Int) (F : List Int) (hend : Ev (fun k => spec_l05Best.l1 k o' (last ++ [⟨wrap64 (a0 + b0), num, lv⟩]) (wrap64 (num + 1))) F) (d : Nat) :
    ∀ (i : Nat) (o : List Int), i + d = lv.length → bBump (lv.drop i) o = some o' → Ev (fun k => spec_l05Best.l2 k o num last lv (i : Int) a0 a1 a2 b0 b1 b2) F := by
  induction d with
  | zero =>
    intro i o hi hb
    rw [List.drop_eq_nil_of_le (by omega), bBump] at hb
    obtain rfl := Option.some.inj hb
    refine Ev_succ ?_
    have c1 : ¬ (i : Int) < (lv.length : Int) := by omega
    have c2 : last.length < 3518437208883 := by omega
    simp only [spec_l05Best.l2, if_neg c1, if_pos c2]
    exact hend
  | succ d ih =>
    intro i o hi hb
    have hi2 : i < lv.length := by omega
    have hd : lv.drop i = rd lv (i : Int) :: lv.drop (i + 1) := by
      rw [List.drop_eq_getElem_cons hi2]
      congr 1
      unfold rd
      rw [Int.toNat_natCast, List.getD_eq_getElem?_getD, List.getElem?_eq_getElem hi2]
      rfl
    rw [hd, bBump] at hb
    by_cases g : 0 ≤ rd lv (i : Int) ∧ rd lv (i : Int) < (o.length : Int)
    · rw [if_pos g] at hb
      have h := ih (i + 1) _ (by omega) hb
      refine Ev_succ ?_
      have c1 : (i : Int) < (lv.length : Int) := by omega
      have c2 : (0 : Int) ≤ (i : Int) := by omega
      have e1 : wrap64 ((i : Int) + 1) = ((i + 1 : Nat) : Int) := by unfold wrap64; omega
      simp only [spec_l05Best.l2, if_pos c1, if_pos c2, if_pos g.1, if_pos g.2, e1]
      exact h
    · rw [if_neg g] at hb
      cases hb
theorem own_some (l : List Int) (h : l.length ≤ 16) : spec_l00Own.f l = some l := by
  have c : ([] : List Int).length + l.length < 17592186044416 := by simp; omega
  simp only [spec_l00Own.f, Option.bind_some, if_pos c, List.nil_append]
theorem best_loop (n : Nat) (hn : n ≤ 16) (tot : Int) (ht : tot ≤ 1000000000000000) (k : Nat) : ∀ (ts ls : List S57) (num : Int) (out : List Int), ts.length ≤ k → 1 ≤ ts.length → BInv n tot ts num → ls.Perm ts → out.length = n → 0 ≤ num → num + (ts.length : Int) ≤ 1000 →
    ∃ F, bGo k ts num out = some F ∧ F.length = n ∧ Ev (fun q => spec_l05Best.l1 q out ls num) F := by
  induction k with
  | zero => intro ts ls num out h1 h2; omega
  | succ k ih =>
    intro ts ls num out h1 h2 hI hp hol hn0 hn1
    have hll := hp.length_eq
    have hsz := hI.size
    by_cases c : ts.length ≤ 1
    · refine ⟨out, by rw [bGo, if_pos c], hol, Ev_succ ?_⟩
      have c1 : ¬ (ls.length : Int) > 1 := by omega
      simp only [spec_l05Best.l1, if_neg c1]
      exact Ev.now _
    · have hql := bPerm_len bKey ts
      have hqp := bPerm_perm bKey ts
      have hqs := bPerm_sorted ts
      obtain ⟨x, y, r, hq⟩ : ∃ x y r, bPerm bKey ts = x :: y :: r := by
        cases hx : bPerm bKey ts with
        | nil => rw [hx] at hql; simp at hql; omega
        | cons a r => cases r with
          | nil => rw [hx] at hql; simp at hql; omega
          | cons b r => exact ⟨a, b, r, rfl⟩
      have hbg : bGo (k + 1) ts num out = (if 1 ≤ x.f2.length ∧ 1 ≤ y.f2.length ∧ x.f2.length + y.f2.length ≤ 16 then (bBump (x.f2 ++ y.f2) out).bind fun out' => bGo k (r ++ [⟨wrap64 (x.f0 + y.f0), num, x.f2 ++ y.f2⟩]) (wrap64 (num + 1)) out' else none) := by
        rw [bGo, if_neg c, hq]
        rfl
      rw [hq] at hql hqp hqs
      have hI2 := hI.perm hqp.symm
      have hpr := hI2.pair
      have hmx : ∀ z ∈ y :: r, ¬ lexLt z x := by
        intro z hz
        obtain ⟨j, hj, rfl⟩ := List.mem_iff_getElem.1 hz
        exact hqs 0 (j + 1) x _ (by omega) rfl (by simp [hj])
      have hmy : ∀ z ∈ r, ¬ lexLt z y := by
        intro z hz
        obtain ⟨j, hj, rfl⟩ := List.mem_iff_getElem.1 hz
        exact hqs 1 (j + 2) y _ (by omega) rfl (by simp [hj])
      obtain ⟨rest, hr1, hr2⟩ := take_min ls (y :: r) x (by omega) (hp.trans hqp.symm) hI2.nd hmx
      have hnd2 : ((y :: r).map S57.f1).Nodup := by
        have := hI2.nd
        rw [List.map_cons, List.nodup_cons] at this
        exact this.2
      have hrl := hr1.length_eq
      simp only [List.length_cons] at hrl hql
      obtain ⟨last, hl1, hl2⟩ := take_min rest r y (by omega) hr1 hnd2 hmy
      have hll2 := hl1.length_eq
      obtain ⟨o, hb, hbl⟩ := bump_some (x.f2 ++ y.f2) out n hol hpr.2.2.2.2
      have e1 : wrap64 (x.f0 + y.f0) = x.f0 + y.f0 := by unfold wrap64; omega
      have e2 : wrap64 (num + 1) = num + 1 := by clear e1; unfold wrap64; omega
      have hgd : 1 ≤ x.f2.length ∧ 1 ≤ y.f2.length ∧ x.f2.length + y.f2.length ≤ 16 := ⟨hI2.ne x (by simp), hI2.ne y (by simp), by clear e1 e2; omega⟩
      rw [if_pos hgd, hb] at hbg
      replace hbg : bGo (k + 1) ts num out = bGo k (r ++ [⟨wrap64 (x.f0 + y.f0), num, x.f2 ++ y.f2⟩]) (wrap64 (num + 1)) o := hbg
      rw [e1, e2] at hbg
      have E1 := Aside0.mk e1
      have E2 := Aside0.mk e2
      clear e1 e2
      obtain ⟨F, hF, hFl, hFe⟩ := ih (r ++ [⟨x.f0 + y.f0, num, x.f2 ++ y.f2⟩]) (last ++ [⟨x.f0 + y.f0, num, x.f2 ++ y.f2⟩]) (num + 1) o (by simp; omega) (by simp) hI2.join (hl1.append_right _) hbl (by omega) (by simp; omega)
      refine ⟨F, by rw [hbg]; exact hF, hFl, Ev_succ ?_⟩
      have c1 : (ls.length : Int) > 1 := by omega
      have c2 : x.f2.length + y.f2.length < 17592186044416 := by omega
      simp only [spec_l05Best.l1, if_pos c1]
      refine Ev.bind hr2 (Ev.bind hl2 ?_)
      simp only [own_some x.f2 (by omega), Option.bind_some, if_pos c2]
      refine l2_loop last (x.f2 ++ y.f2) (by rw [List.length_append]; omega) (by omega) num x.f0 x.f1 y.f0 y.f1 x.f2 y.f2 o F ?_ (x.f2 ++ y.f2).length 0 out (by omega) hb
      rw [E1.out, E2.out]
      exact hFe
theorem bStart_inv (l : List Int) (n : Nat) (hw : ∀ j : Nat, j < n → 1 ≤ rd l (j : Int) ∧ rd l (j : Int) ≤ 62500000000000) : BInv n (62500000000000 * (n : Int)) (bStart l n) (n : Int) := by
  refine ⟨?_, ?_, ?_, ?_, ?_, ?_⟩
  · unfold bStart
    rw [List.map_map]
    refine List.Pairwise.map _ ?_ List.nodup_range
    intro a b h
    show (a : Int) ≠ (b : Int)
    omega
  · intro t ht
    obtain ⟨i, hi, rfl⟩ := List.mem_map.1 ht
    have := List.mem_range.1 hi
    show (i : Int) < (n : Int)
    omega
  · have e : (bStart l n).flatMap S57.f2 = (List.range n).map (fun i : Nat => (i : Int)) := by
      unfold bStart
      rw [List.flatMap_map]
      generalize List.range n = q
      induction q with
      | nil => rfl
      | cons a q ih => simp [ih]
    rw [e]
  · intro t ht
    obtain ⟨i, hi, rfl⟩ := List.mem_map.1 ht
    simp
  · intro t ht
    obtain ⟨i, hi, rfl⟩ := List.mem_map.1 ht
    exact (hw i (List.mem_range.1 hi)).1
  · have : ∀ m, m ≤ n → ((bStart l m).map S57.f0).sum ≤ 62500000000000 * (m : Int) := by
      intro m
      induction m with
      | zero => intro _; simp [bStart]
      | succ m ih =>
        intro hm
        have h1 := ih (by omega)
        have h2 := (hw m (by omega)).2
        rw [bStart_succ, List.map_append, List.sum_append]
        simp
        omega
    exact this n (Nat.le_refl _)
theorem l0_loop (l : List Int) (hl : l.length ≤ 16) (F out : List Int) (hend : Ev (fun k => spec_l05Best.l1 k out (bStart l l.length) (l.length : Int)) F) (d : Nat) : ∀ i : Nat, i + d = l.length → Ev (fun k => spec_l05Best.l0 k l out (bStart l i) (i : Int)) F := by
  induction d with
  | zero =>
    intro i hi
    obtain rfl : i = l.length := by omega
    refine Ev_succ ?_
    have c1 : ¬ (l.length : Int) < (l.length : Int) := by omega
    simp only [spec_l05Best.l0, if_neg c1]
    exact hend
  | succ d ih =>
    intro i hi
    have h := ih (i + 1) (by omega)
    refine Ev_succ ?_
    have c1 : (i : Int) < (l.length : Int) := by omega
    have c2 : (0 : Int) ≤ (i : Int) := by omega
    have c3 : (bStart l i).length < 3518437208883 := by rw [bStart_len]; omega
    have e1 : wrap64 ((i : Int) + 1) = ((i + 1 : Nat) : Int) := by unfold wrap64; omega
    simp only [spec_l05Best.l0, if_pos c1, if_pos c2, if_pos c3, e1]
    rw [bStart_succ] at h
    exact h
theorem max_iff : ∀ (l : List Int) (z : Int), l.foldl max z > 12 ↔ z > 12 ∨ ∃ x ∈ l, x > 12
  | [], z => by simp
  | x :: l, z => by
    rw [List.foldl_cons, max_iff l (max z x)]
    simp only [List.mem_cons, exists_eq_or_imp]
    constructor
    · rintro (h | h)
      · by_cases g : z > 12
        · exact .inl g
        · exact .inr (.inl (by omega))
      · exact .inr (.inr h)
    · rintro (h | h | h)
      · exact .inl (by omega)
      · exact .inl (by omega)
      · exact .inr h
theorem maxOf_iff (l : List Int) : Lib.maxOf l > 12 ↔ ∃ x ∈ l, x > 12 := by
  unfold Lib.maxOf
  rw [max_iff]
  cases l with
  | nil => simp
  | cons x l => simp
theorem end_loop (o : List Int) (hl : o.length ≤ 16) (d : Nat) : ∀ i : Nat, i + d = o.length → (∀ j : Nat, j < i → ¬ rd o (j : Int) > 12) → Ev (fun k => spec_BestLengths.l0 k o (i : Int)) (if Lib.maxOf o > 12 then (([], false) : List Int × Bool) else (o, true)) := by
  induction d with
  | zero =>
    intro i hi hn
    have c1 : ¬ (i : Int) < (o.length : Int) := by omega
    have c2 : ¬ Lib.maxOf o > 12 := by
      rw [maxOf_iff]
      rintro ⟨x, hx, h⟩
      obtain ⟨j, hj, rfl⟩ := List.mem_iff_getElem.1 hx
      refine hn j (by omega) ?_
      unfold rd
      rw [Int.toNat_natCast, List.getD_eq_getElem?_getD, List.getElem?_eq_getElem hj]
      exact h
    rw [if_neg c2]
    refine Ev_succ ?_
    simp only [spec_BestLengths.l0, if_neg c1]
    exact Ev.now _
  | succ d ih =>
    intro i hi hn
    have c1 : (i : Int) < (o.length : Int) := by omega
    have c2 : (0 : Int) ≤ (i : Int) := by omega
    by_cases g : rd o (i : Int) > 12
    · have c3 : Lib.maxOf o > 12 := by
        rw [maxOf_iff]
        have hio : i < o.length := by omega
        refine ⟨o[i], List.getElem_mem hio, ?_⟩
        unfold rd at g
        rw [Int.toNat_natCast, List.getD_eq_getElem?_getD, List.getElem?_eq_getElem hio] at g
        exact g
      rw [if_pos c3]
      refine Ev_succ ?_
      simp only [spec_BestLengths.l0, if_pos c1, if_pos c2, if_pos g]
      exact Ev.now _
    · have h := ih (i + 1) (by omega) (fun j hj => by
        by_cases e : j = i
        · rw [e]; exact g
        · exact hn j (by omega))
      have e1 : wrap64 ((i : Int) + 1) = ((i + 1 : Nat) : Int) := by unfold wrap64; omega
      refine Ev_succ ?_
      simp only [spec_BestLengths.l0, if_pos c1, if_pos c2, if_neg g, e1]
      exact h
theorem bw_loop (l : List Int) (hl : (l.length : Int) ≤ 1048576) (d : Nat) : ∀ i : Nat, i + d = l.length → (∀ j : Nat, j < i → 1 ≤ rd l (j : Int) ∧ rd l (j : Int) ≤ 62500000000000) →
    ∃ b, Ev (fun k => spec_l05Weights.l0 k l (i : Int)) b ∧ (b = true ↔ (2 ≤ l.length ∧ l.length ≤ 16 ∧ ∀ j : Nat, j < l.length → 1 ≤ rd l (j : Int) ∧ rd l (j : Int) ≤ 62500000000000)) := by
  induction d with
  | zero =>
    intro i hi hn
    have c1 : ¬ (i : Int) < (l.length : Int) := by omega
    by_cases c2 : (l.length : Int) ≥ 2
    · refine ⟨decide ((l.length : Int) ≤ 16), Ev_succ ?_, ?_⟩
      · simp only [spec_l05Weights.l0, if_neg c1, if_pos c2]
        exact Ev.now _
      · rw [decide_eq_true_iff]
        exact ⟨fun h => ⟨by omega, by omega, fun j hj => hn j (by omega)⟩, fun h => by omega⟩
    · refine ⟨false, Ev_succ ?_, ?_⟩
      · simp only [spec_l05Weights.l0, if_neg c1, if_neg c2]
        exact Ev.now _
      · exact ⟨(fun h => by cases h), fun h => by omega⟩
  | succ d ih =>
    intro i hi hn
    have c1 : (i : Int) < (l.length : Int) := by omega
    have c2 : (0 : Int) ≤ (i : Int) := by omega
    by_cases g : 1 ≤ rd l (i : Int) ∧ rd l (i : Int) ≤ 62500000000000
    · obtain ⟨b, h1, h2⟩ := ih (i + 1) (by omega) (fun j hj => by
        by_cases e : j = i
        · rw [e]; exact g
        · exact hn j (by omega))
      refine ⟨b, Ev_succ ?_, h2⟩
      have e1 : wrap64 ((i : Int) + 1) = ((i + 1 : Nat) : Int) := by unfold wrap64; omega
      simp only [spec_l05Weights.l0, if_pos c1, if_pos c2, l00In_eq, Option.bind_some, decide_eq_true g, if_true, e1]
      exact h1
    · refine ⟨false, Ev_succ ?_, ?_⟩
      · simp only [spec_l05Weights.l0, if_pos c1, if_pos c2, l00In_eq, Option.bind_some, decide_eq_false g, Bool.false_eq_true, if_false]
        exact Ev.now _
      · exact ⟨(fun h => by cases h), fun h => absurd (h.2.2 i (by omega)) g⟩
theorem ba_loop (l : List Int) (hl : l.length ≤ 16) (d : Nat) : ∀ (i k : Nat), i + d = l.length → d < k → ∃ b, impl_areIn.l0 k 1 62500000000000 l l.length i = some b ∧ (b = true ↔ ∀ j : Nat, i ≤ j → j < l.length → 1 ≤ rd l (j : Int) ∧ rd l (j : Int) ≤ 62500000000000) := by
  induction d with
  | zero =>
    intro i k hd hk
    obtain ⟨k, rfl⟩ : ∃ m, k = m + 1 := ⟨k - 1, by omega⟩
    exact ⟨true, by simp only [impl_areIn.l0, if_neg (show ¬ (i : Int) < (l.length : Int) by omega)], by simp only [true_iff]; intro j j0 j1; omega⟩
  | succ d ih =>
    intro i k hd hk
    obtain ⟨k, rfl⟩ : ∃ m, k = m + 1 := ⟨k - 1, by omega⟩
    obtain ⟨r, e, hr⟩ := ih (i + 1) k (by omega) (by omega)
    have q : (i : Int) < (l.length : Int) := by omega
    have q0 : (0 : Int) ≤ i := by omega
    by_cases c : 1 ≤ rd l i ∧ rd l i ≤ 62500000000000
    · have e1 : wrap64 ((i : Int) + 1) = ((i + 1 : Nat) : Int) := by unfold wrap64; omega
      refine ⟨r, by simp only [impl_areIn.l0, if_pos q, if_pos q0, within_eq, Option.bind_some, decide_eq_true c, if_true, e1, e], ?_⟩
      clear e1
      rw [hr]
      exact ⟨fun g j j0 j1 => by
        by_cases z : j = i
        · rw [z]; exact c
        · exact g j (by omega) j1, fun g j j0 j1 => g j (by omega) j1⟩
    · refine ⟨false, by simp only [impl_areIn.l0, if_pos q, if_pos q0, within_eq, Option.bind_some, decide_eq_false c, Bool.false_eq_true, if_false], ?_⟩
      simp only [Bool.false_eq_true, false_iff]; exact fun g => c (g i (by omega) (by omega))
theorem ba_all (l : List Int) : ∃ b, impl_areWeights.f 20 l = some b ∧ (b = true ↔ (2 ≤ l.length ∧ l.length ≤ 16 ∧ ∀ j : Nat, j < l.length → 1 ≤ rd l (j : Int) ∧ rd l (j : Int) ≤ 62500000000000)) := by
  by_cases c1 : (l.length : Int) ≥ 2
  · by_cases c2 : (l.length : Int) ≤ 16
    · obtain ⟨b, h1, h2⟩ := ba_loop l (by omega) l.length 0 20 (by omega) (by omega)
      refine ⟨b, ?_, ?_⟩
      · simp only [impl_areWeights.f, if_pos c1, if_pos c2]
        rw [show impl_areIn.f 20 l 1 62500000000000 = some b from h1]
        rfl
      · rw [h2]
        exact ⟨fun h => ⟨by omega, by omega, fun j hj => h j (Nat.zero_le _) hj⟩, fun h j _ hj => h.2.2 j hj⟩
    · refine ⟨false, by simp only [impl_areWeights.f, if_pos c1, if_neg c2], ?_⟩
      exact ⟨(fun h => by cases h), fun h => by omega⟩
  · refine ⟨false, by simp only [impl_areWeights.f, if_neg c1], ?_⟩
    exact ⟨(fun h => by cases h), fun h => by omega⟩
theorem best_both (l : List Int) (hl : (l.length : Int) ≤ 1048576) : ∃ r : List Int × Bool, Ev (fun k => spec_BestLengths.f k l) r ∧ impl_BestLengths.f l = some r ∧ r.1.length ≤ 16 := by
  obtain ⟨b, hb, hbi⟩ := bw_loop l hl l.length 0 (by omega) (fun j hj => by omega)
  obtain ⟨b', hb', hbi'⟩ := ba_all l
  have hbb : b' = b := Bool.eq_iff_iff.2 (hbi'.trans hbi.symm)
  subst hbb
  have hbf : Ev (fun k => spec_l05Weights.f k l) b' := hb
  cases b' with
  | false =>
    refine ⟨([], false), ?_, ?_, by simp⟩
    · simp only [spec_BestLengths.f]
      refine Ev.bind hbf ?_
      simp only [Bool.false_eq_true, if_false]
      exact Ev.now _
    · rw [impl_BestLengths.f, hb']
      rfl
  | true =>
    obtain ⟨h2, h16, hw⟩ := hbi.1 rfl
    have hI := bStart_inv l l.length hw
    obtain ⟨F, hF, hFl, hFe⟩ := best_loop l.length h16 (62500000000000 * (l.length : Int)) (by omega) 17 (bStart l l.length) (bStart l l.length) (l.length : Int) (List.replicate l.length 0) (by rw [bStart_len]; omega) (by rw [bStart_len]; omega) hI (List.Perm.refl _) (by simp) (by omega) (by rw [bStart_len]; omega)
    have hbest : Ev (fun k => spec_l05Best.f k l) F := by
      have c1 : 0 ≤ (l.length : Int) := by omega
      have c2 : l.length ≤ 35184372088832 := by omega
      simp only [spec_l05Best.f, if_pos c1, Int.toNat_natCast, if_pos c2]
      exact l0_loop l h16 F _ hFe l.length 0 (by omega)
    refine ⟨if Lib.maxOf F > 12 then ([], false) else (F, true), ?_, ?_, by split <;> simp; omega⟩
    · simp only [spec_BestLengths.f]
      refine Ev.bind hbf ?_
      simp only [if_true]
      exact Ev.bind hbest (end_loop F (by omega) F.length 0 (by omega) (fun j hj => by omega))
    · rw [impl_BestLengths.f, hb']
      show (if 2 ≤ l.length ∧ l.length ≤ 16 then _ else none) = _
      rw [if_pos ⟨h2, h16⟩, hF]
      rfl

theorem rd_set (l : List Int) (i j v : Int) (hi : 0 ≤ i) (hil : i < l.length) (hj : 0 ≤ j) : rd (l.set i.toNat v) j = if j = i then v else rd l j := by
  unfold rd
  by_cases e : j = i
  · subst e; rw [if_pos rfl, List.getD_eq_getElem?_getD, List.getElem?_set_self (by omega)]; rfl
  · rw [if_neg e, List.getD_eq_getElem?_getD, List.getElem?_set_ne (by omega), List.getD_eq_getElem?_getD]

theorem ext_rd (a b : List Int) (h : a.length = b.length) (hp : ∀ j : Int, 0 ≤ j → j < a.length → rd a j = rd b j) : a = b := by
  apply List.ext_getElem h
  intro n h1 h2
  have := hp n (by omega) (by omega)
  unfold rd at this
  rw [List.getD_eq_getElem?_getD, List.getD_eq_getElem?_getD, Int.toNat_natCast, List.getElem?_eq_getElem h1, List.getElem?_eq_getElem h2] at this
  simpa using this
theorem toInt64S_loop (l : List Int) (hl : (l.length : Int) ≤ 4611686018427387904) (d : Nat) : ∀ (m : List Int) (i : Int), m.length = l.length → 0 ≤ i → i ≤ l.length → (l.length : Int) - i = d → (∀ j, 0 ≤ j → j < i → rd m j = rd l j) →
    Ev (fun k => laws_toInt64S.l0 k l m i) l := by
  induction d with
  | zero =>
    intro m i hm h0 h1 hd hp
    refine Ev_succ ?_
    simp only [laws_toInt64S.l0, if_neg (show ¬ i < (l.length : Int) by omega)]
    rw [ext_rd m l hm (fun j j0 j1 => hp j j0 (by omega))]
    exact Ev.now _
  | succ d ih =>
    intro m i hm h0 h1 hd hp
    refine Ev_succ ?_
    simp (disch := omega) only [laws_toInt64S.l0, w64]
    simp only [if_pos (show i < (l.length : Int) by omega), if_pos h0, if_pos (show i < (m.length : Int) by omega)]
    refine ih (m.set i.toNat (rd l i)) (i + 1) (by rw [List.length_set]; exact hm) (by omega) (by omega) (by omega) (fun j j0 j1 => ?_)
    rw [rd_set m i j _ h0 (by omega) j0]
    by_cases e : j = i
    · rw [if_pos e, e]
    · rw [if_neg e]; exact hp j j0 (by omega)
theorem toInt64S_ev (l : List Int) (hl : (l.length : Int) ≤ 1048576) : Ev (fun k => laws_toInt64S.f k l) l := by
  simp only [laws_toInt64S.f, if_pos (show 0 ≤ (l.length : Int) by omega), if_pos (show ((l.length : Int)).toNat ≤ 35184372088832 by omega)]
  exact toInt64S_loop l (by omega) l.length _ 0 (by simp) (by omega) (by omega) (by omega) (fun j _ _ => by omega)

theorem eqInt64S_loop (l : List Int) (hl : (l.length : Int) ≤ 4611686018427387904) (d : Nat) : ∀ i : Int, 0 ≤ i → i ≤ l.length → (l.length : Int) - i = d → Ev (fun k => laws_eqInt64S.l0 k l l i) true := by
  induction d with
  | zero =>
    intro i h0 h1 hd
    refine Ev_succ ?_
    simp only [laws_eqInt64S.l0, if_neg (show ¬ i < (l.length : Int) by omega)]
    exact Ev.now _
  | succ d ih =>
    intro i h0 h1 hd
    refine Ev_succ ?_
    simp (disch := omega) only [laws_eqInt64S.l0, w64]
    simp only [if_pos (show i < (l.length : Int) by omega), if_pos h0, if_true]
    exact ih (i + 1) (by omega) (by omega) (by omega)
theorem eqInt64S_self (l : List Int) (hl : (l.length : Int) ≤ 4611686018427387904) : Ev (fun k => laws_eqInt64S.f k l l) true := by
  simp only [laws_eqInt64S.f, if_true]
  exact eqInt64S_loop l hl l.length 0 (by omega) (by omega) (by omega)

theorem markAny_loop (n : Int) (hn : n ≤ 4611686018427387904) (s : Int) (h0 : -1000000000000000 ≤ s) (h1 : s ≤ 1000000000000000) (d : Nat) : ∀ (l : List Int) (i : Int), (l.length : Int) = n → 0 ≤ i → i ≤ n → n - i = d →
    ∃ m, Ev (fun k => laws_markInt64S.l0 k l (s + i) i) (s + n, m) ∧ (m.length : Int) = n := by
  induction d with
  | zero =>
    intro l i hl h0 h1 hd
    obtain rfl : i = n := by omega
    refine ⟨l, Ev_succ ?_, hl⟩
    simp only [laws_markInt64S.l0, if_neg (show ¬ i < (l.length : Int) by omega)]
    exact Ev.now _
  | succ d ih =>
    intro l i hl h0 h1 hd
    obtain ⟨m, hm, g⟩ := ih (l.set i.toNat (s + i)) (i + 1) (by rw [List.length_set]; exact hl) (by omega) (by omega) (by omega)
    refine ⟨m, Ev_succ ?_, g⟩
    simp (disch := omega) only [laws_markInt64S.l0, w64]
    simp only [if_pos (show i < (l.length : Int) by omega), if_pos h0]
    rw [show s + i + 1 = s + (i + 1) by omega]
    exact hm
theorem markAny_ev (l : List Int) (hl : (l.length : Int) ≤ 4611686018427387904) (s : Int) (h0 : -1000000000000000 ≤ s) (h1 : s ≤ 1000000000000000) : ∃ m, Ev (fun k => laws_markInt64S.f k l s) (s + (l.length : Int), m) := by
  obtain ⟨m, h, -⟩ := markAny_loop l.length hl s h0 h1 l.length l 0 rfl (by omega) (by omega) (by omega)
  rw [show s + (0 : Int) = s by omega] at h
  exact ⟨m, h⟩

theorem markHeld_loop (n : Int) (hn : n ≤ 1000000) (s : Int) (h0 : 1 ≤ s) (h1 : s ≤ 1000000) (d : Nat) : ∀ (l : List Int) (i : Int), (l.length : Int) = n → 0 ≤ i → i ≤ n → n - i = d → (∀ j, 0 ≤ j → j < i → rd l j = s + j) →
    ∃ m, Ev (fun k => laws_markInt64S.l0 k l (s + i) i) (s + n, m) ∧ (m.length : Int) = n ∧ ∀ j, 0 ≤ j → j < n → rd m j = s + j := by
  induction d with
  | zero =>
    intro l i hl h0 h1 hd hp
    obtain rfl : i = n := by omega
    refine ⟨l, Ev_succ ?_, hl, hp⟩
    simp only [laws_markInt64S.l0, if_neg (show ¬ i < (l.length : Int) by omega)]
    exact Ev.now _
  | succ d ih =>
    intro l i hl h0 h1 hd hp
    obtain ⟨m, hm, g⟩ := ih (l.set i.toNat (s + i)) (i + 1) (by rw [List.length_set]; exact hl) (by omega) (by omega) (by omega) (fun j g0 g1 => by
      rw [rd_set l i j _ h0 (by omega) g0]
      by_cases e : j = i
      · rw [if_pos e, e]
      · rw [if_neg e]; exact hp j g0 (by omega))
    refine ⟨m, Ev_succ ?_, g⟩
    simp (disch := omega) only [laws_markInt64S.l0, w64]
    simp only [if_pos (show i < (l.length : Int) by omega), if_pos h0]
    rw [show s + i + 1 = s + (i + 1) by omega]
    exact hm
theorem heldHeld_loop (m : List Int) (hn : (m.length : Int) ≤ 1000000) (s : Int) (h0 : 1 ≤ s) (h1 : s ≤ 1000000) (hp : ∀ j, 0 ≤ j → j < (m.length : Int) → rd m j = s + j) (d : Nat) : ∀ i : Int, 0 ≤ i → i ≤ m.length → (m.length : Int) - i = d →
    Ev (fun k => laws_heldInt64S.l0 k m (s + i) i) (s + (m.length : Int)) := by
  induction d with
  | zero =>
    intro i g0 g1 hd
    obtain rfl : i = (m.length : Int) := by omega
    refine Ev_succ ?_
    simp only [laws_heldInt64S.l0, if_neg (show ¬ (m.length : Int) < (m.length : Int) by omega)]
    exact Ev.now _
  | succ d ih =>
    intro i g0 g1 hd
    have q : i < (m.length : Int) := by omega
    refine Ev_succ ?_
    simp (disch := omega) only [laws_heldInt64S.l0, w64]
    simp only [if_pos q, if_pos g0, if_pos (hp i g0 q)]
    rw [show s + i + 1 = s + (i + 1) by omega]
    exact ih (i + 1) (by omega) (by omega) (by omega)
theorem markHeld_ev (l : List Int) (hl : (l.length : Int) ≤ 1000000) (s : Int) (h0 : 1 ≤ s) (h1 : s ≤ 1000000) : ∃ m, Ev (fun k => laws_markInt64S.f k l s) (s + (l.length : Int), m) ∧ Ev (fun k => laws_heldInt64S.f k m s) (s + (l.length : Int)) := by
  obtain ⟨m, h, hm, hp⟩ := markHeld_loop l.length hl s h0 h1 l.length l 0 rfl (by omega) (by omega) (by omega) (fun j _ _ => by omega)
  rw [show s + (0 : Int) = s by omega] at h
  have g := heldHeld_loop m (by omega) s h0 h1 (fun j j0 j1 => hp j j0 (by omega)) m.length 0 (by omega) (by omega) (by omega)
  rw [show s + (0 : Int) = s by omega, hm] at g
  exact ⟨m, h, g⟩

theorem FnExactBestLengths : laws_FnExactBestLengths.Pure := by
  intro l h1 h2 h3
  apply Ev.rounds
  simp only [laws_FnExactBestLengths.f]
  by_cases hn : (l.length : Int) > 1048576
  · simp only [if_pos hn]; exact Ev.now _
  simp only [if_neg hn]
  have ht := toInt64S_ev l (by omega)
  obtain ⟨r, hA, hB, hrl⟩ := best_both l (by omega)
  have he := eqInt64S_self r.1 (by omega)
  have hei := eqInt64S_self l (by omega)
  obtain ⟨mi, hmi⟩ := markAny_ev l (by omega) 1 (by omega) (by omega)
  obtain ⟨m, hm, hh⟩ := markHeld_ev r.1 (by omega) 1 (by omega) (by omega)
  have n1 : ¬ 1 + (l.length : Int) < 0 := by omega
  have n2 : ¬ 1 + (r.1.length : Int) < 0 := by omega
  refine Ev.bind ht (Ev.bind hA (Ev.bind ht (Ev.bind (Ev_eq (fun _ => hB)) (Ev.bind he ?_))))
  simp only [if_true, bne_self_eq_false]
  apply Ev_succ
  simp only [laws_FnExactBestLengths.j0, Bool.false_eq_true, if_false]
  refine Ev.bind ht (Ev.bind hei ?_)
  simp only [if_true]
  refine Ev.bind hmi ?_
  simp only [if_neg n1]
  refine Ev.bind he ?_
  simp only [if_true, bne_self_eq_false]
  apply Ev_succ
  simp only [laws_FnExactBestLengths.j1, Bool.false_eq_true, if_false]
  refine Ev.bind hm (Ev.bind hh ?_)
  simp only [if_neg n2, if_true]
  refine Ev.bind ht (Ev.bind (Ev_eq (fun _ => hB)) (Ev.bind he ?_))
  simp only [if_true, bne_self_eq_false]
  apply Ev_succ
  simp only [laws_FnExactBestLengths.j2, Bool.false_eq_true, if_false]
  refine Ev.bind hh ?_
  simp only [if_neg n2, if_true]
  exact Ev.now _

end Go.Proofs.Ytkpobdcnggdjaaa.Pure
