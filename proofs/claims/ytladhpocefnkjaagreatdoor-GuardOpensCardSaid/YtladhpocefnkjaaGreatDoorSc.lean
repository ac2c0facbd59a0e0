/-
  Each step of the executor is sound, and a run of it is a call of the machine; no condition.
-/
import Derived.Test.YtladhpocefnkjaaGreatDoorSb
namespace Go.SX
open Go.RowKit
variable {e : E} {ρ ρ' : Rho} {h h' : H} {w0 w w' : World} {P : Program}
theorem go_step (ops : Array Oper) (fuel t : Nat) (L : Array Bool) : Region.linearise.go .any ops (fuel + 1) t L [] =
    (match (Region.ready .any ops L)[t % (Region.ready .any ops L).length]? with
     | some i => i :: Region.linearise.go .any ops fuel (t / (Region.ready .any ops L).length) (L.setIfInBounds i true) []
     | none => []) := by
  conv => lhs; unfold Region.linearise.go
  show (match (Region.ready .any ops L)[t % (Region.ready .any ops L).length]? with
    | some i => Region.linearise.go .any ops fuel (t / (Region.ready .any ops L).length) (L.setIfInBounds i true) (i :: [])
    | none => [].reverse) = _
  cases (Region.ready .any ops L)[t % (Region.ready .any ops L).length]? with
  | none => rfl
  | some i => simp only []; rw [linearise_go_acc]; rfl
theorem ready_none {ops : Array Oper} {t : Nat} {L : Array Bool} (h : (Region.ready .any ops L)[t % (Region.ready .any ops L).length]? = none) : Region.ready .any ops L = [] := by
  cases hr : Region.ready .any ops L with
  | nil => rfl
  | cons x xs =>
    rw [hr] at h
    have hlt : t % (x :: xs).length < (x :: xs).length := Nat.mod_lt _ (by simp)
    rw [List.getElem?_eq_none_iff] at h
    omega
theorem left_zero {L : Array Bool} {n : Nat} (hn : L.size = n) (h : left L n ≤ 0) : ∀ i, i < n → L.getD i false = true := by
  intro i hi
  cases hL : L.getD i false with
  | true => rfl
  | false =>
    have := left_less hn hi (by rw [getD_size (by omega) true false]; exact hL)
    omega
section
variable {lo hi nt n : Nat} {tm : T Value} {ops : Array Oper} {vals : T Value}
/-- the operation with an effect that is ready is the next one -/
theorem ready_ef {tmps : Array Value} {L : Array Bool} {i : Nat} {o : Oper} (hD : DR ρ lo hi nt tm tmps ops n vals L) (hr : i ∈ Region.ready .any ops L) (ho : ops[i]? = some o) (he : eagerOp o.op = false) :
    (efs ops.toList 0)[n]? = some (i, o) := by
  obtain ⟨_, hLi, _⟩ := ready_mem hD.size hr
  obtain ⟨j, hj⟩ := efs_of (k := 0) (i := i) (arr := ops.toList) (o := o) (by rw [arr_get]; exact ho) he
  rw [Nat.zero_add] at hj
  have h1 : ¬ j < n := fun q => by rw [(hD.efs j i o hj).2 q] at hLi; cases hLi
  have h2 : j ≤ n := by
    cases j with
    | zero => omega
    | succ j =>
      have hlt : j < (efs ops.toList 0).length := by have := (List.getElem?_eq_some_iff.1 hj).1; omega
      obtain ⟨⟨a, x⟩, hget⟩ : ∃ p, (efs ops.toList 0)[j]? = some p := ⟨_, List.getElem?_eq_getElem hlt⟩
      have hb := chained_get (dok_parts hD.ok).1 hget hj
      have := (hD.efs j a x hget).1 (ready_mask hD hr a hb)
      omega
  have : j = n := by omega
  rw [← this]; exact hj
theorem drain (hE : EnvOk e P) (hhi : hi ≤ h.n) (hlo : lo ≤ h.n)
    (hB : stageB e ops.toList (masks [] ops.toList) (efs ops.toList 0) n tm vals h ops.toList 0 = true) {cs : List Frame} {K : List Item} :
    ∀ (fuel t : Nat) (L : Array Bool) (ρ : Rho) (w : World) (fr : Frame), Inv ρ h w0 w → DR ρ lo hi nt tm fr.tmps ops n vals L → left L ops.size ≤ fuel → nt ≤ fr.tmps.size → fr.mode = .run →
      fr.todo = .inRegion ops (Region.linearise.go .any ops fuel t L []) :: K →
    ∃ ρ' w' tmps' todo' L', Steps P (lone fr cs w) (lone { fr with tmps := tmps', todo := .inRegion ops todo' :: K } cs w') ∧ ρ.Ext lo ρ' lo ∧ Inv ρ' h w0 w' ∧ nt ≤ tmps'.size ∧
      DR ρ' lo hi nt tm tmps' ops n vals L' ∧ (∃ f0 t0, todo' = Region.linearise.go .any ops f0 t0 L' [] ∧ left L' ops.size ≤ f0) ∧
      ((∃ i o fuel' t', todo' = i :: Region.linearise.go .any ops fuel' t' (L'.setIfInBounds i true) [] ∧ i ∈ Region.ready .any ops L' ∧ (efs ops.toList 0)[n]? = some (i, o) ∧ ops[i]? = some o ∧ left L' ops.size ≤ fuel' + 1) ∨
        (todo' = [] ∧ ∀ i, i < ops.size → L'.getD i false = true)) := by
  intro fuel
  induction fuel with
  | zero =>
    intro t L ρ w fr hinv hD hl hnt hm htd
    refine ⟨ρ, w, fr.tmps, [], L, ?_, .refl _, hinv, hnt, hD, ⟨0, t, rfl, hl⟩, .inr ⟨rfl, left_zero hD.size hl⟩⟩
    have : ({ fr with tmps := fr.tmps, todo := .inRegion ops [] :: K } : Frame) = fr := by
      obtain ⟨fn, tmps, todo, defers, mode, kind, round⟩ := fr
      simp only at htd; subst htd
      rfl
    rw [this]; exact .refl _ _
  | succ fuel ih =>
    intro t L ρ w fr hinv hD hl hnt hm htd
    rw [go_step] at htd
    cases hq : (Region.ready .any ops L)[t % (Region.ready .any ops L).length]? with
    | none =>
      rw [hq] at htd
      refine ⟨ρ, w, fr.tmps, [], L, ?_, .refl _, hinv, hnt, hD, ⟨fuel + 1, t, by rw [go_step, hq], hl⟩, .inr ⟨rfl, ready_nil hD.size (dok_parts hD.ok).2.1 (ready_none hq)⟩⟩
      have : ({ fr with tmps := fr.tmps, todo := .inRegion ops [] :: K } : Frame) = fr := by
        obtain ⟨fn, tmps, todo, defers, mode, kind, round⟩ := fr
        simp only at htd; subst htd
        rfl
      rw [this]; exact .refl _ _
    | some i =>
      rw [hq] at htd
      simp only at htd
      have hr := List.mem_of_getElem? hq
      obtain ⟨hlt, hLi, o, ho, _⟩ := ready_mem hD.size hr
      cases he : eagerOp o.op with
      | false =>
        refine ⟨ρ, w, fr.tmps, i :: Region.linearise.go .any ops fuel (t / (Region.ready .any ops L).length) (L.setIfInBounds i true) [], L, ?_, .refl _, hinv, hnt, hD, ⟨fuel + 1, t, by rw [go_step, hq], hl⟩,
          .inl ⟨i, o, fuel, t / (Region.ready .any ops L).length, rfl, hr, ready_ef hD hr ho he, ho, hl⟩⟩
        have : ({ fr with tmps := fr.tmps, todo := .inRegion ops (i :: Region.linearise.go .any ops fuel (t / (Region.ready .any ops L).length) (L.setIfInBounds i true) []) :: K } : Frame) = fr := by
          obtain ⟨fn, tmps, todo, defers, mode, kind, round⟩ := fr
          simp only at htd; subst htd
          rfl
        rw [this]; exact .refl _ _
      | true =>
        obtain ⟨ρ1, w1, tmps1, hst, hext, hinv1, hnt1, hD1⟩ := eager_step (P := P) (cs := cs) hE hinv hhi hlo hD hnt hB hr ho he hm htd rfl
        have hless := left_less hD.size hlt (by rw [getD_size (by rw [hD.size]; exact hlt) true false]; exact hLi)
        obtain ⟨ρ2, w2, tmps2, todo2, L2, hst2, hext2, hinv2, hnt2, hD2, hf2, hor⟩ := ih (t / (Region.ready .any ops L).length) (L.setIfInBounds i true) ρ1 w1
          { fr with tmps := tmps1, todo := .inRegion ops (Region.linearise.go .any ops fuel (t / (Region.ready .any ops L).length) (L.setIfInBounds i true) []) :: K } hinv1 hD1 (by omega) hnt1 hm rfl
        exact ⟨ρ2, w2, tmps2, todo2, L2, .head hst hst2, hext.trans hext2, hinv2, hnt2, hD2, hf2, hor⟩
end
end Go.SX
namespace Go.SX
open Go.RowKit
variable {e : E} {ρ ρ' : Rho} {h h' : H} {w0 w w' : World} {P : Program}
theorem idOf_at (mk : Mk) (r : Nat) : idOf (mk.at r) = some r := by cases mk <;> rfl
section
variable {lo hi nt n : Nat} {tm : T Value} {tmps : Array Value} {ops : Array Oper} {vals : T Value} {L : Array Bool}
theorem DR.upto (hD : DR ρ lo hi nt tm tmps ops n vals L) {hi' : Nat} (hh : hi ≤ hi') : DR ρ lo hi' nt tm tmps ops n vals L :=
  hD.mono (.refl (n := hi) ρ) (Nat.le_refl _) hh
/-- an operation that is not done gets a value -/
theorem DR.guess (hD : DR ρ lo hi nt tm tmps ops n vals L) {i : Nat} {o : Oper} {v : Value} (ho : ops[i]? = some o) (hv : vals.get i = none)
    (hp : ∀ r, freshOp o.op = true → idOf v = some r → ρ.ι r = none ∧ lo ≤ r ∧ r = hi) : DR ρ lo (hi + 1) nt tm tmps ops n (vals.set i v) L := by
  have hLi : L.getD i false = false := by
    cases q : L.getD i false with
    | false => rfl
    | true => obtain ⟨u, h1, _⟩ := hD.val i o q ho; rw [hv] at h1; cases h1
  refine { hD with val := ?_, pend := ?_, dist := ?_ }
  · intro j oj hLj hoj
    have hji : j ≠ i := by intro q; subst q; rw [hLi] at hLj; cases hLj
    obtain ⟨u, h1, h2⟩ := hD.val j oj hLj hoj
    exact ⟨u, by rw [T.get_set, if_neg hji]; exact h1, h2⟩
  · intro j oj u r hLj hoj hf hg hid
    rw [T.get_set] at hg
    by_cases hji : j = i
    · rw [if_pos hji] at hg; cases hg
      subst hji; rw [ho] at hoj; cases hoj
      obtain ⟨h1, h2, h3⟩ := hp r hf hid
      exact ⟨h1, h2, by omega⟩
    · rw [if_neg hji] at hg
      obtain ⟨h1, h2, h3⟩ := hD.pend j oj u r hLj hoj hf hg hid
      exact ⟨h1, h2, by omega⟩
  · intro j k oj ok u u' r hLj hLk hoj hok hf hf' hg hg' hid hid'
    rw [T.get_set] at hg hg'
    by_cases hji : j = i
    · by_cases hki : k = i
      · rw [hji, hki]
      · rw [if_neg hki] at hg'
        obtain ⟨_, _, h3⟩ := hD.pend k ok u' r hLk hok hf' hg' hid'
        rw [if_pos hji] at hg; cases hg
        subst hji; rw [ho] at hoj; cases hoj
        obtain ⟨_, _, h4⟩ := hp r hf hid
        omega
    · rw [if_neg hji] at hg
      by_cases hki : k = i
      · obtain ⟨_, _, h3⟩ := hD.pend j oj u r hLj hoj hf hg hid
        rw [if_pos hki] at hg'; cases hg'
        subst hki; rw [ho] at hok; cases hok
        obtain ⟨_, _, h4⟩ := hp r hf' hid'
        omega
      · rw [if_neg hki] at hg'
        exact hD.dist j k oj ok u u' r hLj hLk hoj hok hf hf' hg hg' hid hid'
theorem stageA_sound {bs : List Nat} {ef : List (Nat × Oper)} {arr : List Oper} {tm0 : T Value} : ∀ {l : List Oper} {k : Nat} {vals vals' : T Value} {h h' : H}, l = ops.toList.drop k →
    stageA e arr bs ef n tm0 l k vals h = some (vals', h') → Inv ρ h w0 w → lo ≤ h.n → DR ρ lo h.n nt tm tmps ops n vals L → Inv ρ h' w0 w ∧ h.n ≤ h'.n ∧ DR ρ lo h'.n nt tm tmps ops n vals' L := by
  intro l
  induction l with
  | nil => intro k vals vals' h h' _ hs hi _ hD; simp only [stageA, Option.some.injEq, Prod.mk.injEq] at hs; obtain ⟨rfl, rfl⟩ := hs; exact ⟨hi, Nat.le_refl _, hD⟩
  | cons x xs ih =>
    intro k vals vals' h h' hl hs hi hlo hD
    have hxk : ops[k]? = some x := by
      rw [← arr_get]
      have : (ops.toList.drop k)[0]? = some x := by rw [← hl]; rfl
      simpa using this
    have hxs : xs = ops.toList.drop (k + 1) := by rw [← List.drop_drop, ← hl]; rfl
    have hskip : stageA e arr bs ef n tm0 xs (k + 1) vals h = some (vals', h') → Inv ρ h' w0 w ∧ h.n ≤ h'.n ∧ DR ρ lo h'.n nt tm tmps ops n vals' L := fun q => ih hxs q hi hlo hD
    simp only [stageA] at hs
    cases hc : (eagerOp x.op && (vals.get k).isNone && mayAt bs (maskAt bs k) k n ef) with
    | false => rw [hc, cond_false] at hs; exact hskip hs
    | true =>
      rw [hc, cond_true] at hs
      simp only [Bool.and_eq_true] at hc
      have hnone : vals.get k = none := by
        have := hc.1.2
        cases hq : vals.get k with
        | none => rfl
        | some _ => rw [hq] at this; cases this
      have hset : ∀ {v : Value}, (∀ r, freshOp x.op = true → idOf v = some r → False) → stageA e arr bs ef n tm0 xs (k + 1) (vals.set k v) h = some (vals', h') → Inv ρ h' w0 w ∧ h.n ≤ h'.n ∧ DR ρ lo h'.n nt tm tmps ops n vals' L := by
        intro v hv q
        have hD1 : DR ρ lo h.n nt tm tmps ops n (vals.set k v) L := by
          have hg := hD.guess (v := v) hxk hnone (fun r hf hid => absurd (hv r hf hid) id)
          refine { hg with pend := ?_ }
          intro j oj u r hLj hoj hf hgj hid
          have hgj' := hgj
          rw [T.get_set] at hgj
          by_cases hji : j = k
          · subst hji; rw [if_pos rfl] at hgj; cases hgj; rw [hxk] at hoj; cases hoj; exact absurd (hv r hf hid) id
          · rw [if_neg hji] at hgj; exact hD.pend j oj u r hLj hoj hf hgj hid
        exact ih hxs q hi hlo hD1
      split at hs
      · split at hs
        · cases hf : freshOp x.op with
          | true =>
            rw [hf, cond_true] at hs
            split at hs
            · rename_i ob mk _
              have hD1 : DR ρ lo (h.new ob).n nt tm tmps ops n (vals.set k (mk.at h.n)) L := hD.guess hxk hnone (fun r _ hid => by
                rw [idOf_at] at hid; cases hid
                exact ⟨hi.unmapped (Nat.le_refl _), hlo, rfl⟩)
              obtain ⟨h1, h2, h3⟩ := ih hxs hs (hi.pend ob) (Nat.le_succ_of_le hlo) hD1
              exact ⟨h1, Nat.le_trans (Nat.le_succ _) h2, h3⟩
            · cases hs
          | false =>
            rw [hf, cond_false] at hs
            split at hs
            · exact hset (fun r hf' _ => by rw [hf] at hf'; cases hf') hs
            · cases hs
        · cases hs
      · exact hset (fun r _ hid => by cases hid) hs
      · cases hs
end
theorem allVals_get {vals : T Value} : ∀ {arr : List Oper} {k : Nat} {tm tm' : T Value}, allVals vals arr k tm = some tm' → ∀ t v, tm'.get t = some v →
    (∃ (i : Nat) (o : Oper), arr[i]? = some o ∧ o.dst = some t ∧ vals.get (k + i) = some v) ∨ (tm.get t = some v ∧ ∀ (i : Nat) (o : Oper), arr[i]? = some o → o.dst ≠ some t) := by
  intro arr
  induction arr with
  | nil => intro k tm tm' hs t v hv; simp only [allVals, Option.some.injEq] at hs; subst hs; exact .inr ⟨hv, fun i o ho => by simp at ho⟩
  | cons x xs ih =>
    intro k tm tm' hs t v hv
    simp only [allVals] at hs
    cases hg : vals.get k with
    | none => rw [hg] at hs; cases hs
    | some u =>
      rw [hg] at hs
      rcases ih hs t v hv with ⟨i, o, q1, q2, q3⟩ | ⟨q1, q2⟩
      · exact .inl ⟨i + 1, o, by simpa using q1, q2, by rw [show k + (i + 1) = k + 1 + i by omega]; exact q3⟩
      · have lift : (x.dst = some t → (∃ (i : Nat) (o : Oper), (x :: xs)[i]? = some o ∧ o.dst = some t ∧ vals.get (k + i) = some v)) → (x.dst ≠ some t → tm.get t = some v) →
            (∃ (i : Nat) (o : Oper), (x :: xs)[i]? = some o ∧ o.dst = some t ∧ vals.get (k + i) = some v) ∨ (tm.get t = some v ∧ ∀ (i : Nat) (o : Oper), (x :: xs)[i]? = some o → o.dst ≠ some t) := by
          intro a b
          by_cases hd : x.dst = some t
          · exact .inl (a hd)
          · refine .inr ⟨b hd, fun i o ho => ?_⟩
            cases i with
            | zero => simp at ho; subst ho; exact hd
            | succ i => exact q2 i o (by simpa using ho)
        cases hd : x.dst with
        | none => rw [hd] at q1 lift; exact lift (fun q => by cases q) (fun _ => q1)
        | some d =>
          rw [hd] at q1 lift
          simp only [putD, T.get_set] at q1
          refine lift (fun q => ?_) (fun q => ?_)
          · cases q
            rw [if_pos rfl] at q1; cases q1
            exact ⟨0, x, rfl, hd, hg⟩
          · rw [if_neg (fun q' => q (by rw [q']))] at q1; exact q1
theorem forget_get : ∀ {arr : List Oper} {tm : T Value} {t : Nat} {v : Value}, (forget arr tm).get t = some v → tm.get t = some v ∧ ∀ (i : Nat) (o : Oper), arr[i]? = some o → o.dst ≠ some t := by
  intro arr
  induction arr with
  | nil => intro tm t v hv; exact ⟨hv, fun i o ho => by simp at ho⟩
  | cons x xs ih =>
    intro tm t v hv
    simp only [forget] at hv
    obtain ⟨h1, h2⟩ := ih hv
    cases hd : x.dst with
    | none =>
      rw [hd] at h1
      refine ⟨h1, fun i o ho => ?_⟩
      cases i with
      | zero => simp at ho; subst ho; rw [hd]; intro q; cases q
      | succ i => exact h2 i o (by simpa using ho)
    | some d =>
      rw [hd] at h1
      simp only [T.get_del] at h1
      by_cases htd : t = d
      · rw [if_pos htd] at h1; cases h1
      · rw [if_neg htd] at h1
        refine ⟨h1, fun i o ho => ?_⟩
        cases i with
        | zero => simp at ho; subst ho; rw [hd]; intro q; cases q; exact htd rfl
        | succ i => exact h2 i o (by simpa using ho)
section
variable {lo hi nt n : Nat} {tm : T Value} {tmps : Array Value} {ops : Array Oper} {vals : T Value} {L : Array Bool}
theorem DR.done (hD : DR ρ lo hi nt tm tmps ops n vals L) (hall : ∀ i, i < ops.size → L.getD i false = true) {tm' : T Value} (hs : allVals vals ops.toList 0 tm = some tm') : TRel ρ tm' tmps := by
  intro t v hv
  rcases allVals_get hs t v hv with ⟨i, o, h1, h2, h3⟩ | ⟨h1, h2⟩
  · rw [arr_get] at h1
    obtain ⟨u, q1, q2⟩ := hD.val i o (hall i (Array.getElem?_eq_some_iff.1 h1).1) h1
    rw [Nat.zero_add] at h3
    rw [h3] at q1; cases q1
    exact q2 t h2
  · exact hD.old t v h1 fun i o _ ho => h2 i o (by rw [arr_get]; exact ho)
theorem DR.forget (hD : DR ρ lo hi nt tm tmps ops n vals L) : TRel ρ (SX.forget ops.toList tm) tmps := by
  intro t v hv
  obtain ⟨h1, h2⟩ := forget_get hv
  exact hD.old t v h1 fun i o _ ho => h2 i o (by rw [arr_get]; exact ho)
/-- a region of open order begins -/
theorem DR.start (hok : dok ops.toList = true) (hdst : dstOk nt ops.toList = true) (ht : TRel ρ tm tmps) : DR ρ lo hi nt tm tmps ops 0 .nil (Array.replicate ops.size false) := by
  have hL : ∀ i, (Array.replicate ops.size false).getD i false = false := by
    intro i
    simp only [Array.getD_eq_getD_getElem?, Array.getElem?_replicate]
    split <;> rfl
  refine ⟨hok, hdst, by simp, ?_, ?_, ?_, ?_, ?_, ?_⟩
  · intro i o x h1; rw [hL] at h1; cases h1
  · intro j i o _; rw [hL]; simp
  · intro i o h1; rw [hL] at h1; cases h1
  · intro t v hv _; exact ht t v hv
  · intro i o v r _ _ _ hg; simp [T.get] at hg
  · intro i j o o' v v' r _ _ _ _ _ _ hg; simp [T.get] at hg
theorem left_start (n : Nat) : left (Array.replicate n false) n ≤ n := by
  unfold left
  exact Nat.le_trans (List.length_filter_le _ _) (by simp)
end
end Go.SX
namespace Go.SX
open Go.RowKit
variable {e : E} {ρ ρ' : Rho} {h h' : H} {w0 w w' : World} {P : Program}
theorem efs_mono : ∀ {arr : List Oper} {k a b i j : Nat} {x y : Oper}, (efs arr k)[a]? = some (i, x) → (efs arr k)[b]? = some (j, y) → a < b → i < j := by
  intro arr
  induction arr with
  | nil => intro k a b i j x y h; simp [efs] at h
  | cons z zs ih =>
    intro k a b i j x y h1 h2 hab
    simp only [efs] at h1 h2
    cases hz : eagerOp z.op with
    | true => rw [hz, cond_true] at h1 h2; exact ih h1 h2 hab
    | false =>
      rw [hz, cond_false] at h1 h2
      cases b with
      | zero => omega
      | succ b =>
        simp only [List.getElem?_cons_succ] at h2
        cases a with
        | zero =>
          simp only [List.getElem?_cons_zero, Option.some.injEq, Prod.mk.injEq] at h1
          obtain ⟨rfl, rfl⟩ := h1
          have := (efs_get h2).1
          omega
        | succ a => simp only [List.getElem?_cons_succ] at h1; exact ih h1 h2 (by omega)
theorem efs_inj {arr : List Oper} {a b i : Nat} {x y : Oper} (h1 : (efs arr 0)[a]? = some (i, x)) (h2 : (efs arr 0)[b]? = some (i, y)) : a = b := by
  rcases Nat.lt_trichotomy a b with q | q | q
  · have := efs_mono h1 h2 q; omega
  · exact q
  · have := efs_mono h2 h1 q; omega
theorem go_head {ops : Array Oper} {fuel t i : Nat} {L : Array Bool} {rest : List Nat} (hq : i :: rest = Region.linearise.go .any ops fuel t L []) :
    ∃ fuel' t', fuel = fuel' + 1 ∧ i ∈ Region.ready .any ops L ∧ rest = Region.linearise.go .any ops fuel' t' (L.setIfInBounds i true) [] := by
  cases fuel with
  | zero => simp [Region.linearise.go] at hq
  | succ fuel =>
    rw [go_step] at hq
    cases hr : (Region.ready .any ops L)[t % (Region.ready .any ops L).length]? with
    | none => rw [hr] at hq; cases hq
    | some j =>
      rw [hr] at hq
      simp only [List.cons.injEq] at hq
      obtain ⟨rfl, hq⟩ := hq
      exact ⟨fuel, _, rfl, List.mem_of_getElem? hr, hq⟩
theorem range'_cons {i n : Nat} (h : i < n) : List.range' i (n - i) = i :: List.range' (i + 1) (n - (i + 1)) := by
  rw [show n - i = (n - (i + 1)) + 1 by omega, List.range'_succ]
theorem drop_cons {α : Type} {l : List α} {i : Nat} {x : α} {xs : List α} (h : x :: xs = l.drop i) : l[i]? = some x ∧ xs = l.drop (i + 1) ∧ i < l.length := by
  have h1 : (l.drop i)[0]? = some x := by rw [← h]; rfl
  have h2 : l[i]? = some x := by simpa using h1
  exact ⟨h2, by rw [← List.drop_drop, ← h]; rfl, (List.getElem?_eq_some_iff.1 h2).1⟩
theorem MRel.run_eq {m : FrameMode} (h : MRel ρ .run m) : m = .run := by cases h; rfl
/-- an operation, or a call, is done -/
theorem finish_rel {lo hi : Nat} {x x' : AFr} {fr : Frame} {v v' : Value} (hf : FRel ρ lo hi true x fr) (hx : finish x v = some x') (hv : VRel ρ v v') : FRel ρ lo hi false x' (fr.finish v') := by
  unfold finish at hx
  cases hm : x.mode with
  | run =>
    rw [hm] at hx
    have hb := hf.run hm
    have hmf : fr.mode = .run := by have := hf.mode; rw [hm] at this; exact this.run_eq
    obtain ⟨fn, nt, tm, todo, defers, mode, kind, round⟩ := x
    simp only at hm hx hb
    subst hm
    generalize htd : fr.todo = td at hb
    cases hb with
    | plain ht hk =>
      cases hk with
      | nil => cases hx
      | cons hi' hk' =>
        cases hi' with
        | @inRangeFunc l β hl =>
          rename_i k k'
          simp only [Option.some.injEq] at hx; subst hx
          have hfin : fr.finish v' = { fr with todo := .endRangeFunc β :: k' } := by
            obtain ⟨fn', tmps', todo', defers', mode', kind', round'⟩ := fr
            simp only at htd; subst htd
            rfl
          rw [hfin]
          exact { hf with run := fun _ => .plain ht (.cons (.endRangeFunc hl) hk'), off := fun q => absurd rfl q }
        | _ => cases hx
    | @ops ops i k k' ht hd hk =>
      cases hdr : ops.toList.drop i with
      | nil => rw [hdr] at hx; cases hx
      | cons o rest =>
        rw [hdr] at hx
        simp only [Option.some.injEq] at hx; subst hx
        obtain ⟨h1, h2, h3⟩ := drop_cons hdr.symm
        have h3' : i < ops.size := by simpa using h3
        have ho : ops[i]? = some o := by rw [← arr_get]; exact h1
        rw [range'_cons h3'] at htd
        rw [finish_region htd ho]
        have hsz : ∀ d, o.dst = some d → d < fr.tmps.size := fun d hd' => Nat.lt_of_lt_of_le (dstOk_get hd h1 hd') hf.nt
        refine { hf with nt := by simpa using hf.nt, run := fun _ => ?_, off := fun q => absurd rfl q }
        rw [h2]
        exact .ops (ht.put hv hsz) hd hk
    | @dops ops n fuel t vals L todo' k k' hD hfu htd' hc hk =>
      obtain ⟨i, o, rest, hef, hti⟩ := hc rfl
      simp only [lget_at, hef] at hx
      simp only [Option.some.injEq] at hx; subst hx
      rw [hti] at htd htd'
      obtain ⟨fuel', t', rfl, hr, hrest⟩ := go_head htd'
      have ho : ops[i]? = some o := by
        have := (efs_get hef).2.1
        rw [Nat.sub_zero, arr_get] at this; exact this
      obtain ⟨hlt, hLi, _⟩ := ready_mem hD.size hr
      have hless := left_less hD.size hlt (by rw [getD_size (by rw [hD.size]; exact hlt) true false]; exact hLi)
      rw [finish_region htd ho]
      refine { hf with nt := by simpa using hf.nt, run := fun _ => ?_, off := fun q => absurd rfl q }
      refine .dops (L := L.setIfInBounds i true) (hD.put (v := v) hf.nt hr ho (.refl ρ) (fun s _ hs => .inl hs) hv (by rw [T.get_set, if_pos rfl]) (fun j hj => by rw [T.get_set, if_neg hj]) ?_) (fuel := fuel') (by omega) hrest (fun q => by cases q) hk
      intro j y o' hj
      constructor
      · intro hjn
        rcases Nat.lt_succ_iff_lt_or_eq.1 hjn with q | q
        · exact .inl q
        · subst q; rw [hef] at hj; cases hj; exact .inr rfl
      · rintro (q | q)
        · omega
        · subst q; have := efs_inj hj hef; omega
  | returning => rw [hm] at hx; cases hx
  | panicking c => rw [hm] at hx; cases hx
/-- the temporaries that a frame keeps when a panic comes -/
theorem BRel.tm {lo hi nt : Nat} {tm : T Value} {tmps : Array Value} {c : Bool} {x : List AIt} {y : List Item} (hb : BRel ρ lo hi nt tm tmps c x y) :
    TRel ρ (match (generalizing := false) x with | .dops arr _ _ :: _ => forget arr tm | _ => tm) tmps := by
  cases hb with
  | plain ht hk =>
    cases hk with
    | nil => exact ht
    | cons hi' _ => cases hi' <;> exact ht
  | ops ht _ _ => exact ht
  | dops hD _ _ _ _ => exact hD.forget
theorem TRel.forget {arr : List Oper} {tm : T Value} {tmps : Array Value} (h : TRel ρ tm tmps) : TRel ρ (SX.forget arr tm) tmps :=
  fun i v hv => h i v (forget_get hv).1
theorem raise_rel {lo hi : Nat} {c c' : Bool} {x : AFr} {fr : Frame} {vs vs' : List PanicEntry} (hf : FRel ρ lo hi c x fr) (hv : CRels ρ vs vs') : FRel ρ lo hi c' (raiseF x vs) (fr.raise vs') := by
  have hmode := hf.mode
  unfold raiseF
  cases hm : x.mode with
  | panicking ch =>
    rw [hm] at hmode
    generalize hmf : fr.mode = mf at hmode
    cases hmode with
    | @panicking _ b hch =>
      have : fr.raise vs' = { fr with mode := .panicking (vs' ++ b) } := by unfold Frame.raise; rw [hmf]
      rw [this]
      exact { hf with mode := .panicking (hv.append hch), run := (fun q => by cases q), off := fun _ => (hf.off (by rw [hm]; intro q; cases q) : TRel ρ x.tm fr.tmps) }
  | run =>
    rw [hm] at hmode
    generalize hmf : fr.mode = mf at hmode
    cases hmode
    have : fr.raise vs' = { fr with mode := .panicking vs' } := by unfold Frame.raise; rw [hmf]
    rw [this]
    have ht := (hf.run hm).tm
    simp only
    split
    · rename_i arr n vals k htd
      rw [htd] at ht
      exact { hf with mode := .panicking hv, run := (fun q => by cases q), off := fun _ => ht }
    · rename_i hno
      refine { hf with mode := .panicking hv, run := (fun q => by cases q), off := fun _ => ?_ }
      split at ht
      · rename_i arr n vals k htd
        exact absurd htd (hno _ _ _ _)
      · exact ht
  | returning =>
    rw [hm] at hmode
    generalize hmf : fr.mode = mf at hmode
    cases hmode
    have : fr.raise vs' = { fr with mode := .panicking vs' } := by unfold Frame.raise; rw [hmf]
    rw [this]
    have ht := hf.off (by rw [hm]; intro q; cases q)
    simp only
    split
    · exact { hf with mode := .panicking hv, run := (fun q => by cases q), off := fun _ => ht.forget }
    · exact { hf with mode := .panicking hv, run := (fun q => by cases q), off := fun _ => ht }
end Go.SX
namespace Go.SX
open Go.RowKit
variable {e : E} {ρ ρ' : Rho} {h h' : H} {w0 w w' : World} {P : Program}
section
variable {fr0 fr : Frame} {cs : List Frame} {w00 : World} {s : Sem Next}
variable (hg : (stepG P true { frame := fr0, callers := cs, status := .running, dying := none } w00).bare = (stepG.apply P true fr cs none s w).bare)
include hg
theorem ap_val {v : Value} (hr : s.run P w = .ok (.value v) w') : Go.step P (lone fr0 cs w00) = .next (lone (fr.finish v) cs w') :=
  step_lone_go (by rw [hg]; simp [stepG.apply, hr])
theorem ap_skip (hr : s.run P w = .ok .skip w') : Go.step P (lone fr0 cs w00) = .next (lone (fr.finish undef) cs w') :=
  step_lone_go (by rw [hg]; simp [stepG.apply, hr])
theorem ap_panic {v : Value} (hr : s.run P w = .halt (.panic v) w') : Go.step P (lone fr0 cs w00) = .next (lone (fr.raise [{ v, recovered := false }]) cs w') :=
  step_lone_go (by rw [hg]; simp [stepG.apply, hr])
theorem ap_defer {d : Deferred} (hr : s.run P w = .ok (.defer d) w') : Go.step P (lone fr0 cs w00) = .next (lone (({ fr with defers := d :: fr.defers } : Frame).finish undef) cs w') :=
  step_lone_go (by rw [hg]; simp [stepG.apply, hr])
theorem ap_enter {f : FuncId} {args : Array Value} (hnc : ∀ d b r sv k, fr.todo ≠ .call d b r sv :: k) (hr : s.run P w = .ok (.enter f args) w') :
    Go.step P (lone fr0 cs w00) = .next (lone (Frame.enter P f args .normal) (fr :: cs) w') := by
  refine step_lone_go ?_
  rw [hg]
  simp [stepG.apply, hr]
  split
  · rename_i q; exact absurd q (hnc _ _ _ _ _)
  · rfl
theorem ap_round {l : Nat} {f : FuncId} {tmps : Array Value} {assign body : Code} (hr : s.run P w = .ok (.round l f tmps assign body) w') :
    Go.step P (lone fr0 cs w00) = .next (lone (Frame.round l f tmps assign body .normal) (fr :: cs) w') :=
  step_lone_go (by rw [hg]; simp [stepG.apply, hr])
theorem ap_recover (hrf : P.follows .rangeFuncRecover = true) (hr : s.run P w = .ok .recover w') :
    Go.step P (lone fr0 cs w00) = .next (match tryRecover fr cs with | some (v, cs') => lone (fr.finish v) cs' w' | none => lone (fr.finish .nilIface) cs w') := by
  cases ht : tryRecover fr cs with
  | none => exact step_lone_go (by rw [hg]; cases hq : fr.roundOf <;> simp [stepG.apply, hr, hq, hrf, ht])
  | some p => exact step_lone_go (by rw [hg]; cases hq : fr.roundOf <;> simp [stepG.apply, hr, hq, hrf, ht])
end
theorem BRel.notCall {lo hi nt : Nat} {tm : T Value} {tmps : Array Value} {c : Bool} {x : List AIt} {y : List Item} (hb : BRel ρ lo hi nt tm tmps c x y) : ∀ d b r sv k, y ≠ .call d b r sv :: k := by
  intro d b r sv k hy
  cases hb with
  | plain ht hk => subst hy; cases hk with | cons hi' _ => cases hi'
  | ops ht hd hk => cases hy
  | dops hD hf htd hc hk => cases hy
/-- a frame of a new call -/
theorem enter_rel (hE : EnvOk e P) {f : FuncId} {args : List Value} {args' : Array Value} {kind : CallKind} {g : AFr} {n : Nat} (hx : enterFr e f args kind = some g) (ha : VRels ρ args args'.toList) (hk : kind = .normal ∨ kind = .deferred) :
    FRel ρ n n false g (Frame.enter P f args' kind) ∧ g.kind = kind := by
  unfold enterFr at hx
  cases hf : e.fn.get f with
  | none => rw [hf] at hx; cases hx
  | some fn =>
    rw [hf] at hx
    simp only at hx
    cases hb : fn.body with
    | none => rw [hb] at hx; cases hx
    | some c =>
      rw [hb] at hx
      simp only [Option.some.injEq] at hx; subst hx
      have hpf := hE.fn _ _ hf
      refine ⟨⟨rfl, rfl, hk, ?_, .run, .nil, .none, fun _ => ?_, fun q => absurd rfl q⟩, rfl⟩
      · simp [Frame.enter, hpf]; omega
      · have htodo : (Frame.enter P f args' kind).todo = [.code c] := by simp [Frame.enter, hpf, hb]
        rw [htodo]
        refine .plain ?_ (.cons (.code c) .nil)
        intro i v hi
        rw [T.get_ofList] at hi
        split at hi
        · rename_i hlt
          rw [Nat.sub_zero] at hi
          obtain ⟨v', h1, h2⟩ := ha.get hi
          refine ⟨v', ?_, h2⟩
          have hsz : i < args'.size := by have := (List.getElem?_eq_some_iff.1 h1).1; simpa using this
          simp only [Frame.enter]
          rw [Array.getElem?_append_left hsz, ← Array.getElem?_toList]
          exact h1
        · simp [T.get] at hi
theorem bottom_top {x y : AFr} {xs : List AFr} (h : bottom x xs) (hk : y.kind = x.kind) : bottom y xs := by
  cases xs with
  | nil => simp only [bottom] at h ⊢; rw [hk]; exact h
  | cons _ _ => exact h
theorem finish_kind {x x' : AFr} {v : Value} (hx : finish x v = some x') : x'.kind = x.kind := by
  unfold finish at hx
  split at hx
  · split at hx
    · cases hx; rfl
    · split at hx
      · cases hx; rfl
      · cases hx
    · cases hx; rfl
    · cases hx
  · cases hx
theorem raise_kind (x : AFr) (vs : List PanicEntry) : (raiseF x vs).kind = x.kind := by
  unfold raiseF
  split
  · rfl
  · split <;> rfl
theorem withParams_rel {ps : List Tmp} : ∀ {args args' : List Value} {tm : T Value} {tmps : Array Value}, VRels ρ args args' → TRel ρ tm tmps → tmpsBelow tmps.size ps = true →
    TRel ρ (withParams ps args tm) ((ps.zip args').foldl (fun tmps (t, a) => tmps.setIfInBounds t a) tmps) ∧ ((ps.zip args').foldl (fun tmps (t, a) => tmps.setIfInBounds t a) tmps).size = tmps.size := by
  induction ps with
  | nil => intro args args' tm tmps _ ht _; exact ⟨by simpa [withParams] using ht, rfl⟩
  | cons p ps ih =>
    intro args args' tm tmps ha ht hb
    simp only [tmpsBelow, Bool.and_eq_true] at hb
    cases ha with
    | nil => exact ⟨by simpa [withParams] using ht, rfl⟩
    | cons hv hvs =>
      rename_i v v' vs vs'
      have h1 := ht.put (d := some p) hv (fun i hi => by cases hi; exact Nat.le_of_ble_eq_true hb.1)
      obtain ⟨h2, h3⟩ := ih (tmps := tmps.setIfInBounds p v') hvs h1 (by simpa using hb.2)
      exact ⟨h2, by simpa using h3⟩
theorem tmpsBelow_mono {n m : Nat} (h : n ≤ m) : ∀ {ps : List Tmp}, tmpsBelow n ps = true → tmpsBelow m ps = true := by
  intro ps
  induction ps with
  | nil => intro _; rfl
  | cons p ps ih =>
    intro hb
    simp only [tmpsBelow, Bool.and_eq_true] at hb ⊢
    exact ⟨Nat.ble_eq_true_of_le (Nat.le_trans (Nat.le_of_ble_eq_true hb.1) h), ih hb.2⟩
theorem tryRec_rel {lo hi : Nat} {c : Bool} {x : AFr} {xs : List AFr} {fr : Frame} {cs1 base : List Frame} (hf : FRel ρ lo hi c x fr) (hcs : SRel ρ lo xs cs1) (hbot : bottom x xs) :
    (tryRec x xs = none ∧ tryRecover fr (cs1 ++ base) = none) ∨
    ∃ v v' xs' cs', tryRec x xs = some (v, xs') ∧ tryRecover fr (cs1 ++ base) = some (v', cs' ++ base) ∧ VRel ρ v v' ∧ SRel ρ lo xs' cs' ∧ bottom x xs' := by
  rcases hf.kinds with hk | hk
  · left
    refine ⟨by simp [tryRec, hk], ?_⟩
    unfold tryRecover
    rw [hf.kind, hk]
  · have hkf : fr.kind = .deferred := by rw [hf.kind, hk]
    cases hcs with
    | nil => simp only [bottom] at hbot; rw [hk] at hbot; cases hbot
    | @cons lo2 _ c2 fr2 ys frs hl hf2 hs2 =>
      have hmode := hf2.mode
      unfold tryRec tryRecover
      simp only [hk, hkf, List.cons_append]
      cases hm : c2.mode with
      | run => rw [hm] at hmode; generalize hmf : fr2.mode = mf at hmode; cases hmode; exact .inl ⟨rfl, rfl⟩
      | returning => rw [hm] at hmode; generalize hmf : fr2.mode = mf at hmode; cases hmode; exact .inl ⟨rfl, rfl⟩
      | panicking ch =>
        rw [hm] at hmode
        generalize hmf : fr2.mode = mf at hmode
        cases hmode with
        | @panicking _ ch' hch =>
        cases hch with
        | nil => exact .inl ⟨rfl, rfl⟩
        | @cons a b older older' hab hol =>
          obtain ⟨av, ar, ag⟩ := a
          obtain ⟨bv, br, bg⟩ := b
          obtain ⟨hv, hrc, hge⟩ := hab
          simp only at hv hrc hge
          subst hrc hge
          cases ar with
          | true => exact .inl ⟨rfl, rfl⟩
          | false =>
            cases ag with
            | true => exact .inl ⟨rfl, rfl⟩
            | false =>
              refine .inr ⟨av, bv, { c2 with mode := .panicking ({ v := av, recovered := true } :: older) } :: ys, { fr2 with mode := .panicking ({ v := bv, recovered := true } :: older') } :: frs, rfl, rfl, hv, ?_, ?_⟩
              · refine .cons hl ?_ hs2
                exact { hf2 with mode := .panicking (.cons ⟨hv, rfl, rfl⟩ hol), run := (fun q => by cases q), off := fun _ => (hf2.off (by rw [hm]; intro q; cases q) : TRel ρ c2.tm fr2.tmps) }
              · cases ys with
                | nil => exact hbot
                | cons _ _ => exact hbot
/-- what an operation brings about -/
theorem act_sound (hE : EnvOk e P) {lo : Nat} {x : AFr} {xs : List AFr} {fr0 fr : Frame} {cs1 base : List Frame} {w00 : World} {s : Sem Next} {r : R} {m' : AM}
    (hg : (stepG P true { frame := fr0, callers := cs1 ++ base, status := .running, dying := none } w00).bare = (stepG.apply P true fr (cs1 ++ base) none s w).bare)
    (hs : RSound P ρ h.n w0 w (s.run P w) r) (hi : Inv ρ h w0 w) (hlo : lo ≤ h.n) (hf : FRel ρ lo h.n true x fr) (hrun : x.mode = .run) (hcs : SRel ρ lo xs cs1) (hbot : bottom x xs) (hx : act e x xs h r = some m') :
    ∃ ρ' fr2 cs2 w', Go.step P (lone fr0 (cs1 ++ base) w00) = .next (lone fr2 cs2 w') ∧ MR ρ' w0 m' fr2 cs2 base w' := by
  cases r with
  | val v h2 =>
    obtain ⟨ρ2, w2, v', hext, hr, hv, hi2⟩ := hs
    simp only [act] at hx
    cases hfin : finish x v with
    | none => rw [hfin] at hx; cases hx
    | some x' =>
      rw [hfin] at hx; cases hx
      exact ⟨ρ2, _, _, w2, ap_val hg hr, hi2, ⟨lo, cs1, rfl, Nat.le_trans hlo hext.up, finish_rel (hf.mono hext (Nat.le_refl _) hext.up) hfin hv, hcs.mono hext hlo⟩, bottom_top hbot (finish_kind hfin)⟩
  | skip h2 =>
    obtain ⟨ρ2, w2, hext, hr, hi2⟩ := hs
    simp only [act] at hx
    cases hfin : finish x undefV with
    | none => rw [hfin] at hx; cases hx
    | some x' =>
      rw [hfin] at hx; cases hx
      exact ⟨ρ2, _, _, w2, ap_skip hg hr, hi2, ⟨lo, cs1, rfl, Nat.le_trans hlo hext.up, finish_rel (hf.mono hext (Nat.le_refl _) hext.up) hfin (.tuple .nil), hcs.mono hext hlo⟩, bottom_top hbot (finish_kind hfin)⟩
  | panic v h2 =>
    obtain ⟨ρ2, w2, v', hext, hr, hv, hi2⟩ := hs
    simp only [act] at hx
    cases hx
    exact ⟨ρ2, _, _, w2, ap_panic hg hr, hi2, ⟨lo, cs1, rfl, Nat.le_trans hlo hext.up, raise_rel (hf.mono hext (Nat.le_refl _) hext.up) (.cons ⟨hv, rfl, rfl⟩ .nil), hcs.mono hext hlo⟩, bottom_top hbot (raise_kind _ _)⟩
  | enter f args =>
    obtain ⟨args', hr, ha⟩ := hs
    simp only [act] at hx
    cases hen : enterFr e f args .normal with
    | none => rw [hen] at hx; cases hx
    | some g =>
      rw [hen] at hx; cases hx
      obtain ⟨h1, h2⟩ := enter_rel (n := h.n) hE hen ha (.inl rfl)
      exact ⟨ρ, _, _, w, ap_enter hg (hf.run hrun).notCall hr, hi, ⟨h.n, fr :: cs1, rfl, Nat.le_refl _, h1, .cons hlo hf hcs⟩, hbot⟩
  | round l args =>
    obtain ⟨β, args', hι, hr, ha⟩ := hs
    simp only [act] at hx
    cases ho : h.obj l with
    | none => rw [ho] at hx; cases hx
    | some ob =>
      rw [ho] at hx
      cases ob <;> try (cases hx; done)
      rename_i st p fn nt tm ps assign body ds
      simp only at hx
      have hx2 := bif_some hx
      cases hchk : (Nat.beq (llen args) (llen ps) && tmpsBelow nt ps) with
      | false => rw [hchk] at hx; cases hx
      | true =>
        rw [hchk] at hx; cases hx
        rw [Bool.and_eq_true] at hchk
        have hlen : args.length = ps.length := by have := Nat.eq_of_beq_eq_true hchk.1; simpa using this
        obtain ⟨k, hk, hko⟩ := obj_some ho
        have hob := hi.obj _ _ _ _ hι hk
        rw [hko] at hob
        obtain ⟨_, tmps, δ, hb, hnt, ht, hδ⟩ := hob
        have hgo := r_getObj (P := P) hb (by intro _ _ _ hh; cases hh)
        obtain ⟨al⟩ := args'
        obtain ⟨h1, h2⟩ := withParams_rel (ps := ps) ha ht (tmpsBelow_mono hnt hchk.2)
        have hal : al.length = ps.length := by rw [← hlen]; exact ha.length.symm
        have hy : s.run P w = .ok (.round β fn ((ps.zip al).foldl (fun tmps (t, a) => tmps.setIfInBounds t a) tmps) assign body) w := by
          rw [hr]
          simp [Instr.yield, Instr.getLoop, hgo, Result.andThen_ok, hal]
        refine ⟨ρ, _, _, w, ap_round hg hy, hi, ⟨h.n, fr :: cs1, rfl, Nat.le_refl _, ?_, .cons hlo hf hcs⟩, hbot⟩
        exact ⟨rfl, rfl, .inl rfl, by rw [Frame.round, h2]; exact hnt, .run, .nil, .some hι, fun _ => .plain h1 (.cons (.code _) (.cons .beginRound (.cons (.code _) .nil))), fun q => absurd rfl q⟩
  | defer d =>
    obtain ⟨d', hr, hd⟩ := hs
    simp only [act] at hx
    split at hx
    · split at hx
      · rename_i x' hfin
        cases hx
        have hf' : FRel ρ lo h.n true { x with defers := d :: x.defers } { fr with defers := d' :: fr.defers } := { hf with defers := .cons hd hf.defers }
        have hk := finish_kind hfin
        exact ⟨ρ, _, _, w, ap_defer hg hr, hi, ⟨lo, cs1, rfl, hlo, finish_rel hf' hfin (.tuple .nil), hcs⟩, bottom_top hbot hk⟩
      · cases hx
    · cases hx
  | recover =>
    have hr : s.run P w = .ok .recover w := hs
    have hst := ap_recover hg hE.rfr hr
    simp only [act] at hx
    rcases tryRec_rel (base := base) hf hcs hbot with ⟨h1, h2⟩ | ⟨v, v', xs', cs', h1, h2, hv, hcs', hb'⟩
    · rw [h1] at hx
      rw [h2] at hst
      simp only at hx
      cases hfin : finish x .nilIface with
      | none => rw [hfin] at hx; cases hx
      | some x' =>
        rw [hfin] at hx; cases hx
        exact ⟨ρ, _, _, w, hst, hi, ⟨lo, cs1, rfl, hlo, finish_rel hf hfin .iface0, hcs⟩, bottom_top hbot (finish_kind hfin)⟩
    · rw [h1] at hx
      rw [h2] at hst
      simp only at hx
      cases hfin : finish x v with
      | none => rw [hfin] at hx; cases hx
      | some x' =>
        rw [hfin] at hx; cases hx
        exact ⟨ρ, _, _, w, hst, hi, ⟨lo, cs', rfl, hlo, finish_rel hf hfin hv, hcs'⟩, bottom_top hb' (finish_kind hfin)⟩
  | fork vs => cases hx
end Go.SX
namespace Go.SX
open Go.RowKit
variable {e : E} {ρ ρ' : Rho} {h h' : H} {w0 w w' : World} {P : Program}
/-- what a step of the abstract machine stands for -/
def Goes (P : Program) (w0 : World) (m' : AM) (base : List Frame) (m : Machine) : Prop :=
  ∃ ρ' fr2 cs2 w', Steps P m (lone fr2 cs2 w') ∧ MR ρ' w0 m' fr2 cs2 base w'
section
variable {lo : Nat} {x : AFr} {xs : List AFr} {fr : Frame} {cs1 base : List Frame}
/-- a frame goes on to other items -/
theorem to_rel (hi : Inv ρ h w0 w) (hlo : lo ≤ h.n) (hf : FRel ρ lo h.n false x fr) (hm : x.mode = .run) (hcs : SRel ρ lo xs cs1) (hbot : bottom x xs) {td : List AIt} {td' : List Item}
    (ht : TRel ρ x.tm fr.tmps) (hk : IRels ρ td td') (hst : Go.step P (lone fr (cs1 ++ base) w) = .next (lone { fr with todo := td' } (cs1 ++ base) w)) :
    Goes P w0 ⟨{ x with todo := td }, xs, h⟩ base (lone fr (cs1 ++ base) w) :=
  ⟨ρ, _, _, w, .one hst, hi, ⟨lo, cs1, rfl, hlo, { hf with run := fun _ => .plain ht hk, off := fun q => absurd hm q }, hcs⟩, bottom_top hbot rfl⟩
theorem exitTo_rel {id : Nat} : ∀ {k : List AIt} {k' : List Item}, IRels ρ k k' → (∃ r r', exitToA id k = some r ∧ exitTo id k' = some r' ∧ IRels ρ r r') ∨ (exitToA id k = none ∧ exitTo id k' = none) := by
  intro k
  induction k with
  | nil => intro k' hk; cases hk; exact .inr ⟨rfl, rfl⟩
  | cons a k ih =>
    intro k' hk
    cases hk with
    | cons ha hk =>
      rename_i b k'
      cases ha with
      | inBlock id' =>
        by_cases hq : id' = id
        · subst hq; left; exact ⟨k, k', by simp [exitToA], by simp [exitTo], hk⟩
        · have h1 : exitToA id (.inBlock id' :: k) = exitToA id k := by simp [exitToA, beqF hq]
          have h2 : exitTo id (.inBlock id' :: k') = exitTo id k' := by simp [exitTo, hq]
          rw [h1, h2]; exact ih hk
      | _ => have := ih (k' := k') hk; simpa only [exitToA, exitTo] using this
theorem gotoIn_rel {l : Nat} : ∀ {k : List AIt} {k' : List Item}, IRels ρ k k' → (∃ r r', gotoInA l k = some r ∧ gotoIn l k' = some r' ∧ IRels ρ r r') ∨ (gotoInA l k = none ∧ gotoIn l k' = none) := by
  intro k
  induction k with
  | nil => intro k' hk; cases hk; exact .inr ⟨rfl, rfl⟩
  | cons a k ih =>
    intro k' hk
    cases hk with
    | cons ha hk =>
      rename_i b k'
      cases ha with
      | inScope body =>
        cases hq : findLabel body l with
        | some rest => left; exact ⟨.code rest :: .inScope body :: k, .code rest :: .inScope body :: k', by simp [gotoInA, hq], by simp [gotoIn, hq], .cons (.code _) (.cons (.inScope _) hk)⟩
        | none =>
          have h1 : gotoInA l (.inScope body :: k) = gotoInA l k := by simp [gotoInA, hq]
          have h2 : gotoIn l (.inScope body :: k') = gotoIn l k' := by simp [gotoIn, hq]
          rw [h1, h2]; exact ih hk
      | _ => have := ih (k' := k') hk; simpa only [gotoInA, gotoIn] using this
theorem BRel.weaken {lo hi nt : Nat} {tm : T Value} {tmps : Array Value} {c : Bool} {x : List AIt} {y : List Item} (hb : BRel ρ lo hi nt tm tmps c x y) : BRel ρ lo hi nt tm tmps false x y := by
  cases hb with
  | plain ht hk => exact .plain ht hk
  | ops ht hd hk => exact .ops ht hd hk
  | dops hD hf htd hc hk => exact .dops hD hf htd (fun q => by cases q) hk
theorem FRel.weaken {lo hi : Nat} {c : Bool} {x : AFr} {fr : Frame} (hf : FRel ρ lo hi c x fr) : FRel ρ lo hi false x fr := { hf with run := fun q => (hf.run q).weaken }
theorem CRels.drop {a b : List PanicEntry} (h : CRels ρ a b) : CRels ρ (a.dropWhile (!·.goexit)) (b.dropWhile (!·.goexit)) := by
  induction h with
  | nil => exact .nil
  | cons hh t ih =>
    simp only [List.dropWhile_cons, hh.ge]
    split
    · exact ih
    · exact .cons hh t
/-- the frame that a deferred call goes back to -/
def backTo (c : Frame) : Frame :=
  match c.mode with
  | .panicking ({ recovered := true, .. } :: older) =>
    match older.dropWhile (!·.goexit) with
    | [] => { c with mode := .returning }
    | rest => { c with mode := .panicking rest }
  | _ => c
/-- a call's end -/
theorem doRet_sound (hi : Inv ρ h w0 w) (hlo : lo ≤ h.n) (hk : fr.kind = x.kind) (hks : x.kind = .normal ∨ x.kind = .deferred) (hcs : SRel ρ lo xs cs1) (hbot : bottom x xs) {v v' : Value} (hv : VRel ρ v v') {m' : AM}
    (hx : doRet x xs h v = .go m') : ∃ fr2 cs2, doReturn P true fr (cs1 ++ base) none v' w = .go { frame := fr2, callers := cs2, status := .running, dying := none } w ∧ MR ρ w0 m' fr2 cs2 base w := by
  cases hcs with
  | nil => simp [doRet] at hx
  | @cons lo2 _ c fr1 ys frs hl hf1 hs1 =>
    unfold doRet at hx
    simp only at hx
    rcases hks with hkn | hkd
    · rw [hkn] at hx
      simp only at hx
      cases hfin : finish c v with
      | none => rw [hfin] at hx; cases hx
      | some c' =>
        rw [hfin] at hx; cases hx
        refine ⟨fr1.finish v', frs ++ base, by simp [doReturn, hk, hkn], hi, ⟨lo2, frs, rfl, Nat.le_trans hl hlo, ?_, hs1⟩, ?_⟩
        · exact finish_rel (hf1.mono (.refl (n := lo) ρ) (Nat.le_refl _) hlo) hfin hv
        · exact bottom_top hbot (finish_kind hfin)
    · rw [hkd] at hx
      simp only at hx
      cases hx
      have hmode := hf1.mode
      have hup := hf1.mono (.refl (n := lo) ρ) (Nat.le_refl _) hlo
      have hsame : doReturn P true fr (fr1 :: frs ++ base) none v' w = .go { frame := backTo fr1, callers := frs ++ base, status := .running, dying := none } w := by
        unfold doReturn
        simp only [hk, hkd, List.cons_append]
        rfl
      refine ⟨_, frs ++ base, hsame, hi, ⟨lo2, frs, rfl, Nat.le_trans hl hlo, ?_, hs1⟩, ?_⟩
      · cases hm : c.mode with
        | run =>
          rw [hm] at hmode
          unfold backTo
          generalize hmf : fr1.mode = mf at hmode ⊢
          cases hmode
          exact hup.weaken
        | returning =>
          rw [hm] at hmode
          unfold backTo
          generalize hmf : fr1.mode = mf at hmode ⊢
          cases hmode
          exact hup.weaken
        | panicking ch =>
          rw [hm] at hmode
          have hoff : TRel ρ c.tm fr1.tmps := hf1.off (by rw [hm]; intro q; cases q)
          unfold backTo
          generalize hmf : fr1.mode = mf at hmode ⊢
          cases hmode with
          | @panicking _ ch' hch =>
          cases hch with
          | nil => exact hup.weaken
          | @cons a b older older' hab hol =>
            obtain ⟨av, ar, ag⟩ := a
            obtain ⟨bv, br, bg⟩ := b
            obtain ⟨_, hrc, _⟩ := hab
            simp only at hrc
            subst hrc
            cases ar with
            | false => exact hup.weaken
            | true =>
              have hd := hol.drop
              simp only
              generalize older.dropWhile (!·.goexit) = da at hd ⊢
              generalize older'.dropWhile (!·.goexit) = db at hd ⊢
              cases hd with
              | nil => exact { hup with mode := .returning, run := (fun q => by cases q), off := fun _ => hoff }
              | cons hh tt => exact { hup with mode := .panicking (.cons hh tt), run := (fun q => by cases q), off := fun _ => hoff }
      · refine bottom_top (x := c) hbot ?_
        split
        · split <;> rfl
        · rfl
end
end Go.SX
namespace Go.SX
open Go.RowKit
variable {e : E} {ρ ρ' : Rho} {h h' : H} {w0 w w' : World} {P : Program}
/-- the frame stands where its body is left -/
inductive LeaveAt (fr : Frame) : Option Code → Prop where
  | fin (h : fr.todo = []) : LeaveAt fr none
  | ret {k : List Item} (h : fr.todo = .code .ret :: k) : LeaveAt fr (some .ret)
  | exit {id : Nat} {k : List Item} (h : fr.todo = .code (.exit id) :: k) (hn : exitTo id k = none) : LeaveAt fr (some (.exit id))
  | goto {l : Nat} {k : List Item} (h : fr.todo = .code (.goto l) :: k) (hn : gotoIn l k = none) : LeaveAt fr (some (.goto l))
theorem st_leave_none {fr : Frame} {cs : List Frame} {jump : Option Code} (hm : fr.mode = .run) (hr : fr.roundOf = none) (hj : LeaveAt fr jump) (hjr : jump = none ∨ jump = some .ret) :
    Go.step P (lone fr cs w) = .next (lone { fr with mode := .returning } cs w) := by
  obtain ⟨fn, tmps, todo, defers, mode, kind, round⟩ := fr
  simp only at hm hr
  subst hm hr
  refine step_lone_go ?_
  cases hj with
  | fin h => simp only at h; subst h; simp [stepG, stepG.exec]
  | ret h => simp only at h; subst h; simp [stepG, stepG.exec]
  | exit h hn => rcases hjr with q | q <;> cases q
  | goto h hn => rcases hjr with q | q <;> cases q
theorem st_leave_round {fr : Frame} {cs : List Frame} {jump : Option Code} {l : Nat} {v : Value} (hm : fr.mode = .run) (hr : fr.roundOf = some l) (hj : LeaveAt fr jump) (hrun : (Instr.endRound l jump).run P w = .ok v w') :
    (stepG P true { frame := fr, callers := cs, status := .running, dying := none } w).bare = (doReturn P true fr cs none v w').bare := by
  obtain ⟨fn, tmps, todo, defers, mode, kind, round⟩ := fr
  simp only at hm hr
  subst hm hr
  cases hj with
  | fin h => simp only at h; subst h; simp [stepG, stepG.exec, hrun]
  | ret h => simp only at h; subst h; simp [stepG, stepG.exec, hrun]
  | exit h hn => simp only at h; subst h; simp [stepG, stepG.exec, hrun, hn]
  | goto h hn => simp only at h; subst h; simp [stepG, stepG.exec, hrun, hn]
section
variable {lo : Nat} {x : AFr} {xs : List AFr} {fr : Frame} {cs1 base : List Frame}
/-- a frame that leaves its body -/
theorem leave_sound (hi : Inv ρ h w0 w) (hlo : lo ≤ h.n) (hf : FRel ρ lo h.n false x fr) (hm : x.mode = .run) (hcs : SRel ρ lo xs cs1) (hbot : bottom x xs) (ht : TRel ρ x.tm fr.tmps)
    {jump : Option Code} {m' : AM} (hx : leave e x xs h jump = .go m') (hj : LeaveAt fr jump) : Goes P w0 m' base (lone fr (cs1 ++ base) w) := by
  have hmf : fr.mode = .run := by have := hf.mode; rw [hm] at this; exact this.run_eq
  have hround := hf.round
  unfold leave at hx
  cases hr : x.round with
  | none =>
    rw [hr] at hx hround
    generalize hrf : fr.roundOf = rf at hround
    cases hround
    have key : (jump = none ∨ jump = some .ret) ∧ m' = ⟨{ x with mode := .returning, round := none }, xs, h⟩ := by
      cases jump with
      | none => cases hx; exact ⟨.inl rfl, rfl⟩
      | some c => cases c <;> first | (cases hx; exact ⟨.inr rfl, rfl⟩) | (cases hx; done)
    obtain ⟨hjr, rfl⟩ := key
    refine ⟨ρ, _, _, w, .one (st_leave_none hmf hrf hj hjr), hi, ⟨lo, cs1, rfl, hlo, ?_, hcs⟩, bottom_top hbot rfl⟩
    exact { hf with mode := .returning, round := (by show OptRel _ none fr.roundOf; rw [hrf]; exact .none), run := (fun q => by cases q), off := fun _ => ht }
  | some l =>
    rw [hr] at hx hround
    simp only at hx
    generalize hrf : fr.roundOf = rf at hround
    cases hround with
    | some hι =>
    rename_i β
    cases ho : h.obj l with
    | none => rw [ho] at hx; cases hx
    | some ob =>
      rw [ho] at hx
      cases ob <;> try (cases hx; done)
      rename_i st p fn nt tm ps assign body ds
      simp only at hx
      cases hxs : xs.isEmpty with
      | true => rw [hxs] at hx; cases hx
      | false =>
        rw [hxs, cond_false] at hx
        obtain ⟨k, hk, hko⟩ := obj_some ho
        have hob := hi.obj _ _ _ _ hι hk
        rw [hko] at hob
        obtain ⟨_, tmps, δ, hb, hnt, htm, hδ⟩ := hob
        have hgo := r_getObj (P := P) hb (by intro _ _ _ hh; cases hh)
        have hso := fun o' => r_setObj (P := P) (o' := o') hb (by intro _ _ _ hh; cases hh)
        obtain ⟨hturn, hb'⟩ := Turned.setObj w (o' := .loop { state := if jump.isNone then .ready else .done, pending := jump, fn, tmps, params := ⟨ps⟩, assign, body, defers := δ }) hb
        have hi2 := hi.put (o := .loop (match (generalizing := false) jump with | none => .ready | some _ => .done) jump fn nt tm ps assign body ds) hk hι (by rw [hko]; simp [kindOf]) (by simp [kindOf]) hturn
          ⟨rfl, tmps, δ, by rw [hb']; cases jump <;> rfl, hnt, htm, hδ⟩
        have hrun : (Instr.endRound β jump).run P w = .ok (.bool jump.isNone) { w with heap := w.heap.setIfInBounds β (.loop { state := if jump.isNone then .ready else .done, pending := jump, fn, tmps, params := ⟨ps⟩, assign, body, defers := δ }) } := by
          simp only [Instr.endRound, Instr.getLoop, Sem.run_bind, hgo, Result.andThen_ok, Sem.run_pure, hso]
        obtain ⟨fr2, cs2, h1, h2⟩ := doRet_sound (P := P) hi2 (Nat.le_trans hlo (Nat.le_of_eq (H.put_n ..).symm)) hf.kind hf.kinds hcs hbot (base := base) (.bool _) hx
        refine ⟨ρ, fr2, cs2, _, .one (step_lone_go ?_), h2⟩
        rw [st_leave_round hmf hrf hj hrun, h1]
        rfl
end
end Go.SX
namespace Go.SX
open Go.RowKit
variable {e : E} {ρ ρ' : Rho} {h h' : H} {w0 w w' : World} {P : Program}
section
variable {lo : Nat} {x : AFr} {xs : List AFr} {fr : Frame} {cs1 base : List Frame}
/-- the items that only lead on -/
theorem exec_item (hi : Inv ρ h w0 w) (hlo : lo ≤ h.n) (hf : FRel ρ lo h.n false x fr) (hm : x.mode = .run) (hcs : SRel ρ lo xs cs1) (hbot : bottom x xs) (ht : TRel ρ x.tm fr.tmps)
    {a : AIt} {k : List AIt} {b : Item} {k' : List Item} (hxt : x.todo = a :: k) (hft : fr.todo = b :: k') (hab : IRel ρ a b) (hk : IRels ρ k k')
    (hno : (∀ f ps as bd, a ≠ .code (.rangeFunc f ps as bd)) ∧ (∀ i o d, a ≠ .code (.region i o d)) ∧ (∀ l, a ≠ .endRangeFunc l) ∧ a ≠ .beginRound)
    {m' : AM} (hx : exec e x xs h = .go m') : Goes P w0 m' base (lone fr (cs1 ++ base) w) := by
  have hmf : fr.mode = .run := by have := hf.mode; rw [hm] at this; exact this.run_eq
  have go1 : ∀ {td : List AIt} {td' : List Item}, IRels ρ td td' → exec e x xs h = .go ⟨{ x with todo := td }, xs, h⟩ →
      (stepG P true { frame := fr, callers := cs1 ++ base, status := .running, dying := none } w).bare = .go { frame := { fr with todo := td' }, callers := cs1 ++ base, status := .running, dying := none } w →
      Goes P w0 m' base (lone fr (cs1 ++ base) w) := by
    intro td td' h1 h2 h3
    rw [h2] at hx; cases hx
    exact to_rel hi hlo hf hm hcs hbot ht h1 (step_lone_go h3)
  have hev : ∀ {c : Operand} {v : Value}, ev x.tm c = some v → VRel ρ v (fr.eval c) := fun hc => by
    rw [eval_act]; exact ev_rel (a := ⟨fr.tmps, fr.defers⟩) ht hc
  have hlv : ∀ {jump : Option Code}, exec e x xs h = leave e x xs h jump → LeaveAt fr jump → Goes P w0 m' base (lone fr (cs1 ++ base) w) := by
    intro jump h1 h2
    rw [h1] at hx
    exact leave_sound hi hlo hf hm hcs hbot ht hx h2
  obtain ⟨fn, nt, tm, todo, defers, mode, kind, round⟩ := x
  obtain ⟨fn', tmps', todo', defers', mode', kind', round'⟩ := fr
  simp only at hxt hft hm hmf
  subst hxt hft hm hmf
  cases hab with
  | inBlock id => exact go1 hk rfl (by simp [stepG, stepG.exec])
  | inLoop c => exact go1 (.cons (.code c) (.cons (.inLoop c) hk)) rfl (by simp [stepG, stepG.exec])
  | inScope c => exact go1 hk rfl (by simp [stepG, stepG.exec])
  | inRangeFunc hl => cases hx
  | endRangeFunc hl => exact absurd rfl (hno.2.2.1 _)
  | beginRound => exact absurd rfl hno.2.2.2
  | code c =>
    cases c with
    | skip => exact go1 hk rfl (by simp [stepG, stepG.exec])
    | label l => exact go1 hk rfl (by simp [stepG, stepG.exec])
    | seq p q => exact go1 (.cons (.code p) (.cons (.code q) hk)) rfl (by simp [stepG, stepG.exec])
    | block id c => exact go1 (.cons (.code c) (.cons (.inBlock id) hk)) rfl (by simp [stepG, stepG.exec])
    | loop c => exact go1 (.cons (.code c) (.cons (.inLoop c) hk)) rfl (by simp [stepG, stepG.exec])
    | scope c => exact go1 (.cons (.code c) (.cons (.inScope c) hk)) rfl (by simp [stepG, stepG.exec])
    | ret => exact hlv rfl (.ret rfl)
    | cond c p q =>
      have hx' := hx
      simp only [exec] at hx'
      cases hc : ev tm c with
      | none => rw [hc] at hx'; cases hx'
      | some v =>
        rw [hc] at hx'
        cases v <;> try (cases hx'; done)
        rename_i t
        have hr := hev hc
        generalize hcc : Frame.eval _ c = cv at hr
        cases hr
        refine go1 (td := .code (bif t then p else q) :: k) (td' := .code (if t then p else q) :: k') (.cons (by cases t <;> exact .code _) hk) (by simp only [exec, hc]) ?_
        simp only [stepG, stepG.exec, hcc]
        rfl
    | exit id =>
      rcases exitTo_rel (id := id) hk with ⟨r, r', h1, h2, h3⟩ | ⟨h1, h2⟩
      · exact go1 h3 (by simp only [exec, h1]) (by simp [stepG, stepG.exec, h2])
      · exact hlv (jump := some (.exit id)) (by simp only [exec, h1]) (.exit rfl h2)
    | goto l =>
      rcases gotoIn_rel (l := l) hk with ⟨r, r', h1, h2, h3⟩ | ⟨h1, h2⟩
      · exact go1 h3 (by simp only [exec, h1]) (by simp [stepG, stepG.exec, h2])
      · exact hlv (jump := some (.goto l)) (by simp only [exec, h1]) (.goto rfl h2)
    | rangeFunc f ps as bd => exact absurd rfl (hno.1 _ _ _ _)
    | region i o d => exact absurd rfl (hno.2.1 _ _ _)
    | refuse why => cases hx
end
end Go.SX
namespace Go.SX
open Go.RowKit
variable {e : E} {ρ ρ' : Rho} {h h' : H} {w0 w w' : World} {P : Program}
section
variable {lo : Nat} {x : AFr} {xs : List AFr} {fr : Frame} {cs1 base : List Frame}
theorem loop_at (hi : Inv ρ h w0 w) {l β : Nat} (hι : ρ.ι l = some (β, 0)) {st : LoopState} {p : Option Code} {fn : FuncId} {nt : Nat} {tm : T Value} {ps : List Tmp} {assign body : Code} {ds : Nat}
    (ho : h.obj l = some (.loop st p fn nt tm ps assign body ds)) :
    ∃ tmps δ, w.heap[β]? = some (.loop { state := st, pending := p, fn, tmps, params := ⟨ps⟩, assign, body, defers := δ }) ∧ ρ.ι ds = some (δ, 0) ∧
      ∀ (st' : LoopState) (p' : Option Code), Inv ρ (h.put l (.loop st' p' fn nt tm ps assign body ds)) w0
        { w with heap := w.heap.setIfInBounds β (.loop { state := st', pending := p', fn, tmps, params := ⟨ps⟩, assign, body, defers := δ }) } := by
  obtain ⟨k, hk, hko⟩ := obj_some ho
  have hob := hi.obj _ _ _ _ hι hk
  rw [hko] at hob
  obtain ⟨_, tmps, δ, hb, hnt, htm, hδ⟩ := hob
  refine ⟨tmps, δ, hb, hδ, fun st' p' => ?_⟩
  obtain ⟨hturn, hb'⟩ := Turned.setObj w (o' := .loop { state := st', pending := p', fn, tmps, params := ⟨ps⟩, assign, body, defers := δ }) hb
  exact hi.put hk hι (by rw [hko]; simp [kindOf]) (by simp [kindOf]) hturn ⟨rfl, tmps, δ, hb', hnt, htm, hδ⟩
theorem exec_endRange (hi : Inv ρ h w0 w) (hlo : lo ≤ h.n) (hf : FRel ρ lo h.n false x fr) (hm : x.mode = .run) (hcs : SRel ρ lo xs cs1) (hbot : bottom x xs) (ht : TRel ρ x.tm fr.tmps)
    {l β : Nat} {k : List AIt} {k' : List Item} (hxt : x.todo = .endRangeFunc l :: k) (hft : fr.todo = .endRangeFunc β :: k') (hι : ρ.ι l = some (β, 0)) (hk : IRels ρ k k')
    {m' : AM} (hx : exec e x xs h = .go m') : Goes P w0 m' base (lone fr (cs1 ++ base) w) := by
  have hmf : fr.mode = .run := by have := hf.mode; rw [hm] at this; exact this.run_eq
  have hx' := hx
  simp only [exec, hxt] at hx'
  cases ho : h.obj l with
  | none => rw [ho] at hx'; cases hx'
  | some ob =>
    rw [ho] at hx'
    cases ob <;> try (cases hx'; done)
    rename_i st p fn nt tm ps assign body ds
    simp only at hx'
    obtain ⟨tmps, δ, hb, hδ, hput⟩ := loop_at hi hι ho
    have hgo := r_getObj (P := P) hb (by intro _ _ _ hh; cases hh)
    have hso := fun o' => r_setObj (P := P) (o' := o') hb (by intro _ _ _ hh; cases hh)
    have hne : st ≠ .busy := by intro q; subst q; cases hx'
    have hm' : m' = ⟨{ x with todo := (match (generalizing := false) p with | some j => .code j :: k | none => k) }, xs, h.put l (.loop .exhausted p fn nt tm ps assign body ds)⟩ := by
      cases st <;> first | exact absurd rfl hne | (cases hx'; rfl)
    subst hm'
    have hrun : (Instr.endLoop β).run P w = .ok p { w with heap := w.heap.setIfInBounds β (.loop { state := .exhausted, pending := p, fn, tmps, params := ⟨ps⟩, assign, body, defers := δ }) } := by
      cases st <;> first | exact absurd rfl hne | simp [Instr.endLoop, Instr.getLoop, hgo, hso, Result.andThen_ok]
    refine ⟨ρ, { fr with todo := (p.map Item.code).toList ++ k' }, _, _, .one (step_lone_go ?_), hput _ _, ⟨lo, cs1, rfl, by rw [H.put_n]; exact hlo, ?_, hcs⟩, bottom_top hbot rfl⟩
    · obtain ⟨fn', tmps', todo', defers', mode', kind', round'⟩ := fr
      simp only at hft hmf
      subst hft hmf
      simp [stepG, stepG.exec, hrun]
    · have hf2 : FRel ρ lo (h.put l (.loop .exhausted p fn nt tm ps assign body ds)).n false x fr := by rw [H.put_n]; exact hf
      refine { hf2 with run := fun _ => .plain ht ?_, off := fun q => absurd hm q }
      cases p with
      | none => exact hk
      | some j => exact .cons (.code j) hk
end
end Go.SX
namespace Go.SX
open Go.RowKit
variable {e : E} {ρ ρ' : Rho} {h h' : H} {w0 w w' : World} {P : Program}
section
variable {lo : Nat} {x : AFr} {xs : List AFr} {fr : Frame} {cs1 base : List Frame}
theorem exec_beginRound (hi : Inv ρ h w0 w) (hlo : lo ≤ h.n) (hf : FRel ρ lo h.n false x fr) (hm : x.mode = .run) (hcs : SRel ρ lo xs cs1) (hbot : bottom x xs) (ht : TRel ρ x.tm fr.tmps)
    {k : List AIt} {k' : List Item} (hxt : x.todo = .beginRound :: k) (hft : fr.todo = .beginRound :: k') (hk : IRels ρ k k')
    {m' : AM} (hx : exec e x xs h = .go m') : Goes P w0 m' base (lone fr (cs1 ++ base) w) := by
  have hmf : fr.mode = .run := by have := hf.mode; rw [hm] at this; exact this.run_eq
  have hround := hf.round
  have hx' := hx
  simp only [exec, hxt] at hx'
  cases hr : x.round with
  | none => rw [hr] at hx'; cases hx'
  | some l =>
    rw [hr] at hx' hround
    simp only at hx'
    generalize hrf : fr.roundOf = rf at hround
    cases hround with
    | some hι =>
    rename_i β
    cases ho : h.obj l with
    | none => rw [ho] at hx'; cases hx'
    | some ob =>
      rw [ho] at hx'
      cases ob <;> try (cases hx'; done)
      rename_i st p fn nt tm ps assign body ds
      cases st <;> try (cases hx'; done)
      simp only at hx'
      have hm' : m' = ⟨{ x with todo := k }, xs, h.put l (.loop .busy p fn nt tm ps assign body ds)⟩ := by
        rw [← hr] at hx'; cases hx'; rfl
      subst hm'
      obtain ⟨tmps, δ, hb, hδ, hput⟩ := loop_at hi hι ho
      have hgo := r_getObj (P := P) hb (by intro _ _ _ hh; cases hh)
      have hso := fun o' => r_setObj (P := P) (o' := o') hb (by intro _ _ _ hh; cases hh)
      have hrun : (Instr.beginRound β).run P w = .ok () { w with heap := w.heap.setIfInBounds β (.loop { state := .busy, pending := p, fn, tmps, params := ⟨ps⟩, assign, body, defers := δ }) } := by
        simp [Instr.beginRound, Instr.getLoop, hgo, hso, Result.andThen_ok]
      refine ⟨ρ, { fr with todo := k' }, _, _, .one (step_lone_go ?_), hput _ _, ⟨lo, cs1, rfl, by rw [H.put_n]; exact hlo, ?_, hcs⟩, bottom_top hbot rfl⟩
      · obtain ⟨fn', tmps', todo', defers', mode', kind', round'⟩ := fr
        simp only at hft hmf hrf
        subst hft hmf hrf
        simp [stepG, stepG.exec, stepG.apply, hrun, Frame.finish, Result.andThen_ok]
      · have hf2 : FRel ρ lo (h.put l (.loop .busy p fn nt tm ps assign body ds)).n false x fr := by rw [H.put_n]; exact hf
        exact { hf2 with run := fun _ => .plain ht hk, off := fun q => absurd hm q }
theorem exec_region (hE : EnvOk e P) (hi : Inv ρ h w0 w) (hlo : lo ≤ h.n) (hf : FRel ρ lo h.n false x fr) (hm : x.mode = .run) (hcs : SRel ρ lo xs cs1) (hbot : bottom x xs) (ht : TRel ρ x.tm fr.tmps)
    {id : Nat} {ops : Array Oper} {d : Bool} {k : List AIt} {k' : List Item} (hxt : x.todo = .code (.region id ops d) :: k) (hft : fr.todo = .code (.region id ops d) :: k') (hk : IRels ρ k k')
    {m' : AM} (hx : exec e x xs h = .go m') : Goes P w0 m' base (lone fr (cs1 ++ base) w) := by
  have hmf : fr.mode = .run := by have := hf.mode; rw [hm] at this; exact this.run_eq
  have hx' := hx
  simp only [exec, hxt] at hx'
  cases hd : dstOk x.nt ops.toList with
  | false => rw [hd] at hx'; cases hx'
  | true =>
    rw [hd] at hx'
    simp only [Bool.not_true, cond_false] at hx'
    cases d with
    | false =>
      rw [cond_false] at hx'; cases hx'
      refine ⟨ρ, { fr with todo := .inRegion ops (List.range ops.size) :: k' }, _, w, .one (step_lone_go ?_), hi, ⟨lo, cs1, rfl, hlo, ?_, hcs⟩, bottom_top hbot rfl⟩
      · obtain ⟨fn', tmps', todo', defers', mode', kind', round'⟩ := fr
        simp only at hft hmf
        subst hft hmf
        simp [stepG, stepG.exec]
      · refine { hf with run := fun _ => ?_, off := fun q => absurd hm q }
        have := BRel.ops (ρ := ρ) (lo := lo) (hi := h.n) (call := false) (i := 0) ht hd hk
        simpa [List.range_eq_range'] using this
    | true =>
      rw [cond_true] at hx'
      cases hok : dok ops.toList with
      | false => rw [hok] at hx'; cases hx'
      | true =>
        rw [hok, cond_true] at hx'; cases hx'
        refine ⟨ρ, { fr with todo := .inRegion ops (Region.linearise .any ops (w.tape w.drawn (.order fr.fn id))) :: k' }, _, w.drew, .one (step_lone_go ?_), hi.drew, ⟨lo, cs1, rfl, hlo, ?_, hcs⟩, bottom_top hbot rfl⟩
        · obtain ⟨fn', tmps', todo', defers', mode', kind', round'⟩ := fr
          simp only at hft hmf
          subst hft hmf
          simp [stepG, stepG.exec, Question.forced, Question.cut, Region.schedule, hE.mixed]
        · refine { hf with run := fun _ => ?_, off := fun q => absurd hm q }
          exact .dops (DR.start hok hd ht) (left_start _) rfl (fun q => by cases q) hk
end
end Go.SX
namespace Go.SX
open Go.RowKit
variable {e : E} {ρ ρ' : Rho} {h h' : H} {w0 w w' : World} {P : Program}
/-- where the operations of a region of fixed order end, or stop -/
def OpsEnd (e : E) (w0 : World) (ops : Array Oper) (ρ : Rho) (n : Nat) (ρ' : Rho) (w' : World) (tmps' : Array Value) (j : Nat) : OR → Prop
  | .done tm' h' => ρ.Ext n ρ' h'.n ∧ Inv ρ' h' w0 w' ∧ TRel ρ' tm' tmps' ∧ ops.size ≤ j
  | .stop o rest' tm' h' r => ρ.Ext n ρ' h'.n ∧ Inv ρ' h' w0 w' ∧ TRel ρ' tm' tmps' ∧ o :: rest' = ops.toList.drop j ∧ Region.wanted o (yielded ops tmps') = true ∧ xop e tm' h' o = some r
def R.isDefer : R → Bool
  | .defer _ => true
  | _ => false
theorem wantedA_rel {ops : Array Oper} {tm : T Value} {tmps : Array Value} (ht : TRel ρ tm tmps) {o : Oper} {b : Bool} (hw : wantedA ops.toList tm o.guard = some b) : Region.wanted o (yielded ops tmps) = b := by
  unfold wantedA at hw
  unfold Region.wanted
  cases hg : o.guard with
  | none => rw [hg] at hw; cases hw; rfl
  | some p =>
    obtain ⟨j, want⟩ := p
    rw [hg] at hw
    simp only [lget_at, arr_get] at hw ⊢
    cases ho : ops[j]? with
    | none => rw [ho] at hw; cases hw; simp [yielded, ho]
    | some oj =>
      rw [ho] at hw
      simp only at hw
      cases hd : oj.dst with
      | none => rw [hd] at hw; cases hw; simp [yielded, ho, hd]
      | some d =>
        rw [hd] at hw
        simp only at hw
        cases hv : tm.get d with
        | none => rw [hv] at hw; cases hw
        | some v =>
          rw [hv] at hw
          obtain ⟨v', h3, h4⟩ := ht d v hv
          simp only [yielded, ho, Option.bind_some, hd, h3]
          cases h4 with
          | bool x =>
            simp only [Option.some.injEq] at hw
            subst hw
            cases x <;> cases want <;> rfl
          | _ => simp only [Option.some.injEq] at hw; subst hw; rfl
section
variable {lo nt : Nat} {cs : List Frame} {ops : Array Oper} {K : List Item}
/-- the operations of a region of fixed order, up to the first that is no plain value -/
theorem ops_run (hE : EnvOk e P) (hd : dstOk nt ops.toList = true) : ∀ (rest : List Oper) (i : Nat) (tm : T Value) (h : H) (ρ : Rho) (w : World) (fr : Frame) (out : OR), rest = ops.toList.drop i →
    xops e ops.toList rest tm h = some out → Inv ρ h w0 w → TRel ρ tm fr.tmps → nt ≤ fr.tmps.size → fr.mode = .run → fr.todo = .inRegion ops (List.range' i (ops.size - i)) :: K →
    ∃ ρ' w' tmps' j, Steps P (lone fr cs w) (lone { fr with tmps := tmps', todo := .inRegion ops (List.range' j (ops.size - j)) :: K } cs w') ∧ nt ≤ tmps'.size ∧
      OpsEnd e w0 ops ρ h.n ρ' w' tmps' j out := by
  intro rest
  induction rest with
  | nil =>
    intro i tm h ρ w fr out hr hx hi ht hnt hm htd
    simp only [xops, Option.some.injEq] at hx; subst hx
    refine ⟨ρ, w, fr.tmps, i, ?_, hnt, .refl _, hi, ht, ?_⟩
    · have : ({ fr with tmps := fr.tmps, todo := .inRegion ops (List.range' i (ops.size - i)) :: K } : Frame) = fr := by
        obtain ⟨fn, tmps, todo, defers, mode, kind, round⟩ := fr
        simp only at htd; subst htd; rfl
      rw [this]; exact .refl _ _
    · have := congrArg List.length hr
      simp at this; omega
  | cons o rest ih =>
    intro i tm h ρ w fr out hr hx hi ht hnt hm htd
    obtain ⟨h1, h2, h3⟩ := drop_cons hr
    have h3' : i < ops.size := by simpa using h3
    have ho : ops[i]? = some o := by rw [← arr_get]; exact h1
    have hsz : ∀ d, o.dst = some d → d < fr.tmps.size := fun d hd' => Nat.lt_of_lt_of_le (dstOk_get hd h1 hd') hnt
    have htd' := htd
    rw [range'_cons h3'] at htd'
    have hself : ({ fr with tmps := fr.tmps, todo := .inRegion ops (List.range' i (ops.size - i)) :: K } : Frame) = fr := by
      obtain ⟨fn, tmps, todo, defers, mode, kind, round⟩ := fr
      simp only at htd; subst htd; rfl
    have next : ∀ {ρ1 : Rho} {w1 : World} {h1 : H} {v v' : Value}, ρ.Ext h.n ρ1 h1.n → Inv ρ1 h1 w0 w1 → VRel ρ1 v v' → Go.step P (lone fr cs w) = .next (lone (fr.finish v') cs w1) →
        xops e ops.toList rest (putD tm o.dst v) h1 = some out → ∃ ρ' w' tmps' j, Steps P (lone fr cs w) (lone { fr with tmps := tmps', todo := .inRegion ops (List.range' j (ops.size - j)) :: K } cs w') ∧ nt ≤ tmps'.size ∧
      OpsEnd e w0 ops ρ h.n ρ' w' tmps' j out := by
      intro ρ1 w1 h1 v v' hext hi1 hv hst hq
      rw [finish_region htd' ho] at hst
      obtain ⟨ρ2, w2, tmps2, j, q1, q2, q3⟩ := ih (i + 1) _ h1 ρ1 w1 { fr with tmps := putA fr.tmps o.dst v', todo := .inRegion ops (List.range' (i + 1) (ops.size - (i + 1))) :: K } out h2 hq hi1 ((ht.mono hext.le).put hv hsz) (by simpa using hnt) hm rfl
      refine ⟨ρ2, w2, tmps2, j, .head hst q1, q2, ?_⟩
      cases out with
      | done tm' h' => exact ⟨hext.trans q3.1, q3.2⟩
      | stop o' r' tm' h' r => exact ⟨hext.trans q3.1, q3.2⟩
    simp only [xops] at hx
    cases hw : wantedA ops.toList tm o.guard with
    | none => rw [hw] at hx; cases hx
    | some b =>
      rw [hw] at hx
      have hwr := wantedA_rel ht hw
      cases b with
      | false =>
        exact next (.refl ρ) hi (v := undefV) (v' := undef) (.tuple .nil) (step_not hm htd' ho hwr) hx
      | true =>
        simp only at hx
        cases hxo : xop e tm h o with
        | none => rw [hxo] at hx; cases hx
        | some r0 =>
          rw [hxo] at hx
          have hs := xop_sound (P := P) (a := ⟨fr.tmps, fr.defers⟩) hE hi ht hxo
          rw [← eval_act] at hs
          have stop : out = .stop o rest tm h r0 → ∃ ρ' w' tmps' j, Steps P (lone fr cs w) (lone { fr with tmps := tmps', todo := .inRegion ops (List.range' j (ops.size - j)) :: K } cs w') ∧ nt ≤ tmps'.size ∧
            OpsEnd e w0 ops ρ h.n ρ' w' tmps' j out := by
            intro hout
            subst hout
            exact ⟨ρ, w, fr.tmps, i, by rw [hself]; exact .refl _ _, hnt, .refl _, hi, ht, hr, hwr, hxo⟩
          have hg : r0.isDefer = false → stepG P true { frame := fr, callers := cs, status := .running, dying := none } w = stepG.apply P true fr cs none (execOp fr.eval o) w := fun hnd => stepG_oper hm htd' ho hwr (.inr fun c hc => by
            unfold xop at hxo; rw [hc] at hxo; simp only at hxo; split at hxo
            · cases hxo; cases hnd
            · cases hxo)
          cases r0 with
          | val v h1 =>
            obtain ⟨ρ1, w1, v', hext, hrun, hv, hi1⟩ := hs
            exact next hext hi1 hv (step_val (hg rfl) hrun) hx
          | skip h1 =>
            obtain ⟨ρ1, w1, hext, hrun, hi1⟩ := hs
            exact next hext hi1 (v := undefV) (v' := undef) (.tuple .nil) (step_skipped (hg rfl) hrun) hx
          | _ => exact stop (by cases hx; rfl)
end
end Go.SX
namespace Go.SX
open Go.RowKit
variable {e : E} {ρ ρ' : Rho} {h h' : H} {w0 w w' : World} {P : Program}
section
variable {lo : Nat} {x : AFr} {xs : List AFr} {fr : Frame} {cs1 base : List Frame}
theorem Goes.steps {m' : AM} {m m1 : Machine} (h : Steps P m m1) (hg : Goes P w0 m' base m1) : Goes P w0 m' base m := by
  obtain ⟨ρ', fr2, cs2, w', q1, q2⟩ := hg
  exact ⟨ρ', fr2, cs2, w', h.trans q1, q2⟩
theorem defer_round {y : AFr} {tm : T Value} {o : Oper} {r : R} {m1 : AM} (hround : OptRel (fun a b => ρ.ι a = some (b, 0)) y.round fr.roundOf) (hxo : xop e tm h o = some r) (ha : act e y xs h' r = some m1) :
    fr.roundOf = none ∨ ∀ c, o.op ≠ .defer c := by
  cases hr : y.round with
  | none => rw [hr] at hround; generalize hrf : fr.roundOf = rf at hround; cases hround; exact .inl rfl
  | some l =>
    right
    intro c hc
    unfold xop at hxo
    rw [hc] at hxo
    simp only at hxo
    split at hxo
    · cases hxo
      simp only [act, hr] at ha
      cases ha
    · cases hxo
theorem exec_ops (hE : EnvOk e P) (hi : Inv ρ h w0 w) (hlo : lo ≤ h.n) (hf : FRel ρ lo h.n false x fr) (hm : x.mode = .run) (hcs : SRel ρ lo xs cs1) (hbot : bottom x xs) (ht : TRel ρ x.tm fr.tmps)
    {ops : Array Oper} {i : Nat} {k : List AIt} {k' : List Item} (hxt : x.todo = .ops ops.toList (ops.toList.drop i) :: k) (hft : fr.todo = .inRegion ops (List.range' i (ops.size - i)) :: k') (hd : dstOk x.nt ops.toList = true) (hk : IRels ρ k k')
    {m' : AM} (hx : exec e x xs h = .go m') : Goes P w0 m' base (lone fr (cs1 ++ base) w) := by
  have hmf : fr.mode = .run := by have := hf.mode; rw [hm] at this; exact this.run_eq
  simp only [exec, hxt] at hx
  cases hq : xops e ops.toList (ops.toList.drop i) x.tm h with
  | none => rw [hq] at hx; cases hx
  | some out =>
    rw [hq] at hx
    obtain ⟨ρ1, w1, tmps1, j, hst, hnt, hend⟩ := ops_run (cs := cs1 ++ base) hE hd _ i x.tm h ρ w fr out rfl hq hi ht hf.nt hmf hft
    cases out with
    | done tm1 h1 =>
      obtain ⟨hext, hi1, ht1, hj⟩ := hend
      simp only at hx
      cases hx
      have hf1 := hf.mono hext (Nat.le_refl _) hext.up
      have hj0 : ops.size - j = 0 := by omega
      refine ⟨ρ1, { fr with tmps := tmps1, todo := k' }, _, w1, hst.trans (.one (step_lone_go ?_)), hi1, ⟨lo, cs1, rfl, Nat.le_trans hlo hext.up, ?_, hcs.mono hext hlo⟩, bottom_top hbot rfl⟩
      · obtain ⟨fn', tmps', todo', defers', mode', kind', round'⟩ := fr
        simp only at hmf
        subst hmf
        rw [hj0]
        simp [stepG, stepG.exec]
      · exact { hf1 with nt := hnt, run := fun _ => .plain ht1 (hk.mono hext.le), off := fun q => absurd hm q }
    | stop o rest' tm1 h1 r =>
      obtain ⟨hext, hi1, ht1, hdr, hwr, hxo⟩ := hend
      simp only at hx
      cases ha : act e { x with tm := tm1, todo := .ops ops.toList (o :: rest') :: k } xs h1 r with
      | none => rw [ha] at hx; cases hx
      | some m1 =>
        rw [ha] at hx; cases hx
        have hf1 := hf.mono hext (Nat.le_refl _) hext.up
        obtain ⟨q1, q2, q3⟩ := drop_cons hdr
        have q3' : j < ops.size := by simpa using q3
        have ho : ops[j]? = some o := by rw [← arr_get]; exact q1
        have hf2 : FRel ρ1 lo h1.n true { x with tm := tm1, todo := .ops ops.toList (o :: rest') :: k } { fr with tmps := tmps1, todo := .inRegion ops (List.range' j (ops.size - j)) :: k' } :=
          { hf1 with nt := hnt, run := (fun _ => by rw [hdr]; exact .ops ht1 hd (hk.mono hext.le)), off := fun q => absurd hm q }
        have hs := xop_sound (P := P) (a := ⟨tmps1, fr.defers⟩) hE hi1 ht1 hxo
        have hdf : fr.roundOf = none ∨ ∀ c, o.op ≠ .defer c := defer_round (y := { x with tm := tm1, todo := .ops ops.toList (o :: rest') :: k }) hf.round hxo ha
        have hg := stepG_oper (P := P) (w := w1) (cs := cs1 ++ base) (fr := { fr with tmps := tmps1, todo := .inRegion ops (List.range' j (ops.size - j)) :: k' }) (K := k') hmf (by rw [range'_cons q3']) ho hwr hdf
        rw [eval_act] at hg
        obtain ⟨ρ2, fr2, cs2, w2, h5, h6⟩ := act_sound (x := { x with tm := tm1, todo := .ops ops.toList (o :: rest') :: k }) hE (by rw [hg]) hs hi1 (Nat.le_trans hlo hext.up) hf2 hm (hcs.mono hext hlo) (bottom_top hbot rfl) ha
        exact ⟨ρ2, fr2, cs2, w2, hst.trans (.one h5), h6⟩
end
end Go.SX
namespace Go.SX
open Go.RowKit
variable {e : E} {ρ ρ' : Rho} {h h' : H} {w0 w w' : World} {P : Program}
section
variable {lo : Nat} {x : AFr} {xs : List AFr} {fr : Frame} {cs1 base : List Frame}
theorem exec_dops (hE : EnvOk e P) (hi : Inv ρ h w0 w) (hlo : lo ≤ h.n) (hf : FRel ρ lo h.n false x fr) (hm : x.mode = .run) (hcs : SRel ρ lo xs cs1) (hbot : bottom x xs)
    {ops : Array Oper} {n fuel t : Nat} {vals : T Value} {L : Array Bool} {k : List AIt} {k' : List Item} (hxt : x.todo = .dops ops.toList n vals :: k) (hft : fr.todo = .inRegion ops (Region.linearise.go .any ops fuel t L []) :: k')
    (hD : DR ρ lo h.n x.nt x.tm fr.tmps ops n vals L) (hfu : left L ops.size ≤ fuel) (hk : IRels ρ k k')
    {m' : AM} (hx : exec e x xs h = .go m') : Goes P w0 m' base (lone fr (cs1 ++ base) w) := by
  have hmf : fr.mode = .run := by have := hf.mode; rw [hm] at this; exact this.run_eq
  simp only [exec, hxt] at hx
  cases hA : stageA e ops.toList (masks [] ops.toList) (efs ops.toList 0) n x.tm ops.toList 0 vals h with
  | none => rw [hA] at hx; cases hx
  | some p =>
    obtain ⟨vals1, h1⟩ := p
    rw [hA] at hx
    simp only at hx
    cases hB : stageB e ops.toList (masks [] ops.toList) (efs ops.toList 0) n x.tm vals1 h1 ops.toList 0 with
    | false => rw [hB] at hx; cases hx
    | true =>
      rw [hB, cond_true] at hx
      obtain ⟨hi1, hup, hD1⟩ := stageA_sound (w := w) (l := ops.toList) (k := 0) (by simp) hA hi hlo hD
      obtain ⟨ρ2, w2, tmps2, todo2, L2, hst, hext, hi2, hnt2, hD2, ⟨f0, t0, hgo, hl0⟩, hor⟩ := drain (P := P) (cs := cs1 ++ base) (K := k') hE (Nat.le_refl h1.n) (Nat.le_trans hlo hup) hB fuel t L ρ w fr hi1 hD1 hfu hf.nt hmf hft
      have hsz2 := hD2.size
      have hcs2 : SRel ρ2 lo xs cs1 := hcs.mono hext (Nat.le_refl _)
      have hlo1 := Nat.le_trans hlo hup
      -- the frame at the place where its operation with an effect stands
      have hfr : ∀ {c : Bool}, (c = true → ∃ i o rest, (efs ops.toList 0)[n]? = some (i, o) ∧ todo2 = i :: rest) →
          FRel ρ2 lo h1.n c { x with todo := .dops ops.toList n vals1 :: k } { fr with tmps := tmps2, todo := .inRegion ops todo2 :: k' } := fun hc =>
        { hf with
          nt := hnt2, mode := hf.mode.mono hext.le, defers := hf.defers.mono hext.le, round := hf.round.mono (fun _ _ q => hext.le.ι _ _ q),
          run := (fun _ => .dops hD2 hl0 hgo hc (hk.mono hext.le)), off := fun q => absurd hm q }
      have hround2 := (hfr (c := false) (fun q => by cases q)).round
      cases hef : lget (efs ops.toList 0) n with
      | none =>
        rw [hef] at hx
        simp only at hx
        cases hal : allVals vals1 ops.toList 0 x.tm with
        | none => rw [hal] at hx; cases hx
        | some tm1 =>
          rw [hal] at hx; cases hx
          rw [lget_at] at hef
          rcases hor with ⟨i, o, _, _, _, _, hef2, _⟩ | ⟨hnil, hall⟩
          · rw [hef] at hef2; cases hef2
          · refine ⟨ρ2, { fr with tmps := tmps2, todo := k' }, _, w2, hst.trans (.one (step_lone_go ?_)), hi2, ⟨lo, cs1, rfl, hlo1, ?_, hcs2⟩, bottom_top hbot rfl⟩
            · obtain ⟨fn', tmps', todo', defers', mode', kind', round'⟩ := fr
              simp only at hmf
              subst hmf
              rw [hnil]
              simp [stepG, stepG.exec]
            · have hb := hfr (c := false) (fun q => by cases q)
              exact { hb with run := fun _ => .plain (hD2.done hall hal) (hk.mono hext.le), off := fun q => absurd hm q }
      | some p =>
        obtain ⟨i, o⟩ := p
        rw [hef] at hx
        simp only at hx
        rw [lget_at] at hef
        rcases hor with ⟨i2, o2, fuel2, t2, htd2, hr2, hef2, ho2, hl2⟩ | ⟨_, hall⟩
        · rw [hef] at hef2
          cases hef2
          have hmask := ready_mask hD2 hr2
          obtain ⟨hlt, hLi, _⟩ := ready_mem hD2.size hr2
          have hcall := hfr (c := true) (fun _ => ⟨i, o, _, hef, htd2⟩)
          cases hw : wantedV ops.toList vals1 (maskAt (masks [] ops.toList) i) o.guard with
          | none => rw [hw] at hx; cases hx
          | some b =>
            rw [hw] at hx
            have hwr := hD2.wanted hmask hw
            cases b with
            | false =>
              simp only at hx
              cases hx
              have hfin := finish_rel (v := undefV) (v' := undef) (x' := { x with todo := .dops ops.toList (n + 1) (vals1.set i undefV) :: k }) hcall (by
                unfold finish; simp only [hm, lget_at, hef]) (.tuple .nil)
              exact ⟨ρ2, _, _, w2, hst.trans (.one (step_not hmf (by show Item.inRegion ops todo2 :: k' = _; rw [htd2]) ho2 hwr)), hi2, ⟨lo, cs1, rfl, hlo1, hfin, hcs2⟩, bottom_top hbot rfl⟩
            | true =>
              simp only at hx
              cases hs : seen (masks [] ops.toList) vals1 i (maskAt (masks [] ops.toList) i) ops.toList 0 x.tm with
              | none => rw [hs] at hx; cases hx
              | some tm1 =>
                rw [hs] at hx
                simp only at hx
                cases hxo : xop e tm1 h1 o with
                | none => rw [hxo] at hx; cases hx
                | some r =>
                  rw [hxo] at hx
                  simp only at hx
                  cases ha : act e { x with todo := .dops ops.toList n vals1 :: k } xs h1 r with
                  | none => rw [ha] at hx; cases hx
                  | some m1 =>
                    rw [ha] at hx; cases hx
                    have hT := hD2.seen hLi hmask hs
                    have hsx := xop_sound (P := P) (a := ⟨tmps2, fr.defers⟩) hE hi2 hT hxo
                    have hdf : fr.roundOf = none ∨ ∀ c, o.op ≠ .defer c := defer_round (y := { x with todo := .dops ops.toList n vals1 :: k }) hround2 hxo ha
                    have hg := stepG_oper (P := P) (w := w2) (cs := cs1 ++ base) (fr := { fr with tmps := tmps2, todo := .inRegion ops todo2 :: k' }) (K := k') hmf (by show Item.inRegion ops todo2 :: k' = _; rw [htd2]) ho2 hwr hdf
                    rw [eval_act] at hg
                    obtain ⟨ρ3, fr3, cs3, w3, h5, h6⟩ := act_sound (x := { x with todo := .dops ops.toList n vals1 :: k }) hE (by rw [hg]) hsx hi2 hlo1 hcall hm hcs2 (bottom_top hbot rfl) ha
                    exact ⟨ρ3, fr3, cs3, w3, hst.trans (.one h5), h6⟩
        · exfalso
          have hlt : i < ops.size := by
            have := (efs_get hef).2.1
            rw [Nat.sub_zero, arr_get] at this
            exact (Array.getElem?_eq_some_iff.1 this).1
          have := (hD2.efs n i o hef).1 (hall i hlt)
          omega
end
end Go.SX
namespace Go.SX
open Go.RowKit
variable {e : E} {ρ ρ' : Rho} {h h' : H} {w0 w w' : World} {P : Program}
section
variable {lo : Nat} {x : AFr} {xs : List AFr} {fr : Frame} {cs1 base : List Frame}
theorem new_le (hi : Inv ρ h w0 w) (n : Nat) : ρ.Le (ρ.add h.n w.heap.size 0 n) := Rho.le_add (hi.unmapped (Nat.le_refl _)) (fun _ _ _ hs => Nat.ne_of_lt (hi.hi hs))
/-- the loop's block and the mark of its deferred calls -/
theorem enterLoop_rel (hi : Inv ρ h w0 w) (hf : FRel ρ lo h.n false x fr) (ht : TRel ρ x.tm fr.tmps) {ps : Array Tmp} {assign body : Code} {ds : Nat} {mark : List Deferred} {h1 : H}
    (hx : (match x.round with
        | some l => (match h.obj l with | some (.loop _ _ _ _ _ _ _ _ ds) => some (ds, [], h) | _ => none)
        | none => some (h.n, [({ target := .collected h.n, args := #[] } : Deferred)], h.new (.deferred (some [])))) = some (ds, mark, h1)) :
    ∃ ρ' w' l mark', (Instr.enterLoop fr.fn fr.tmps ps assign body fr.roundOf).run P w = .ok (l, mark') w' ∧ ρ.Ext h.n ρ' (h1.new (.loop .ready none x.fn x.nt x.tm ps.toList assign body ds)).n ∧
      Inv ρ' (h1.new (.loop .ready none x.fn x.nt x.tm ps.toList assign body ds)) w0 w' ∧ ρ'.ι h1.n = some (l, 0) ∧ DRels ρ' mark mark' := by
  have hround := hf.round
  have key : ∀ {ρ1 : Rho} {w1 : World} {δ : Nat}, Inv ρ1 h1 w0 w1 → ρ.Ext h.n ρ1 h1.n → ρ1.ι ds = some (δ, 0) →
      ∃ ρ', ρ.Ext h.n ρ' (h1.new (.loop .ready none x.fn x.nt x.tm ps.toList assign body ds)).n ∧ ρ1.Le ρ' ∧
        Inv ρ' (h1.new (.loop .ready none x.fn x.nt x.tm ps.toList assign body ds)) w0 (w1.alloc (.loop { state := .ready, pending := none, fn := fr.fn, tmps := fr.tmps, params := ps, assign, body, defers := δ })) ∧ ρ'.ι h1.n = some (w1.heap.size, 0) := by
    intro ρ1 w1 δ hi1 hext hds
    have hle := new_le hi1 0
    obtain ⟨hi2, _⟩ := hi1.new (n := 0) (o := .loop .ready none x.fn x.nt x.tm ps.toList assign body ds) (O := .loop { state := .ready, pending := none, fn := fr.fn, tmps := fr.tmps, params := ps, assign, body, defers := δ })
      ⟨rfl, fr.tmps, δ, by rw [heap_alloc_new, hf.fn], hf.nt, (ht.mono hext.le).mono hle, hle.ι _ _ hds⟩
    exact ⟨_, hext.trans (Rho.ext_add hle), hle, hi2, add_ι⟩
  cases hr : x.round with
  | none =>
    rw [hr] at hx hround
    generalize hrf : fr.roundOf = rf at hround
    cases hround
    simp only [Option.some.injEq, Prod.mk.injEq] at hx
    obtain ⟨rfl, rfl, rfl⟩ := hx
    have hle := new_le hi 0
    obtain ⟨hi1, _⟩ := hi.new (n := 0) (o := .deferred (some [])) (O := .deferred (some [])) ⟨rfl, some [], heap_alloc_new _ _, .some .nil⟩
    obtain ⟨ρ2, q1, q2, q3, q4⟩ := key hi1 (Rho.ext_add hle) add_ι
    refine ⟨ρ2, _, _, [{ target := .collected w.heap.size, args := #[] }], ?_, q1, q3, q4, .cons ⟨.collected (q2.ι _ _ add_ι), .nil⟩ .nil⟩
    simp [Instr.enterLoop, Result.andThen_ok]
  | some l0 =>
    rw [hr] at hx hround
    simp only at hx
    generalize hrf : fr.roundOf = rf at hround
    cases hround with
    | some hι =>
    cases ho : h.obj l0 with
    | none => rw [ho] at hx; cases hx
    | some ob =>
      rw [ho] at hx
      cases ob <;> try (cases hx; done)
      simp only [Option.some.injEq, Prod.mk.injEq] at hx
      obtain ⟨rfl, rfl, rfl⟩ := hx
      obtain ⟨tmps, δ, hb, hδ, _⟩ := loop_at hi hι ho
      have hgo := r_getObj (P := P) hb (by intro _ _ _ hh; cases hh)
      obtain ⟨ρ2, q1, q2, q3, q4⟩ := key hi (.refl ρ) hδ
      refine ⟨ρ2, _, _, [], ?_, q1, q3, q4, .nil⟩
      simp [Instr.enterLoop, Instr.getLoop, hgo, Result.andThen_ok]
end
end Go.SX
namespace Go.SX
open Go.RowKit
variable {e : E} {ρ ρ' : Rho} {h h' : H} {w0 w w' : World} {P : Program}
theorem apply_congr {fr : Frame} {cs : List Frame} {s s' : Sem Next} (hs : s.run P w = s'.run P w) : (stepG.apply P true fr cs none s w).bare = (stepG.apply P true fr cs none s' w).bare := by
  cases hr : s'.run P w with
  | ok v w1 =>
    rw [hr] at hs
    cases v <;> simp [stepG.apply, hr, hs]
  | halt c w1 =>
    rw [hr] at hs
    cases c <;> simp [stepG.apply, hr, hs]
section
variable {lo : Nat} {x : AFr} {xs : List AFr} {fr : Frame} {cs1 base : List Frame}
theorem exec_rangeFunc (hE : EnvOk e P) (hi : Inv ρ h w0 w) (hlo : lo ≤ h.n) (hf : FRel ρ lo h.n false x fr) (hm : x.mode = .run) (hcs : SRel ρ lo xs cs1) (hbot : bottom x xs) (ht : TRel ρ x.tm fr.tmps)
    {f : Operand} {ps : Array Tmp} {assign body : Code} {k : List AIt} {k' : List Item} (hxt : x.todo = .code (.rangeFunc f ps assign body) :: k) (hft : fr.todo = .code (.rangeFunc f ps assign body) :: k') (hk : IRels ρ k k')
    {m' : AM} (hx : exec e x xs h = .go m') : Goes P w0 m' base (lone fr (cs1 ++ base) w) := by
  have hmf : fr.mode = .run := by have := hf.mode; rw [hm] at this; exact this.run_eq
  simp only [exec, hxt] at hx
  cases hev : ev x.tm f with
  | none => rw [hev] at hx; cases hx
  | some v =>
    rw [hev] at hx
    cases v <;> try (cases hx; done)
    rename_i fn first captured
    simp only at hx
    split at hx
    · rename_i ds mark h1 hmk
      obtain ⟨ρ1, w1, l, mark', hrun, hext, hi1, hl, hmark⟩ := enterLoop_rel (P := P) (ps := ps) (assign := assign) (body := body) hi hf ht hmk
      generalize hh2 : h1.new (.loop .ready none x.fn x.nt x.tm ps.toList assign body ds) = h2 at hx hext hi1
      cases hinv : invokeA e h2 fn captured.toList (lapp first.toList [.func (.yield h1.n) #[] #[]]) with
      | none => rw [hinv] at hx; cases hx
      | some r =>
        rw [hinv] at hx
        simp only at hx
        cases ha : act e { x with todo := .inRangeFunc h1.n :: k, defers := mark ++ x.defers } xs h2 r with
        | none => rw [ha] at hx; cases hx
        | some m1 =>
          rw [ha] at hx; cases hx
          have hr : VRel ρ1 (.func fn first captured) (fr.eval f) := by
            have := ev_rel (a := ⟨fr.tmps, fr.defers⟩) ht hev
            rw [← eval_act] at this
            exact this.mono hext.le
          generalize hcc : fr.eval f = cv at hr
          cases hr with
          | @func _ fn' fa fa' fb fb' hfn hfa hfb =>
            have hf1 := hf.mono hext (Nat.le_refl _) hext.up
            have hf2 : FRel ρ1 lo h2.n true { x with todo := .inRangeFunc h1.n :: k, defers := mark ++ x.defers } { fr with todo := .inRangeFunc l :: k', defers := mark' ++ fr.defers } :=
              { hf1 with defers := hmark.append hf1.defers, run := (fun _ => .plain (ht.mono hext.le) (.cons (.inRangeFunc hl) (hk.mono hext.le))), off := fun q => absurd hm q }
            have hargs : VRels ρ1 (lapp fa [.func (.yield h1.n) #[] #[]]) (⟨fa'⟩ ++ #[.func (.yield l) #[] #[]] : Array Value).toList := by
              rw [lapp_eq, Array.toList_append]
              exact hfa.append (.cons (.func (.yield hl) .nil .nil) .nil)
            have hs := invokeA_rel (P := P) (cap' := ⟨fb'⟩) (args' := ⟨fa'⟩ ++ #[.func (.yield l) #[] #[]]) hE hi1 hinv hfn hfb hargs
            have hg : (stepG P true { frame := fr, callers := cs1 ++ base, status := .running, dying := none } w).bare =
                (stepG.apply P true { fr with todo := .inRangeFunc l :: k', defers := mark' ++ fr.defers } (cs1 ++ base) none (invoke (.fn fn' ⟨fb'⟩) (⟨fa'⟩ ++ #[.func (.yield l) #[] #[]])) w1).bare := by
              obtain ⟨fn0, tmps0, todo0, defers0, mode0, kind0, round0⟩ := fr
              simp only at hft hmf
              subst hft hmf
              have hcc' : ∀ (td : List Item) (df : List Deferred), Frame.eval { fn := fn0, tmps := tmps0, todo := td, defers := df, mode := .run, kind := kind0, roundOf := round0 } f = .func fn' ⟨fa'⟩ ⟨fb'⟩ := by
                intro td df; rw [← hcc]; rfl
              refine Eq.trans ?_ (apply_congr (s := do let d ← resolve (Frame.eval { fn := fn0, tmps := tmps0, todo := .inRangeFunc l :: k', defers := mark' ++ defers0, mode := .run, kind := kind0, roundOf := round0 }) { callee := .value f, args := #[.const (.func (.yield l) #[] #[])], argTypes := #[] } 0; invoke d.target d.args) ?_)
              · simp [stepG, stepG.exec, hrun]
              · simp only [resolve, hcc', Deferred.ofValue, Sem.run_bind, Sem.run_pure, Result.andThen_ok]
                have : Array.map (Frame.eval { fn := fn0, tmps := tmps0, todo := Item.inRangeFunc l :: k', defers := mark' ++ defers0, mode := .run, kind := kind0, roundOf := round0 }) #[Operand.const (Value.func (Fn.yield l) #[] #[])] = #[Value.func (Fn.yield l) #[] #[]] := by
                  simp [Frame.eval]
                rw [this]
            obtain ⟨ρ2, fr2, cs2, w2, h5, h6⟩ := act_sound (x := { x with todo := .inRangeFunc h1.n :: k, defers := mark ++ x.defers }) hE hg hs hi1 (Nat.le_trans hlo hext.up) hf2 hm (hcs.mono hext hlo) (bottom_top hbot rfl) ha
            exact ⟨ρ2, fr2, cs2, w2, .one h5, h6⟩
    · cases hx
end
end Go.SX
namespace Go.SX
open Go.RowKit
variable {e : E} {ρ ρ' : Rho} {h h' : H} {w0 w w' : World} {P : Program}
theorem results_go (hE : EnvOk e P) (hi : Inv ρ h w0 w) {tm : T Value} {tmps : Array Value} (ht : TRel ρ tm tmps) (f : ResultVar → Sem Value)
    (hf1 : ∀ t, f (.tmp t) = pure (tmps.getD t undef)) (hf2 : ∀ a t, f (.cell a t) = (do Go.loadVar t (← asAddr (tmps.getD a undef)))) :
    ∀ (as : List ResultVar) (vs : List Value), resultsA e h tm as = some vs → ∃ vs', (as.mapM f).run P w = .ok vs' w ∧ VRels ρ vs vs' := by
  intro as
  induction as with
  | nil => intro vs hx; cases hx; exact ⟨[], by simp [List.mapM_nil], .nil⟩
  | cons r as ih =>
    intro vs hx
    have fin : ∀ {v v' : Value} {vs1 : List Value}, resultsA e h tm as = some vs1 → VRel ρ v v' → (f r).run P w = .ok v' w →
        ∃ vs', ((r :: as).mapM f).run P w = .ok vs' w ∧ VRels ρ (v :: vs1) vs' := by
      intro v v' vs1 h1 hv hr
      obtain ⟨vs', h3, h4⟩ := ih vs1 h1
      exact ⟨v' :: vs', by simp [List.mapM_cons, Sem.run_bind, hr, Result.andThen_ok, h3], .cons hv h4⟩
    cases r with
    | tmp t =>
      simp only [resultsA] at hx
      cases hv : tm.get t with
      | none => rw [hv] at hx; cases hx
      | some v =>
        rw [hv] at hx
        cases hvs : resultsA e h tm as with
        | none => rw [hvs] at hx; cases hx
        | some vs1 =>
          rw [hvs] at hx; cases hx
          obtain ⟨v', h3, h4⟩ := ht t v hv
          refine fin hvs h4 ?_
          rw [hf1]
          have : tmps.getD t undef = v' := by rw [Array.getD_eq_getD_getElem?, h3]; rfl
          rw [this]; rfl
    | cell a t =>
      simp only [resultsA] at hx
      cases hv : tm.get a with
      | none => rw [hv] at hx; cases hx
      | some v =>
        rw [hv] at hx
        cases v <;> try (cases hx; done)
        rename_i p
        cases p with
        | none => cases hx
        | some p =>
          cases hvs : resultsA e h tm as with
          | none => rw [hvs] at hx; cases hx
          | some vs1 =>
            rw [hvs] at hx
            simp only at hx
            cases hl : loadVar e h t p.block p.off with
            | none => rw [hl] at hx; cases hx
            | some u =>
              rw [hl] at hx; cases hx
              obtain ⟨v', h3, h4⟩ := ht a _ hv
              cases h4 with
              | @ptr r β d o hι =>
                obtain ⟨u', h5, h6⟩ := loadVar_rel (P := P) hE hi hl hι
                refine fin hvs h6 ?_
                rw [hf2]
                have : tmps.getD a undef = .pointer (some ⟨β, d + o, none⟩) := by rw [Array.getD_eq_getD_getElem?, h3]; rfl
                rw [this]
                simp [asAddr, h5]
theorem results_rel (hE : EnvOk e P) (hi : Inv ρ h w0 w) {tm : T Value} {tmps : Array Value} (ht : TRel ρ tm tmps) {fn : Func} {vs : List Value} (hx : resultsA e h tm fn.results.toList = some vs) :
    ∃ v', (results fn tmps).run P w = .ok v' w ∧ VRel ρ (tup vs) v' := by
  unfold results
  obtain ⟨vs', h1, h2⟩ := results_go (P := P) hE hi ht (fun
    | .tmp t => pure (tmps.getD t undef)
    | .cell a t => do Go.loadVar t (← asAddr (tmps.getD a undef))) (fun _ => rfl) (fun _ _ => rfl) fn.results.toList vs hx
  refine ⟨if h : vs'.toArray.size = 1 then vs'.toArray[0] else .tuple vs'.toArray, ?_, ?_⟩
  · rw [Sem.run_bind, Array.mapM_eq_mapM_toList, Sem.run_map]
    refine (congrArg (fun r : Result (List Value) => (r.andThen fun a w' => Result.ok a.toArray w').andThen fun a w' => Sem.run P (pure (if h : a.size = 1 then a[0] else Value.tuple a)) w') h1).trans ?_
    rfl
  · cases h2 with
    | nil => exact .tuple .nil
    | cons hv ht2 =>
      cases ht2 with
      | nil => exact hv
      | cons hv2 ht3 => exact .tuple (.cons hv (.cons hv2 ht3))
section
variable {lo : Nat} {x : AFr} {xs : List AFr} {fr : Frame} {cs1 base : List Frame}
theorem unwind_sound (hE : EnvOk e P) (hi : Inv ρ h w0 w) (hlo : lo ≤ h.n) (hf : FRel ρ lo h.n false x fr) (hm : x.mode ≠ .run) (hcs : SRel ρ lo xs cs1) (hbot : bottom x xs)
    {m' : AM} (hx : unwindA e x xs h = .go m') : Goes P w0 m' base (lone fr (cs1 ++ base) w) := by
  have hmode := hf.mode
  have hmf : fr.mode ≠ .run := by intro q; rw [q] at hmode; generalize x.mode = y at hm hmode; cases hmode; exact hm rfl
  have hstep : stepG P true { frame := fr, callers := cs1 ++ base, status := .running, dying := none } w = unwind P true fr (cs1 ++ base) none w := by
    unfold stepG
    cases hq : fr.mode with
    | run => exact absurd hq hmf
    | returning => simp [hq]
    | panicking c => simp [hq]
  have hd := hf.defers
  unfold unwindA at hx
  generalize hxd : x.defers = xd at hd hx
  generalize hfd : fr.defers = fd at hd
  have huw : ∀ {ds' : List Deferred}, fr.defers = ds' → unwind P true fr (cs1 ++ base) none w = unwind P true { fr with defers := ds' } (cs1 ++ base) none w := by
    intro ds' q; subst q; rfl
  cases hd with
  | nil =>
    simp only at hx
    cases hxm : x.mode with
    | run => exact absurd hxm hm
    | panicking chain =>
      rw [hxm] at hx hmode
      generalize hfm : fr.mode = fm at hmode
      cases hmode with
      | @panicking _ chain' hch =>
        cases hcs with
        | nil => cases hx
        | @cons lo2 _ c fr1 ys frs hl hf1 hs1 =>
          simp only at hx
          cases hfn : e.fn.get x.fn with
          | none => rw [hfn] at hx; cases hx
          | some fn =>
            rw [hfn] at hx
            simp only [Option.isSome_some, cond_true] at hx
            cases hx
            have hpf := hE.fn _ _ hfn
            have hup := hf1.mono (.refl (n := lo) ρ) (Nat.le_refl _) hlo
            refine ⟨ρ, fr1.raise chain', frs ++ base, w, .one (step_lone_go ?_), hi, ⟨lo2, frs, rfl, Nat.le_trans hl hlo, raise_rel hup hch, hs1⟩, bottom_top (x := c) hbot (raise_kind _ _)⟩
            rw [hstep]
            simp [unwind, hfd, hfm, Frame.catches, hf.fn, hpf]
    | returning =>
      rw [hxm] at hx hmode
      generalize hfm : fr.mode = fm at hmode
      cases hmode
      simp only at hx
      cases hfn : e.fn.get x.fn with
      | none => rw [hfn] at hx; cases hx
      | some fn =>
        rw [hfn] at hx
        simp only at hx
        have hpf := hE.fn _ _ hfn
        cases hres : resultsA e h x.tm fn.results.toList with
        | none => rw [hres] at hx; cases hx
        | some vs =>
          rw [hres] at hx
          simp only at hx
          obtain ⟨v', h1, h2⟩ := results_rel (P := P) hE hi (hf.off hm) hres
          obtain ⟨fr2, cs2, h3, h4⟩ := doRet_sound (P := P) (base := base) hi hlo hf.kind hf.kinds hcs hbot h2 hx
          refine ⟨ρ, fr2, cs2, w, .one (step_lone_go ?_), h4⟩
          rw [hstep]
          simp [unwind, hfd, hfm, hf.fn, hpf, h1, h3]
  | @cons d d' ds ds' hdd hds =>
    obtain ⟨tg, dargs⟩ := d
    obtain ⟨tg', dargs'⟩ := d'
    obtain ⟨htg, hda⟩ := hdd
    simp only at htg hda
    have hfd2 : ∀ (y : List Deferred) (y' : List Deferred), DRels ρ y y' → FRel ρ lo h.n true { x with defers := y } { fr with defers := y' } := fun y y' q =>
      { hf with defers := q, run := fun q => absurd q hm }
    have other : ∀ (hne : ∀ b, tg ≠ .collected b), (match (generalizing := false) invokeT e h ⟨tg, dargs⟩ with
        | some (.enter f args) => (match enterFr e f args .deferred with | some g => Out.go ⟨g, { x with defers := ds } :: xs, h⟩ | none => .bad 31)
        | _ => .bad 32) = .go m' → Goes P w0 m' base (lone fr (cs1 ++ base) w) := by
      intro hne hx
      cases hinv : invokeT e h ⟨tg, dargs⟩ with
      | none => rw [hinv] at hx; cases hx
      | some r =>
        rw [hinv] at hx
        cases r <;> try (cases hx; done)
        rename_i f args
        simp only at hx
        cases hen : enterFr e f args .deferred with
        | none => rw [hen] at hx; cases hx
        | some g =>
          rw [hen] at hx; cases hx
          unfold invokeT at hinv
          cases htg with
          | nil => cases hinv
          | collected hι => exact absurd rfl (hne _)
          | builtin b ats t t' kk kk' =>
            exfalso
            simp only at hinv
            unfold xbuiltin at hinv
            repeat' (split at hinv)
            all_goals (first | (cases hinv; done) | skip)
          | @fn fn' fn2 cap cap' hfn hcap =>
            simp only at hinv
            have hs := invokeA_rel (P := P) (cap' := ⟨cap'⟩) (args' := dargs') hE hi hinv hfn hcap hda
            obtain ⟨args', hr, ha⟩ := hs
            obtain ⟨h1, h2⟩ := enter_rel (n := h.n) hE hen ha (.inr rfl)
            refine ⟨ρ, _, _, w, .one (step_lone_go ?_), hi, ⟨h.n, { fr with defers := ds' } :: cs1, rfl, Nat.le_refl _, h1, .cons hlo (hfd2 _ _ hds) hcs⟩, (bottom_top hbot rfl : bottom { x with defers := ds } xs)⟩
            rw [hstep]
            simp [unwind, hfd, callDeferred, hr]
    cases htg with
    | @collected r β hι =>
      simp only at hx
      cases ho : h.obj r with
      | none => rw [ho] at hx; cases hx
      | some ob =>
        rw [ho] at hx
        cases ob <;> try (cases hx; done)
        rename_i od
        cases od with
        | none => cases hx
        | some l =>
          simp only at hx
          cases hx
          obtain ⟨k, hk, hko⟩ := obj_some ho
          have hob := hi.obj _ _ _ _ hι hk
          rw [hko] at hob
          obtain ⟨_, ods, hb, hods⟩ := hob
          cases hods with
          | @some _ l' hl =>
            have hgo := r_getObj (P := P) hb (by intro _ _ _ hh; cases hh)
            have hso := fun o' => r_setObj (P := P) (o' := o') hb (by intro _ _ _ hh; cases hh)
            obtain ⟨hturn, hb'⟩ := Turned.setObj w (o' := .deferred none) hb
            have hi2 := hi.put (o := .deferred none) hk hι (by rw [hko]; simp [kindOf]) (by simp [kindOf]) hturn ⟨rfl, none, hb', .none⟩
            have hrun : (Instr.takeDeferred β).run P w = .ok l' { w with heap := w.heap.setIfInBounds β (.deferred none) } := by
              simp [Instr.takeDeferred, hgo, hso, Result.andThen_ok]
            refine ⟨ρ, { fr with defers := l' ++ ds' }, _, _, .one (step_lone_go ?_), hi2, ⟨lo, cs1, rfl, by rw [H.put_n]; exact hlo, ?_, hcs⟩, bottom_top hbot rfl⟩
            · rw [hstep]
              simp [unwind, hfd, hrun]
            · rw [H.put_n]; exact (hfd2 _ _ (hl.append hds)).weaken
    | nil => exact other (fun _ q => by cases q) hx
    | builtin b ats t t' kk kk' => exact other (fun _ q => by cases q) hx
    | fn hfn hcap => exact other (fun _ q => by cases q) hx
end
end Go.SX
namespace Go.SX
open Go.RowKit
variable {e : E} {ρ ρ' : Rho} {h h' : H} {w0 w w' : World} {P : Program}
theorem exec_sound (hE : EnvOk e P) {x : AFr} {xs : List AFr} {fr : Frame} {cs base : List Frame} {m' : AM} (hM : MR ρ w0 ⟨x, xs, h⟩ fr cs base w) (hm : x.mode = .run) (hx : exec e x xs h = .go m') : Goes P w0 m' base (lone fr cs w) := by
  obtain ⟨hi, ⟨lo, cs1, rfl, hlo, hf, hcs⟩, hbot⟩ := hM
  simp only at hi hlo hf hcs hbot
  have hb := hf.run hm
  generalize hxt : x.todo = xt at hb
  generalize hft : fr.todo = ft at hb
  cases hb with
  | plain ht hk =>
    cases hk with
    | nil =>
      have : exec e x xs h = leave e x xs h none := by simp only [exec, hxt]
      rw [this] at hx
      exact leave_sound hi hlo hf hm hcs hbot ht hx (.fin hft)
    | cons ha hk =>
      have item := fun hno => exec_item (P := P) (base := base) hi hlo hf hm hcs hbot ht hxt hft ha hk hno hx
      cases ha with
      | inBlock id => exact item ⟨fun _ _ _ _ q => by (cases q), fun _ _ _ q => by (cases q), fun _ q => by (cases q), fun q => by cases q⟩
      | inLoop id => exact item ⟨fun _ _ _ _ q => by (cases q), fun _ _ _ q => by (cases q), fun _ q => by (cases q), fun q => by cases q⟩
      | inScope id => exact item ⟨fun _ _ _ _ q => by (cases q), fun _ _ _ q => by (cases q), fun _ q => by (cases q), fun q => by cases q⟩
      | inRangeFunc hl => exact item ⟨fun _ _ _ _ q => by (cases q), fun _ _ _ q => by (cases q), fun _ q => by (cases q), fun q => by cases q⟩
      | endRangeFunc hl => exact exec_endRange hi hlo hf hm hcs hbot ht hxt hft hl hk hx
      | beginRound => exact exec_beginRound hi hlo hf hm hcs hbot ht hxt hft hk hx
      | code c =>
        cases c with
        | rangeFunc f ps as bd => exact exec_rangeFunc hE hi hlo hf hm hcs hbot ht hxt hft hk hx
        | region i o d => exact exec_region hE hi hlo hf hm hcs hbot ht hxt hft hk hx
        | _ => exact item ⟨fun _ _ _ _ q => by (cases q), fun _ _ _ q => by (cases q), fun _ q => by (cases q), fun q => by cases q⟩
  | ops ht hd hk => exact exec_ops hE hi hlo hf hm hcs hbot ht hxt hft hd hk hx
  | dops hD hfu htd hc hk =>
    subst htd
    exact exec_dops hE hi hlo hf hm hcs hbot hxt hft hD hfu hk hx
theorem step_sound (hE : EnvOk e P) {m m' : AM} {fr : Frame} {cs base : List Frame} (hM : MR ρ w0 m fr cs base w) (hx : step e m = .go m') : Goes P w0 m' base (lone fr cs w) := by
  obtain ⟨x, xs, h⟩ := m
  unfold step at hx
  simp only at hx
  by_cases hm : x.mode = .run
  · rw [hm] at hx
    exact exec_sound hE hM hm hx
  · obtain ⟨hi, ⟨lo, cs1, rfl, hlo, hf, hcs⟩, hbot⟩ := hM
    refine unwind_sound hE hi hlo hf hm hcs hbot (m' := m') ?_
    split at hx
    · rename_i q; exact absurd q hm
    · exact hx
/-- a call has come to its end -/
def Ends (P : Program) (w0 : World) (f : Nat) (v : Value) (h : H) (base : List Frame) (m : Machine) : Prop :=
  ∃ ρ' fr' w' v', Steps P m (lone fr' base w') ∧ fr'.fn = f ∧ fr'.leaving P w' (.returned v') ∧ VRel ρ' v v' ∧ Inv ρ' h w0 w'
theorem doRet_ended {x : AFr} {xs : List AFr} {v u : Value} {f : Nat} {ch : List PanicEntry} (hx : doRet x xs h v = .ended f (some u) ch h') : xs = [] ∧ f = x.fn ∧ u = v ∧ h' = h := by
  unfold doRet at hx
  cases xs with
  | nil => cases hx; exact ⟨rfl, rfl, rfl, rfl⟩
  | cons c rest =>
    simp only at hx
    split at hx
    · split at hx <;> cases hx
    · cases hx
    · cases hx
theorem leave_ended {x : AFr} {xs : List AFr} {u : Value} {f : Nat} {ch : List PanicEntry} {j : Option Code} (hx : leave e x xs h j = .ended f (some u) ch h') : False := by
  unfold leave at hx
  split at hx
  · split at hx <;> cases hx
  · split at hx
    · cases hxs : xs.isEmpty with
      | true => rw [hxs] at hx; cases hx
      | false =>
        rw [hxs, cond_false] at hx
        obtain ⟨q, _⟩ := doRet_ended hx
        subst q; cases hxs
    · cases hx
theorem exec_ended {x : AFr} {xs : List AFr} {u : Value} {f : Nat} {ch : List PanicEntry} (hx : exec e x xs h = .ended f (some u) ch h') : False := by
  have hof : ∀ (a : Option AM) (n : Nat), ofOpt a n ≠ .ended f (some u) ch h' := by intro a n q; cases a <;> cases q
  unfold exec at hx
  simp only at hx
  have hcond : ∀ (b : Bool) (p q : Out), (bif b then p else q) = .ended f (some u) ch h' → p = .ended f (some u) ch h' ∨ q = .ended f (some u) ch h' := by
    intro b p q hq; cases b <;> simp_all
  repeat' (first | (cases hx; done) | exact leave_ended hx | exact hof _ _ hx | (replace hx := hcond _ _ _ hx; cases hx <;> rename_i hx) | split at hx)
theorem step_ended (hE : EnvOk e P) {m : AM} {fr : Frame} {cs base : List Frame} (hM : MR ρ w0 m fr cs base w) {f : Nat} {v : Value} {ch : List PanicEntry} (hx : step e m = .ended f (some v) ch h') : Ends P w0 f v h' base (lone fr cs w) := by
  obtain ⟨x, xs, h⟩ := m
  unfold step at hx
  simp only at hx
  by_cases hm : x.mode = .run
  · rw [hm] at hx
    exact (exec_ended hx).elim
  · obtain ⟨hi, ⟨lo, cs1, rfl, hlo, hf, hcs⟩, hbot⟩ := hM
    have hx2 : unwindA e x xs h = .ended f (some v) ch h' := by
      split at hx
      · rename_i q; exact absurd q hm
      · exact hx
    have hmode := hf.mode
    have hd := hf.defers
    unfold unwindA at hx2
    split at hx2
    · split at hx2 <;> cases hx2
    · split at hx2
      · split at hx2 <;> cases hx2
      · cases hx2
    · rename_i hxd
      rw [hxd] at hd
      split at hx2
      · cases hx2
      · split at hx2
        · rename_i c rest _
          cases hq : (e.fn.get x.fn).isSome <;> rw [hq] at hx2 <;> cases hx2
        · cases hx2
      · rename_i hxm
        rw [hxm] at hmode
        cases hfn : e.fn.get x.fn with
        | none => rw [hfn] at hx2; cases hx2
        | some fn =>
          rw [hfn] at hx2
          simp only at hx2
          have hpf := hE.fn _ _ hfn
          cases hres : resultsA e h x.tm fn.results.toList with
          | none => rw [hres] at hx2; cases hx2
          | some vs =>
            rw [hres] at hx2
            simp only at hx2
            obtain ⟨rfl, rfl, rfl, rfl⟩ := doRet_ended hx2
            obtain ⟨v', h1, h2⟩ := results_rel (P := P) hE hi (hf.off hm) hres
            cases hcs
            refine ⟨ρ, fr, w, v', .refl _ _, hf.fn, ?_, h2, hi⟩
            generalize hfm : fr.mode = fm at hmode
            cases hmode
            generalize hfd : fr.defers = fd at hd
            cases hd
            exact ⟨hfm, hfd, by rw [hf.kind]; exact hbot, fn, by rw [hf.fn]; exact hpf, h1⟩
theorem Goes.ends {m' : AM} {base : List Frame} {m : Machine} (hg : Goes P w0 m' base m) {f : Nat} {v : Value} (hn : ∀ ρ' fr2 cs2 w', MR ρ' w0 m' fr2 cs2 base w' → Ends P w0 f v h' base (lone fr2 cs2 w')) : Ends P w0 f v h' base m := by
  obtain ⟨ρ', fr2, cs2, w', h1, h2⟩ := hg
  obtain ⟨ρ3, fr3, w3, v3, h3, h4⟩ := hn _ _ _ _ h2
  exact ⟨ρ3, fr3, w3, v3, h1.trans h3, h4⟩
theorem Goes.goes {m' m2 : AM} {base : List Frame} {m : Machine} (hg : Goes P w0 m' base m) (hn : ∀ ρ' fr2 cs2 w', MR ρ' w0 m' fr2 cs2 base w' → Goes P w0 m2 base (lone fr2 cs2 w')) : Goes P w0 m2 base m := by
  obtain ⟨ρ', fr2, cs2, w', h1, h2⟩ := hg
  exact (hn _ _ _ _ h2).steps h1
theorem runP_ended {f : Nat} {v : Option Value} {ch : List PanicEntry} : ∀ {n : Nat}, runP e n (.ended f v ch h) = .ended f v ch h := by
  intro n; cases n <;> rfl
theorem runP_bad {b : Nat} : ∀ {n : Nat}, runP e n (.bad b) = .bad b := by
  intro n; cases n <;> rfl
theorem run_sound (hE : EnvOk e P) {base : List Frame} : ∀ (n : Nat) {ρ : Rho} {m : AM} {fr : Frame} {cs : List Frame} {w : World}, MR ρ w0 m fr cs base w →
    (∀ m', runP e n (.go m) = .go m' → Goes P w0 m' base (lone fr cs w)) ∧ (∀ f v ch h', runP e n (.go m) = .ended f (some v) ch h' → Ends P w0 f v h' base (lone fr cs w)) := by
  intro n
  induction n with
  | zero => intro ρ m fr cs w hM; exact ⟨fun m' hx => step_sound hE hM hx, fun f v ch h' hx => step_ended hE hM hx⟩
  | succ n ih =>
    intro ρ m fr cs w hM
    have h1 := ih hM
    have hrec : runP e (n + 1) (.go m) = runP e n (runP e n (.go m)) := rfl
    rw [hrec]
    cases hq : runP e n (.go m) with
    | bad b => rw [runP_bad]; exact ⟨fun _ q => (by cases q), fun _ _ _ _ q => by cases q⟩
    | ended f v ch h2 =>
      rw [runP_ended]
      refine ⟨fun _ q => (by cases q), fun _ _ _ _ q => ?_⟩
      cases q
      exact h1.2 _ _ _ _ hq
    | go m2 =>
      have hg := h1.1 m2 hq
      exact ⟨fun m' q => hg.goes fun _ _ _ _ hM2 => (ih hM2).1 m' q, fun f v ch h' q => hg.ends fun _ _ _ _ hM2 => (ih hM2).2 f v ch h' q⟩
def Rho.empty : Rho := ⟨fun _ => none, fun _ => 0⟩
theorem Inv.empty (n : Nat) (w : World) : Inv Rho.empty ⟨.nil, .nil, n⟩ w w :=
  { below := .refl _ _, dom := fun _ _ q => (by cases q), obj := fun _ _ _ _ q => (by cases q), lo := fun _ _ _ _ q => (by cases q), same := fun _ _ _ _ _ _ _ q => (by cases q),
    fresh := fun _ _ q => (by simp [T.get] at q), gfresh := fun _ _ q => (by simp [T.get] at q), mem := fun _ _ q => (by simp [T.get] at q), lone := fun _ _ q => (by simp [T.get] at q), roG := fun _ _ _ _ q => (by simp [T.get] at q) }
/-- A run of the abstract machine to true is a call that gives true. -/
theorem calls_true (hE : EnvOk e P) {f n n0 : Nat} (hr : isTrue f (runP e n (start e f n0)) = true) (w : World) :
    Calls P f #[] w fun en w' => en = .returned (.bool true) ∧ Below w.heap.size w w' := by
  intro cs
  unfold start at hr
  cases hen : enterFr e f [] .normal with
  | none => rw [hen] at hr; simp only at hr; rw [runP_bad] at hr; cases hr
  | some g =>
    rw [hen] at hr
    simp only at hr
    obtain ⟨h1, h2⟩ := enter_rel (ρ := Rho.empty) (n := n0) (args' := #[]) hE hen .nil (.inl rfl)
    have hM : MR Rho.empty w ⟨g, [], ⟨.nil, .nil, n0⟩⟩ (Frame.enter P f #[] .normal) cs cs w :=
      ⟨Inv.empty n0 w, ⟨n0, [], rfl, Nat.le_refl _, h1, .nil _⟩, h2⟩
    have hrs := (run_sound hE n hM).2
    cases hq : runP e n (.go ⟨g, [], ⟨.nil, .nil, n0⟩⟩) with
    | go m => rw [hq] at hr; cases hr
    | bad b => rw [hq] at hr; cases hr
    | ended f' v ch h' =>
      rw [hq] at hr
      cases v with
      | none => cases hr
      | some v =>
        cases v <;> try (cases hr; done)
        rename_i b
        cases b with
        | false => cases hr
        | true =>
          have hff : f' = f := Nat.eq_of_beq_eq_true hr
          obtain ⟨ρ', fr', w', v', k1, k2, k3, k4, k5⟩ := hrs _ _ _ _ hq
          cases k4
          exact ⟨.returned (.bool true), w', fr', ⟨rfl, k5.below⟩, k1, k2.trans hff, k3⟩
end Go.SX
namespace Go.SX.F
noncomputable section
/-! ### the small words -/
def bb {α : Type} (c : Bool) (x y : α) : α := Bool.rec (motive := fun _ => α) y x c
def ob {α β : Type} (x : Option α) (f : α → Option β) : Option β := Option.rec (motive := fun _ => Option β) none f x
def oo {α β : Type} (x : Option α) (n : β) (f : α → β) : β := Option.rec (motive := fun _ => β) n f x
def tget {α : Type} (t : T α) : Nat → Option α := T.rec (motive := fun _ => Nat → Option α) (fun _ => none)
  (fun _ v _ gl gr k => Bool.rec (motive := fun _ => Option α) (Bool.rec (motive := fun _ => Option α) (gr (Nat.sub (Nat.div k (nat_lit 2)) (nat_lit 1))) (gl (Nat.div k (nat_lit 2))) (Nat.beq (Nat.mod k (nat_lit 2)) (nat_lit 1))) v (Nat.beq k (nat_lit 0))) t
def tmk {α : Type} : Nat → Nat → α → T α := Nat.rec (motive := fun _ => Nat → α → T α) (fun _ _ => .nil)
  (fun _ ih k x => Bool.rec (motive := fun _ => T α) (Bool.rec (motive := fun _ => T α) (.node .nil none (ih (Nat.sub (Nat.div k (nat_lit 2)) (nat_lit 1)) x)) (.node (ih (Nat.div k (nat_lit 2)) x) none .nil) (Nat.beq (Nat.mod k (nat_lit 2)) (nat_lit 1))) (.node .nil (some x) .nil) (Nat.beq k (nat_lit 0)))
def tset {α : Type} (t : T α) : Nat → α → T α := T.rec (motive := fun _ => Nat → α → T α) (fun k x => tmk (Nat.succ k) k x)
  (fun l v r gl gr k x => Bool.rec (motive := fun _ => T α) (Bool.rec (motive := fun _ => T α) (.node l v (gr (Nat.sub (Nat.div k (nat_lit 2)) (nat_lit 1)) x)) (.node (gl (Nat.div k (nat_lit 2)) x) v r) (Nat.beq (Nat.mod k (nat_lit 2)) (nat_lit 1))) (.node l (some x) r) (Nat.beq k (nat_lit 0))) t
theorem tget_eq {α : Type} : @tget α = @T.get α := by
  funext t
  induction t with
  | nil => rfl
  | node l v r ihl ihr =>
    funext k
    have h1 : tget (.node l v r) k = Bool.rec (motive := fun _ => Option α) (Bool.rec (motive := fun _ => Option α) (tget r (k / 2 - 1)) (tget l (k / 2)) (Nat.beq (k % 2) 1)) v (Nat.beq k 0) := rfl
    rw [h1, ihl, ihr]
    simp only [T.get]
    cases Nat.beq k 0 <;> cases Nat.beq (k % 2) 1 <;> rfl
theorem tmk_eq {α : Type} : @tmk α = @T.mk α := by
  funext n
  induction n with
  | zero => rfl
  | succ n ih =>
    funext k x
    have h1 : tmk (n + 1) k x = Bool.rec (motive := fun _ => T α) (Bool.rec (motive := fun _ => T α) (.node .nil none (tmk n (k / 2 - 1) x)) (.node (tmk n (k / 2) x) none .nil) (Nat.beq (k % 2) 1)) (.node .nil (some x) .nil) (Nat.beq k 0) := rfl
    rw [h1, ih]
    simp only [T.mk]
    cases Nat.beq k 0 <;> cases Nat.beq (k % 2) 1 <;> rfl
theorem tset_eq {α : Type} : @tset α = @T.set α := by
  funext t
  induction t with
  | nil => funext k x; show tmk (k + 1) k x = _; rw [tmk_eq]; rfl
  | node l v r ihl ihr =>
    funext k x
    have h1 : tset (.node l v r) k x = Bool.rec (motive := fun _ => T α) (Bool.rec (motive := fun _ => T α) (.node l v (tset r (k / 2 - 1) x)) (.node (tset l (k / 2) x) v r) (Nat.beq (k % 2) 1)) (.node l (some x) r) (Nat.beq k 0) := rfl
    rw [h1, ihl, ihr]
    simp only [T.set]
    cases Nat.beq k 0 <;> cases Nat.beq (k % 2) 1 <;> rfl
/-! ### lists -/
def lget {α : Type} (l : List α) (k : Nat) : Option α :=
  Nat.rec (motive := fun _ => List α → Option α) (fun l => List.rec (motive := fun _ => Option α) none (fun x _ _ => some x) l)
    (fun _ ih l => List.rec (motive := fun _ => Option α) none (fun _ xs _ => ih xs) l) k l
theorem lget_eq {α : Type} : @lget α = @SX.lget α := by
  funext l k
  induction k generalizing l with
  | zero => cases l <;> rfl
  | succ k ih =>
    cases l with
    | nil => rfl
    | cons x xs =>
      have h1 : lget (x :: xs) (k + 1) = lget xs k := rfl
      rw [h1, ih]
      simp only [SX.lget]
      have : Nat.beq (k + 1) 0 = false := rfl
      rw [this]; rfl
/-! ### operands -/
abbrev Look := Nat → Option Value
def ev (lk : Look) (o : Operand) : Option Value := Operand.rec (motive := fun _ => Option Value) lk (fun v => bb (closedV v) (some v) none) (fun _ => none) (fun f => some (.func (.func f) #[] #[])) o
theorem ev_eq (tm : T Value) : ev tm.get = SX.ev tm := by
  funext o
  cases o <;> simp only [ev, SX.ev, bb]
  rename_i v; cases closedV v <;> rfl
def evs (lk : Look) (l : List Operand) : Option (List Value) := List.rec (motive := fun _ => Option (List Value)) (some [])
  (fun x _ ih => ob (ev lk x) fun v => ob ih fun vs => some (v :: vs)) l
theorem evs_eq (tm : T Value) : evs tm.get = SX.evs tm := by
  funext l
  induction l with
  | nil => rfl
  | cons x xs ih =>
    have h1 : evs tm.get (x :: xs) = ob (ev tm.get x) fun v => ob (evs tm.get xs) fun vs => some (v :: vs) := rfl
    rw [h1, ih, ev_eq]
    simp only [SX.evs]
    cases SX.ev tm x <;> cases SX.evs tm xs <;> rfl
def evParts (lk : Look) : List (Nat × Operand) → Option (List (Nat × Value))
  | [] => some []
  | (i, x) :: xs => match ev lk x, evParts lk xs with | some v, some vs => some ((i, v) :: vs) | _, _ => none
theorem evParts_eq (tm : T Value) : evParts tm.get = SX.evParts tm := by
  funext l
  induction l with
  | nil => rfl
  | cons x xs ih =>
    obtain ⟨i, x⟩ := x
    simp only [evParts, SX.evParts, ih, ev_eq]
    rfl
def putD (tm : T Value) (d : Option Tmp) (v : Value) : T Value := Option.rec (motive := fun _ => T Value) tm (fun i => tset tm i v) d
theorem putD_eq : putD = SX.putD := by funext tm d v; cases d <;> simp only [putD, SX.putD, tset_eq]
/-! ### memory -/
def obj (h : H) (r : Nat) : Option AObj := ob (tget h.b r) fun k => some k.obj
theorem obj_eq : obj = H.obj := by
  funext h r; simp only [obj, H.obj, tget_eq, ob]; cases h.b.get r <;> rfl
def load1 (h : H) (r off : Nat) : Option Value := ob (obj h r) fun o => AObj.casesOn (motive := fun _ => Nat → Option Value) o lget lget
  (fun _ _ _ => none) (fun _ _ _ _ _ => none) (fun _ _ _ _ _ _ _ _ _ _ => none) (fun _ _ => none) (fun _ => none) off
theorem bleF {a b : Nat} (h : ¬ a ≤ b) : Nat.ble a b = false := by
  cases q : Nat.ble a b with
  | false => rfl
  | true => exact absurd (Nat.le_of_ble_eq_true q) h
def loadVar (e : E) (h : H) (t : TypeId) (r off : Nat) : Option Value :=
  ob (isAgg e t) fun a => Bool.rec (motive := fun _ => Option Value) (load1 h r off) (ob (sizeOf e t) fun n => ob (h.loadAt r off n) fun cs => some (.agg ⟨cs⟩)) a
theorem loadVar_eq : loadVar = SX.loadVar := by
  funext e h t r off
  simp only [loadVar, SX.loadVar, ob]
  cases isAgg e t with
  | none => rfl
  | some b =>
    cases b with
    | true =>
      simp only
      cases sizeOf e t with
      | none => rfl
      | some n => simp only; cases h.loadAt r off n <;> rfl
    | false =>
      simp only [load1, obj_eq, ob, H.loadAt]
      cases h.obj r with
      | none => rfl
      | some o =>
        cases o with
        | cells cs =>
          simp only
          rw [lget_eq, SX.lget_eq]
          simp only [llen_eq, ltake_eq, ldrop_eq]
          by_cases q : off + 1 ≤ cs.length
          · rw [Nat.ble_eq_true_of_le q, cond_true, List.drop_eq_getElem_cons (show off < cs.length by omega), List.getElem?_eq_getElem (show off < cs.length by omega)]
            rfl
          · rw [bleF q, cond_false, List.getElem?_eq_none (by omega)]
        | ro cs =>
          simp only
          rw [lget_eq, SX.lget_eq]
          simp only [llen_eq, ltake_eq, ldrop_eq]
          by_cases q : off + 1 ≤ cs.length
          · rw [Nat.ble_eq_true_of_le q, cond_true, List.drop_eq_getElem_cons (show off < cs.length by omega), List.getElem?_eq_getElem (show off < cs.length by omega)]
            rfl
          · rw [bleF q, cond_false, List.getElem?_eq_none (by omega)]
        | _ => rfl
/-! ### operations -/
def bind1 (x : Option Value) (f : Value → Option R) : Option R := Option.rec (motive := fun _ => Option R) none f x
def ret (h : H) (x : Option Value) : Option R := Option.rec (motive := fun _ => Option R) none (fun v => some (.val v h)) x
abbrev HD := E → Look → H → Option R
def oMove (x : Operand) : HD := fun _ tm h => ret h (ev tm x)
def oPick (c a b : Operand) : HD := fun _ tm h => SX.bind1 (ev tm c) fun | .bool t => ret h (ev tm (bb t a b)) | _ => none
def xfresh (e : E) (tm : Look) (op : Op) : Option (AObj × Mk) :=
  match op with
  | .alloc el => (match zeroOf e el with | some z => bif closedV z then some (.cells (vcells z), .ptr) else none | none => none)
  | .box _ x => (match ev tm x with | some v => some (.cells (vcells v), .ptr) | none => none)
  | .buildSlice t len ps => (match e.under t, evParts tm ps.toList with
    | some (.slice el), some vs => (match zeroOf e el, sizeOf e el with
      | some z, some n => bif closedV z && Nat.beq (llen (vcells z)) n && Nat.ble (len * n) 16777216 then
        (match fillL (fun i => some (i * n, n)) (zerosL (vcells z) len) vs with
        | some cs => some (.cells cs, .sl n len (capE len))
        | none => none) else none
      | _, _ => none)
    | _, _ => none)
  | .makeMap _ none => some (.map [] 0, .mp)
  | .makeSlice t l c => (match e.under t, ev tm l, ev tm c with
    | some (.slice el), some x, some y => (match nat? x, nat? y, zeroOf e el, e.info el with
      | some n, some m, some z, some i => bif closedV z && Nat.beq (llen (vcells z)) i.size && Nat.ble n m && Nat.ble m 1000000 && Nat.ble (i.bytes * m) 281474976710656 then
          some (.cells (zerosL (vcells z) m), .sl i.size n (capE m)) else none
      | _, _, _, _ => none)
    | _, _, _ => none)
  | _ => none
theorem xfresh_eq (e : E) (tm : T Value) : xfresh e tm.get = SX.xfresh e tm := by
  funext op
  cases op <;> simp only [xfresh, SX.xfresh, ev_eq, evParts_eq]
  all_goals rfl
def oFresh (op : Op) : HD := fun e tm h => match xfresh e tm op with | some (ob, mk) => some (.val (mk.at h.n) (h.new ob)) | none => none
def oBuild (t : TypeId) (ps : Array (Nat × Operand)) : HD := fun e tm h => match e.under t, zeroOf e t, evParts tm ps.toList with
    | some (.struct fs), some z, some vs => bif closedV z && allSized e fs.toList then (match fillL (place e fs.toList) (vcells z) vs with | some cs => some (.val (.agg ⟨cs⟩) h) | none => none) else none
    | some (.array _ el), some z, some vs => (match sizeOf e el with
      | some n => bif closedV z then (match fillL (fun i => some (i * n, n)) (vcells z) vs with | some cs => some (.val (.agg ⟨cs⟩) h) | none => none) else none
      | none => none)
    | _, _, _ => none
def kLoad (e : E) (h : H) (t : TypeId) (v : Value) : Option R := match v with | .pointer (some p) => ret h (loadVar e h t p.block p.off) | _ => none
def oLoad (t : TypeId) (a : Operand) : HD := fun e tm h => bind1 (ev tm a) (kLoad e h t)
def kStore (e : E) (h : H) (t : TypeId) (p v : Value) : Option R := match p with
    | .pointer (some p) => (match storeVar e h t p.block p.off v with | some h' => some (.skip h') | none => none)
    | _ => none
def oStore (t : TypeId) (a x : Operand) : HD := fun e tm h => bind1 (ev tm a) fun p => bind1 (ev tm x) fun v => kStore e h t p v
def kNil (e : E) (h : H) (v : Value) : Option R := match v with
    | .pointer none | .nilIface | .nilFunc => some (.panic (nilDeref e) h)
    | .func (.method name) first cap => (match first.toList with
      | .iface t w :: _ => bif aheadOk e t w name then some (.val (.func (.method name) first cap) h) else none
      | _ => none)
    | v => some (.val v h)
def oNil (x : Operand) : HD := fun e tm h => bind1 (ev tm x) (kNil e h)
def oBin (op : BinOp) (t : TypeId) (x y : Operand) (_ : TypeId) : HD := fun e tm h => bind1 (ev tm x) fun a => bind1 (ev tm y) fun b => ret h (xbin e op t x y a b)
def oUn (op : UnOp) (_ : TypeId) (x : Operand) : HD := fun _ tm h => bind1 (ev tm x) fun v => (match op, v with
    | .not, .bool b => some (.val (.bool (!b)) h)
    | .neg, .int k n => some (.val (.int k (fit k (0 - n))) h)
    | _, _ => none)
def oConv (s d : TypeId) (x : Operand) : HD := fun e tm h => bind1 (ev tm x) fun v => xconv e h s d v
def oMkI (t : TypeId) (x : Operand) : HD := fun e tm h => match e.under t with
    | some (.interface _) => none
    | some _ => SX.bind1 (ev tm x) fun v => some (.val (.iface t v) h)
    | none => none
def oMkF (fn : Fn) (first captured : Array Operand) : HD := fun _ tm h => bif plainFn fn then (match evs tm first.toList, evs tm captured.toList with
    | some a, some b => some (.val (.func fn ⟨a⟩ ⟨b⟩) h)
    | _, _ => none) else none
def oev (tm : Look) : Option Operand → Option (Option Value)
  | none => some none
  | some x => (match ev tm x with | some v => some (some v) | none => none)
def oSlice (t : TypeId) (x : Operand) (lo hi mx : Option Operand) : HD := fun e tm h => SX.bind1 (ev tm x) fun v => (match oev tm lo, oev tm hi, oev tm mx with
    | some a, some b, some c => SX.ret h (xslice e h t v a b c)
    | _, _, _ => none)
def kField (h : H) (off : Nat) (v : Value) : Option R := match v with | .pointer (some p) => some (.val (.pointer (some ⟨p.block, p.off + off, none⟩)) h) | _ => none
def oField (s : TypeId) (x : Operand) (f : Nat) : HD := fun e tm h => match e.under s with
    | some (.struct fs) => (match SX.lget fs.toList f with
      | some fd => (match sizeOf e fd.type with
        | some (Nat.succ _) => bind1 (ev tm x) (kField h fd.offset)
        | _ => none)
      | none => none)
    | _ => none
def kIdxA (e : E) (h : H) (t : TypeId) (v k : Value) : Option R := match e.under t, v, nat? k with
    | some (.array n el), .pointer (some p), some j => (match sizeOf e el with
      | some z => bif Nat.blt j n then some (.val (.pointer (some ⟨p.block, p.off + j * z, none⟩)) h) else none
      | none => none)
    | some (.slice el), .slice (some p) n _, some j => (match sizeOf e el with
      | some z => bif Nat.blt j n then some (.val (.pointer (some ⟨p.block, p.off + j * z, none⟩)) h) else none
      | none => none)
    | _, _, _ => none
def oIdxA (t : TypeId) (x i : Operand) : HD := fun e tm h => bind1 (ev tm x) fun v => bind1 (ev tm i) fun k => kIdxA e h t v k
def kIdx (e : E) (h : H) (t : TypeId) (v k : Value) : Option R := match e.under t, v, nat? k with
    | some (.array n el), .agg cs, some j => (match sizeOf e el with
      | some z => bif Nat.blt j n then SX.ret h (partOf e el cs.toList (j * z)) else none
      | none => none)
    | some .string, .string s, some j => (match lget s.data.toList j with | some b => some (.val (byteVal b) h) | none => none)
    | _, _, _ => none
def oIdx (t : TypeId) (x i : Operand) : HD := fun e tm h => bind1 (ev tm x) fun v => bind1 (ev tm i) fun k => kIdx e h t v k
def oExt (x : Operand) (i : Nat) : HD := fun _ tm h => bind1 (ev tm x) fun | .tuple vs => SX.ret h (lget vs.toList i) | _ => none
def oCall (c : Call) : HD := fun e tm h => match c.callee with
    | .builtin b => (match evs tm c.args.toList with | some args => xbuiltin e h b c.argTypes.toList args | none => none)
    | .invoke recv name => (match ev tm recv, evs tm c.args.toList with | some r, some args => callM e h r name args | _, _ => none)
    | .value f => (match ev tm f, evs tm c.args.toList with
      | some (.func fn first captured), some args => invokeA e h fn captured.toList (lapp first.toList args)
      | some .nilFunc, some _ => some (.panic (nilDeref e) h)
      | _, _ => none)
def xop (e : E) (lk : Look) (tm : T Value) (h : H) (o : Oper) : Option R :=
  Op.casesOn (motive := fun _ => Oper → T Value → HD) o.op
    (fun x _ _ => oMove x) (fun x _ _ => oMove x) (fun c a b _ _ => oPick c a b) (fun el _ _ => oFresh (.alloc el)) (fun el v _ _ => oFresh (.box el v)) (fun t ps _ _ => oBuild t ps)
    (fun t l ps _ _ => oFresh (.buildSlice t l ps)) (fun _ _ _ _ o tm e _ h => SX.xop e tm h o) (fun t a _ _ => oLoad t a) (fun t a x _ _ => oStore t a x)
    (fun _ o tm e _ h => SX.xop e tm h o) (fun _ o tm e _ h => SX.xop e tm h o) (fun x _ _ => oNil x) (fun op t x y u _ _ => oBin op t x y u) (fun op t x _ _ => oUn op t x) (fun s d x _ _ => oConv s d x)
    (fun _ _ o tm e _ h => SX.xop e tm h o) (fun t x _ _ => oMkI t x) (fun fn a b _ _ => oMkF fn a b) (fun t r _ _ => oFresh (.makeMap t r)) (fun _ _ o tm e _ h => SX.xop e tm h o)
    (fun t l c _ _ => oFresh (.makeSlice t l c)) (fun t x l h m _ _ => oSlice t x l h m) (fun s x f _ _ => oField s x f) (fun _ _ _ o tm e _ h => SX.xop e tm h o) (fun t x i _ _ => oIdxA t x i) (fun t x i _ _ => oIdx t x i)
    (fun _ _ _ _ o tm e _ h => SX.xop e tm h o) (fun _ _ _ _ o tm e _ h => SX.xop e tm h o) (fun _ _ _ o tm e _ h => SX.xop e tm h o) (fun _ _ _ _ o tm e _ h => SX.xop e tm h o) (fun _ _ o tm e _ h => SX.xop e tm h o)
    (fun _ _ o tm e _ h => SX.xop e tm h o) (fun _ o tm e _ h => SX.xop e tm h o) (fun _ _ _ _ o tm e _ h => SX.xop e tm h o) (fun x i _ _ => oExt x i) (fun c _ _ => oCall c)
    (fun _ o tm e _ h => SX.xop e tm h o) (fun _ o tm e _ h => SX.xop e tm h o) (fun _ o tm e _ h => SX.xop e tm h o) (fun _ _ o tm e _ h => SX.xop e tm h o) (fun _ _ _ o tm e _ h => SX.xop e tm h o) (fun _ _ o tm e _ h => SX.xop e tm h o)
    o tm e lk h
theorem bind1_eq : bind1 = SX.bind1 := by funext x f; cases x <;> rfl
theorem ret_eq : ret = SX.ret := by funext h x; cases x <;> rfl
theorem bb_eq {α : Type} (c : Bool) (x y : α) : bb c x y = bif c then x else y := by cases c <;> rfl
theorem oev_eq (tm : T Value) : oev tm.get = SX.oev tm := by funext x; cases x <;> simp only [oev, SX.oev, ev_eq] <;> rfl
theorem xop_eq (e : E) (tm : T Value) (h : H) (o : Oper) : xop e tm.get tm h o = SX.xop e tm h o := by
  obtain ⟨dst, op, ty, pos, after, guard⟩ := o
  unfold xop
  cases op <;> simp only [oMove, oPick, oFresh, oBuild, oLoad, oStore, kStore, oNil, oBin, oUn, oConv, oMkI, oMkF, oSlice, oField, oIdxA, kIdxA, oIdx, kIdx, oExt, oCall, ev_eq, evs_eq, evParts_eq, xfresh_eq, oev_eq, bind1_eq, ret_eq, bb_eq, lget_eq]
  all_goals first
    | rfl
    | (unfold SX.xop; rfl)
    | (simp only [SX.xop, SX.bind2, SX.bind1]; rfl)
    | (simp only [SX.xop]
       rename_i t a
       cases SX.ev tm a with
       | none => rfl
       | some v => cases v <;> first | rfl | (rename_i p; cases p <;> simp only [SX.bind1, kLoad, loadVar_eq, ret_eq]))
end
end Go.SX.F
namespace Go.SX.F
noncomputable section
/-! ### regions of open order -/
def tbit (m i : Nat) : Bool := Nat.beq (Nat.land (Nat.shiftRight m i) (nat_lit 1)) (nat_lit 1)
theorem tbit_eq : tbit = Nat.testBit := by
  funext m i
  have h : Nat.land (Nat.shiftRight m i) 1 = (m >>> i) % 2 := by
    show (m >>> i) &&& 1 = _
    rw [Nat.and_one_is_mod]
  unfold tbit
  rw [h, Nat.testBit_eq_decide_div_mod_eq, Nat.shiftRight_eq_div_pow]
  cases q : Nat.beq (m / 2 ^ i % 2) 1 with
  | true => have := Nat.eq_of_beq_eq_true q; simp [this]
  | false =>
    have : ¬ (m / 2 ^ i % 2 = 1) := by intro w; rw [w] at q; cases q
    simp [this]
def dstIdx (t : Tmp) : List Oper → Nat → Option Nat := List.rec (motive := fun _ => Nat → Option Nat) (fun _ => none)
  (fun o _ ih i => Option.rec (motive := fun _ => Option Nat) (ih (Nat.succ i)) (fun d => bb (Nat.beq d t) (some i) (ih (Nat.succ i))) o.dst)
def slook (bs : List Nat) (vals : T Value) (me m : Nat) (arr : List Oper) (tm0 : T Value) : Look := fun t =>
  Option.rec (motive := fun _ => Option Value) (tget tm0 t) (fun j => bb (tbit m j) (tget vals j) (bb (Nat.beq j me) (tget tm0 t) (bb (tbit (maskAt bs j) me) (tget tm0 t) none))) (dstIdx t arr 0)
def seenOk (vals : T Value) (m : Nat) : List Oper → Nat → Bool := List.rec (motive := fun _ => Nat → Bool) (fun _ => true)
  (fun _ _ ih i => bb (tbit m i) (Option.rec (motive := fun _ => Bool) false (fun _ => ih (Nat.succ i)) (tget vals i)) (ih (Nat.succ i)))
theorem dstIdx_cons (t : Tmp) (o : Oper) (arr : List Oper) (i : Nat) : dstIdx t (o :: arr) i = match o.dst with | some d => (bif Nat.beq d t then some i else dstIdx t arr (i + 1)) | none => dstIdx t arr (i + 1) := by
  have h : dstIdx t (o :: arr) i = Option.rec (motive := fun _ => Option Nat) (dstIdx t arr (i + 1)) (fun d => bb (Nat.beq d t) (some i) (dstIdx t arr (i + 1))) o.dst := rfl
  rw [h]
  cases o.dst with
  | none => rfl
  | some d => simp only [bb_eq]
theorem dstIdx_le {t : Tmp} : ∀ {arr : List Oper} {i j : Nat}, dstIdx t arr i = some j → i ≤ j := by
  intro arr
  induction arr with
  | nil => intro i j h; cases h
  | cons o arr ih =>
    intro i j h
    rw [dstIdx_cons] at h
    cases hd : o.dst with
    | none => rw [hd] at h; have := ih h; omega
    | some d =>
      rw [hd] at h
      simp only at h
      cases hq : Nat.beq d t with
      | true => rw [hq] at h; cases h; exact Nat.le_refl _
      | false => rw [hq, cond_false] at h; have := ih h; omega
theorem dstIdx_none {t : Tmp} : ∀ {arr : List Oper} {i : Nat}, noWriter t arr = true → dstIdx t arr i = none := by
  intro arr
  induction arr with
  | nil => intro i _; rfl
  | cons o arr ih =>
    intro i h
    simp only [noWriter, Bool.and_eq_true] at h
    rw [dstIdx_cons]
    cases hd : o.dst with
    | none => exact ih h.2
    | some d =>
      rw [hd] at h
      simp only at h
      have : Nat.beq d t = false := by
        cases q : Nat.beq d t with
        | false => rfl
        | true => have := Nat.eq_of_beq_eq_true q; subst this; rw [beqT] at h; simp at h
      simp only [this, cond_false]; exact ih h.2
theorem seen_slook {bs : List Nat} {vals : T Value} {me m : Nat} : ∀ {arr : List Oper} {i : Nat} {tm : T Value}, uniqueOk arr = true → seenOk vals m arr i = true →
    ∃ tm', SX.seen bs vals me m arr i tm = some tm' ∧ ∀ t, tm'.get t = match dstIdx t arr i with
      | none => tm.get t
      | some j => bif Nat.testBit m j then vals.get j else bif Nat.beq j me || Nat.testBit (maskAt bs j) me then tm.get t else none := by
  intro arr
  induction arr with
  | nil => intro i tm _ _; exact ⟨tm, rfl, fun t => rfl⟩
  | cons o arr ih =>
    intro i tm hu hs
    simp only [uniqueOk, Bool.and_eq_true] at hu
    have hs' : bb (tbit m i) (Option.rec (motive := fun _ => Bool) false (fun _ => seenOk vals m arr (i + 1)) (tget vals i)) (seenOk vals m arr (i + 1)) = true := hs
    rw [bb_eq, tbit_eq, tget_eq] at hs'
    simp only [SX.seen]
    -- what a later table says of this operation's own temporary
    have own : ∀ {tm1 tm' : T Value} {d : Tmp}, o.dst = some d → (∀ t, tm'.get t = match dstIdx t arr (i + 1) with
      | none => tm1.get t
      | some j => bif Nat.testBit m j then vals.get j else bif Nat.beq j me || Nat.testBit (maskAt bs j) me then tm1.get t else none) → tm'.get d = tm1.get d := by
      intro tm1 tm' d hd h
      rw [h, dstIdx_none]
      have := hu.1; rw [hd] at this; exact this
    cases hb : Nat.testBit m i with
    | true =>
      rw [hb, cond_true] at hs'
      cases hv : vals.get i with
      | none => rw [hv] at hs'; cases hs'
      | some v =>
        rw [hv] at hs'
        obtain ⟨tm', h1, h2⟩ := ih (i := i + 1) (tm := SX.putD tm o.dst v) hu.2 hs'
        refine ⟨tm', by rw [cond_true]; exact h1, fun t => ?_⟩
        rw [dstIdx_cons]
        cases hd : o.dst with
        | none => rw [h2, hd]; rfl
        | some d =>
          simp only
          by_cases hq : d = t
          · subst hq
            rw [beqT, cond_true]
            rw [own hd h2, hd]
            simp only [SX.putD, T.get_set, if_true, hb, cond_true, hv]
          · rw [beqF hq, cond_false, h2, hd]
            have : (SX.putD tm (some d) v).get t = tm.get t := by simp only [SX.putD, T.get_set]; rw [if_neg (fun w => hq w.symm)]
            rw [this]
    | false =>
      rw [hb, cond_false] at hs'
      rw [cond_false]
      cases hc : (Nat.beq i me || Nat.testBit (maskAt bs i) me) with
      | true =>
        obtain ⟨tm', h1, h2⟩ := ih (i := i + 1) (tm := tm) hu.2 hs'
        refine ⟨tm', by rw [cond_true]; exact h1, fun t => ?_⟩
        rw [dstIdx_cons]
        cases hd : o.dst with
        | none => rw [h2]
        | some d =>
          simp only
          by_cases hq : d = t
          · subst hq
            rw [beqT, cond_true, own hd h2]
            simp only [hb, cond_false, hc, cond_true]
          · rw [beqF hq, cond_false, h2]
      | false =>
        rw [cond_false]
        cases hd : o.dst with
        | none =>
          obtain ⟨tm', h1, h2⟩ := ih (i := i + 1) (tm := tm) hu.2 hs'
          exact ⟨tm', h1, fun t => by rw [dstIdx_cons, hd, h2]⟩
        | some d =>
          obtain ⟨tm', h1, h2⟩ := ih (i := i + 1) (tm := tm.del d) hu.2 hs'
          refine ⟨tm', h1, fun t => ?_⟩
          rw [dstIdx_cons, hd]
          simp only
          by_cases hq : d = t
          · subst hq
            rw [beqT, cond_true, own hd h2]
            simp only [hb, cond_false, hc, T.get_del, if_true]
          · rw [beqF hq, cond_false, h2]
            have : (tm.del d).get t = tm.get t := by rw [T.get_del, if_neg (fun w => hq w.symm)]
            rw [this]
/-! the operations that come at a stage -/
def cands (bs : List Nat) (ef : List (Nat × Oper)) (k : Nat) : List Oper → Nat → List (Nat × Oper) := List.rec (motive := fun _ => Nat → List (Nat × Oper)) (fun _ => [])
  (fun o _ ih i => bb (eagerOp o.op && mayAt bs (maskAt bs i) i k ef) ((i, o) :: ih (Nat.succ i)) (ih (Nat.succ i)))
def slow2 (bs : List Nat) (vals : T Value) (i m : Nat) (arr : List Oper) (tm0 : T Value) : T Value := (SX.seen bs vals i m arr 0 tm0).getD .nil
def stA1 (e : E) (arr : List Oper) (bs : List Nat) (tm0 : T Value) (ih : T Value → H → Option (T Value × H)) (i m : Nat) (o : Oper) (vals : T Value) (h : H) : Option (T Value × H) :=
  match SX.wantedV arr vals m o.guard with
  | some true => bb (seenOk vals m arr 0)
      (bb (freshOp o.op) (match xfresh e (slook bs vals i m arr tm0) o.op with
        | some (ob, mk) => ih (tset vals i (mk.at h.n)) (h.new ob)
        | none => none)
      (match xop e (slook bs vals i m arr tm0) (slow2 bs vals i m arr tm0) h o with
        | some (.val v _) => ih (tset vals i v) h
        | _ => none)) none
  | some false => ih (tset vals i undefV) h
  | none => none
def stA (e : E) (arr : List Oper) (bs : List Nat) (tm0 : T Value) (l : List (Nat × Oper)) : T Value → H → Option (T Value × H) := List.rec (motive := fun _ => T Value → H → Option (T Value × H)) (fun vals h => some (vals, h))
  (fun p _ ih vals h => Option.rec (motive := fun _ => Option (T Value × H)) (stA1 e arr bs tm0 ih p.1 (maskAt bs p.1) p.2 vals h) (fun _ => ih vals h) (tget vals p.1)) l
def again (e : E) (lk : Look) (tm : T Value) (h : H) (o : Oper) (v : Value) : Bool :=
  bif freshOp o.op then
    (match xfresh e lk o.op, idOf v with
    | some (ob, mk), some r => veq (mk.at r) v && (match h.obj r with | some ob' => oeq ob ob' | none => false)
    | _, _ => false)
  else
    (match xop e lk tm h o with
    | some (.val v' _) => veq v' v && (match v' with | .slice (some a) _ _ => Nat.blt a.block h.n | _ => true)
    | _ => false)
theorem again_eq (e : E) (tm : T Value) (h : H) (o : Oper) (v : Value) : again e tm.get tm h o v = SX.again e tm h o v := by
  unfold again SX.again
  rw [xfresh_eq, xop_eq]
  rfl
def stB1 (e : E) (arr : List Oper) (bs : List Nat) (tm0 : T Value) (i m : Nat) (o : Oper) (vals : T Value) (h : H) : Bool :=
  match SX.wantedV arr vals m o.guard with
  | some true => bb (seenOk vals m arr 0) (match tget vals i with | some v => again e (slook bs vals i m arr tm0) (slow2 bs vals i m arr tm0) h o v | none => false) false
  | some false => (match tget vals i with | some v => veq v undefV | none => false)
  | none => false
def stB (e : E) (arr : List Oper) (bs : List Nat) (tm0 : T Value) (vals : T Value) (h : H) (l : List (Nat × Oper)) : Bool := List.rec (motive := fun _ => Bool) true
  (fun p _ ih => bb (stB1 e arr bs tm0 p.1 (maskAt bs p.1) p.2 vals h) ih false) l
theorem seen_look {bs : List Nat} {vals : T Value} {me m : Nat} {arr : List Oper} {tm0 : T Value} (hu : uniqueOk arr = true) (hs : seenOk vals m arr 0 = true) :
    ∃ tm', SX.seen bs vals me m arr 0 tm0 = some tm' ∧ slook bs vals me m arr tm0 = tm'.get ∧ slow2 bs vals me m arr tm0 = tm' := by
  obtain ⟨tm', h1, h2⟩ := seen_slook (bs := bs) (me := me) (tm := tm0) hu hs
  refine ⟨tm', h1, ?_, by simp [slow2, h1]⟩
  funext t
  rw [h2]
  unfold slook
  rw [tget_eq, tbit_eq]
  cases dstIdx t arr 0 with
  | none => rfl
  | some j =>
    simp only [bb_eq]
    cases Nat.testBit m j <;> cases Nat.beq j me <;> cases Nat.testBit (maskAt bs j) me <;> rfl
theorem seenOk_none {bs : List Nat} {vals : T Value} {me m : Nat} : ∀ {arr : List Oper} {i : Nat} {tm : T Value}, seenOk vals m arr i = false → SX.seen bs vals me m arr i tm = none := by
  intro arr
  induction arr with
  | nil => intro i tm h; cases h
  | cons o arr ih =>
    intro i tm hs
    have hs' : bb (tbit m i) (Option.rec (motive := fun _ => Bool) false (fun _ => seenOk vals m arr (i + 1)) (tget vals i)) (seenOk vals m arr (i + 1)) = false := hs
    rw [bb_eq, tbit_eq, tget_eq] at hs'
    simp only [SX.seen]
    cases hb : Nat.testBit m i with
    | true =>
      rw [hb, cond_true] at hs'
      rw [cond_true]
      cases hv : vals.get i with
      | none => rfl
      | some v => rw [hv] at hs'; exact ih hs'
    | false =>
      rw [hb, cond_false] at hs'
      rw [cond_false]
      cases (Nat.beq i me || Nat.testBit (maskAt bs i) me) with
      | true => exact ih hs'
      | false => exact ih hs'
theorem stA_eq {e : E} {arr : List Oper} {bs : List Nat} {ef : List (Nat × Oper)} {k : Nat} {tm0 : T Value} (hu : uniqueOk arr = true) :
    ∀ (l : List Oper) (i : Nat) (vals : T Value) (h : H), SX.stageA e arr bs ef k tm0 l i vals h = stA e arr bs tm0 (cands bs ef k l i) vals h := by
  intro l
  induction l with
  | nil => intros; rfl
  | cons o l ih =>
    intro i vals h
    have hc : cands bs ef k (o :: l) i = bb (eagerOp o.op && mayAt bs (maskAt bs i) i k ef) ((i, o) :: cands bs ef k l (i + 1)) (cands bs ef k l (i + 1)) := rfl
    simp only [SX.stageA, ih]
    rw [hc]
    cases h1 : eagerOp o.op with
    | false => simp only [Bool.false_and, cond_false, bb_eq]
    | true =>
      cases h2 : mayAt bs (maskAt bs i) i k ef with
      | false => simp only [Bool.and_false, cond_false, bb_eq]
      | true =>
        simp only [Bool.and_true, Bool.true_and, bb_eq, cond_true]
        have hst : stA e arr bs tm0 ((i, o) :: cands bs ef k l (i + 1)) vals h = Option.rec (motive := fun _ => Option (T Value × H)) (stA1 e arr bs tm0 (stA e arr bs tm0 (cands bs ef k l (i + 1))) i (maskAt bs i) o vals h) (fun _ => stA e arr bs tm0 (cands bs ef k l (i + 1)) vals h) (tget vals i) := rfl
        rw [hst, tget_eq]
        cases hv : vals.get i with
        | some v => rfl
        | none =>
          simp only [Option.isNone_none, cond_true]
          unfold stA1
          cases SX.wantedV arr vals (maskAt bs i) o.guard with
          | none => rfl
          | some b =>
            cases b with
            | false => simp only [tset_eq]
            | true =>
              simp only
              cases hs : seenOk vals (maskAt bs i) arr 0 with
              | false => rw [seenOk_none hs]; simp only [bb_eq, cond_false]
              | true =>
                obtain ⟨tm', q1, q2, q3⟩ := seen_look (bs := bs) (me := i) (tm0 := tm0) hu hs
                rw [q1, q2, q3]
                simp only [bb_eq, cond_true, xfresh_eq, xop_eq, tset_eq]
                rfl
theorem stB_eq {e : E} {arr : List Oper} {bs : List Nat} {ef : List (Nat × Oper)} {k : Nat} {tm0 : T Value} {vals : T Value} {h : H} (hu : uniqueOk arr = true) :
    ∀ (l : List Oper) (i : Nat), SX.stageB e arr bs ef k tm0 vals h l i = stB e arr bs tm0 vals h (cands bs ef k l i) := by
  intro l
  induction l with
  | nil => intros; rfl
  | cons o l ih =>
    intro i
    have hc : cands bs ef k (o :: l) i = bb (eagerOp o.op && mayAt bs (maskAt bs i) i k ef) ((i, o) :: cands bs ef k l (i + 1)) (cands bs ef k l (i + 1)) := rfl
    simp only [SX.stageB, ih]
    rw [hc]
    cases h1 : eagerOp o.op && mayAt bs (maskAt bs i) i k ef with
    | false => simp only [bb_eq, cond_false, Bool.true_and]
    | true =>
      simp only [bb_eq, cond_true]
      have hst : stB e arr bs tm0 vals h ((i, o) :: cands bs ef k l (i + 1)) = bb (stB1 e arr bs tm0 i (maskAt bs i) o vals h) (stB e arr bs tm0 vals h (cands bs ef k l (i + 1))) false := rfl
      rw [hst, bb_eq]
      have : (match SX.wantedV arr vals (maskAt bs i) o.guard with
        | some true => (match SX.seen bs vals i (maskAt bs i) arr 0 tm0, vals.get i with
          | some tm, some v => SX.again e tm h o v
          | _, _ => false)
        | some false => (match vals.get i with | some v => veq v undefV | none => false)
        | none => false) = stB1 e arr bs tm0 i (maskAt bs i) o vals h := by
        unfold stB1
        cases SX.wantedV arr vals (maskAt bs i) o.guard with
        | none => rfl
        | some b =>
          cases b with
          | false => simp only [tget_eq]
          | true =>
            simp only [tget_eq]
            cases hs : seenOk vals (maskAt bs i) arr 0 with
            | false => rw [seenOk_none hs]; rfl
            | true =>
              obtain ⟨tm', q1, q2, q3⟩ := seen_look (bs := bs) (me := i) (tm0 := tm0) hu hs
              rw [q1, q2, q3]
              simp only [bb_eq, cond_true, again_eq]
              cases vals.get i <;> rfl
      refine (congrArg (· && stB e arr bs tm0 vals h (cands bs ef k l (i + 1))) this).trans ?_
      cases stB1 e arr bs tm0 i (maskAt bs i) o vals h <;> rfl
end
end Go.SX.F
namespace Go.SX.F
noncomputable section
/-! ### a region of fixed order -/
def wantG (arr : List Oper) (tm : T Value) (p : Nat × Bool) : Option Bool := SX.wantedA arr tm (some p)
def wanted (arr : List Oper) (tm : T Value) (g : Option (Nat × Bool)) : Option Bool := Option.rec (motive := fun _ => Option Bool) (some true) (wantG arr tm) g
theorem wanted_eq : wanted = SX.wantedA := by funext arr tm g; cases g <;> rfl
abbrev IH := E → List Oper → T Value → H → Option OR
abbrev RK := IH → Oper → List Oper → IH
def rVal (v : Value) (h' : H) : RK := fun ih o _ e arr tm _ => ih e arr (putD tm o.dst v) h'
def rSkip (h' : H) : RK := fun ih o _ e arr tm _ => ih e arr (putD tm o.dst undefV) h'
def rStop (r : R) : RK := fun _ o rest _ _ tm h => some (.stop o rest tm h r)
def rGo (r : R) : RK := R.casesOn (motive := fun _ => RK) r rVal rSkip (fun f a => rStop (.enter f a)) (fun l a => rStop (.round l a)) (fun d => rStop (.defer d)) (rStop .recover) (fun v h => rStop (.panic v h)) (fun vs => rStop (.fork vs))
def rOp (r : Option R) : RK := Option.rec (motive := fun _ => RK) (fun _ _ _ _ _ _ _ => none) rGo r
def rW (w : Option Bool) : RK := Option.rec (motive := fun _ => RK) (fun _ _ _ _ _ _ _ => none) (fun b => Bool.rec (motive := fun _ => RK) (fun ih o _ e arr tm h => ih e arr (putD tm o.dst undefV) h) (fun ih o rest e arr tm h => rOp (xop e (tget tm) tm h o) ih o rest e arr tm h) b) w
def xops (rest : List Oper) : IH := List.rec (motive := fun _ => IH) (fun _ _ tm h => some (.done tm h)) (fun o rest ih e arr tm h => rW (wanted arr tm o.guard) ih o rest e arr tm h) rest
theorem xops_eq (rest : List Oper) : ∀ e arr tm h, xops rest e arr tm h = SX.xops e arr rest tm h := by
  induction rest with
  | nil => intros; rfl
  | cons o rest ih =>
    intro e arr tm h
    have h1 : xops (o :: rest) e arr tm h = rW (wanted arr tm o.guard) (xops rest) o rest e arr tm h := rfl
    rw [h1, wanted_eq]
    simp only [SX.xops]
    cases SX.wantedA arr tm o.guard with
    | none => rfl
    | some b =>
      cases b with
      | false => simp only [rW, ih, putD_eq]
      | true =>
        simp only [rW, tget_eq, xop_eq]
        cases SX.xop e tm h o with
        | none => rfl
        | some r => cases r <;> simp only [rOp, rGo, rVal, rSkip, rStop, ih, putD_eq]
/-! ### frames -/
abbrev Con := FuncId → List Value → Option Value
abbrev C := Con → E → Nat → Nat → T Value → List Deferred → CallKind → Option Nat → List AFr → H → Out
def mk (td : List AIt) : C := fun _ _ fn nt tm df kd rd cs h => .go ⟨⟨fn, nt, tm, td, df, .run, kd, rd⟩, cs, h⟩
def slow (td : List AIt) : C := fun _ e fn nt tm df kd rd cs h => SX.exec e ⟨fn, nt, tm, td, df, .run, kd, rd⟩ cs h
/-- a call that is known, and all else -/
def actC (con : Con) (e : E) (fr : AFr) (cs : List AFr) (h : H) (r : R) : Option AM :=
  match r with
  | .enter f args => (match con f args with
    | some v => (match SX.finish fr v with | some fr' => some ⟨fr', cs, h⟩ | none => none)
    | none => SX.act e fr cs h (.enter f args))
  | r => SX.act e fr cs h r
def kOR (arr : List Oper) (k : List AIt) (r : Option OR) : C := fun con e fn nt _ df kd rd cs _ => Option.rec (motive := fun _ => Out) (.bad 15) (fun o => OR.casesOn (motive := fun _ => Out) o
   (fun tm h' => .go ⟨⟨fn, nt, tm, k, df, .run, kd, rd⟩, cs, h'⟩)
   (fun o rest tm h' r => ofOpt (actC con e ⟨fn, nt, tm, .ops arr (o :: rest) :: k, df, .run, kd, rd⟩ cs h' r) 14)) r
def kOps (arr rest : List Oper) (k : List AIt) : C := fun con e fn nt tm df kd rd cs h => kOR arr k (xops rest e arr tm h) con e fn nt tm df kd rd cs h
def kDops2 (arr : List Oper) (n : Nat) (k : List AIt) (bs : List Nat) (tm : T Value) (vals : T Value) (h1 : H) (con : Con) (e : E) (fn nt : Nat) (df : List Deferred) (kd : CallKind) (rd : Option Nat) (cs : List AFr) : Out :=
  match SX.lget (efs arr 0) n with
  | some (i, o) => (match SX.wantedV arr vals (maskAt bs i) o.guard with
    | some true => bb (seenOk vals (maskAt bs i) arr 0) (match xop e (slook bs vals i (maskAt bs i) arr tm) (slow2 bs vals i (maskAt bs i) arr tm) h1 o with
        | some r => ofOpt (actC con e ⟨fn, nt, tm, .dops arr n vals :: k, df, .run, kd, rd⟩ cs h1 r) 16
        | none => .bad 17) (.bad 23)
    | some false => .go ⟨⟨fn, nt, tm, .dops arr (Nat.succ n) (tset vals i undefV) :: k, df, .run, kd, rd⟩, cs, h1⟩
    | none => .bad 18)
  | none => (match SX.allVals vals arr 0 tm with
    | some tm => .go ⟨⟨fn, nt, tm, k, df, .run, kd, rd⟩, cs, h1⟩
    | none => .bad 24)
def kDops (arr : List Oper) (n : Nat) (vals : T Value) (k : List AIt) : C := fun con e fn nt tm df kd rd cs h =>
  bb (uniqueOk arr) (match stA e arr (masks [] arr) tm (cands (masks [] arr) (efs arr 0) n arr 0) vals h with
    | some (vals, h1) => bb (stB e arr (masks [] arr) tm vals h1 (cands (masks [] arr) (efs arr 0) n arr 0)) (kDops2 arr n k (masks [] arr) tm vals h1 con e fn nt df kd rd cs) (.bad 25)
    | none => .bad 19) (.bad 27)
def cRegion (id : Nat) (arr : Array Oper) (draw : Bool) (k : List AIt) : C := fun con e fn nt tm df kd rd cs h =>
  bb (dstOk nt arr.toList) (bb draw (bb (dok arr.toList) (kDops arr.toList 0 .nil k con e fn nt tm df kd rd cs h) (.bad 20)) (kOps arr.toList arr.toList k con e fn nt tm df kd rd cs h)) (.bad 26)
def asBool (v : Value) : Option Bool := match v with | .bool b => some b | _ => none
def cBad (n : Nat) : C := fun _ _ _ _ _ _ _ _ _ _ => .bad n
def cSel (x y : C) (b : Bool) : C := Bool.rec (motive := fun _ => C) y x b
def cCond (v : Option Value) (x y : C) : C := Option.rec (motive := fun _ => C) (cBad 5) (fun v => Option.rec (motive := fun _ => C) (cBad 5) (cSel x y) (asBool v)) v
/-- code, as far as it only leads on -/
def code (c : Code) : List AIt → C := Code.rec (motive := fun _ => List AIt → C)
  mk
  (fun id arr draw k => cRegion id arr draw k)
  (fun _ b iha _ k => iha (.code b :: k))
  (fun c _ _ ihx ihy k con e fn nt tm df kd rd cs h => cCond (ev (tget tm) c) (ihx k) (ihy k) con e fn nt tm df kd rd cs h)
  (fun id _ ih k => ih (.inBlock id :: k))
  (fun b ih k => ih (.inLoop b :: k))
  (fun f ps as bd _ _ k => slow (.code (.rangeFunc f ps as bd) :: k))
  (fun id k => slow (.code (.exit id) :: k))
  (fun b ih k => ih (.inScope b :: k))
  (fun _ k => mk k)
  (fun l k => slow (.code (.goto l) :: k))
  (fun k => slow (.code .ret :: k))
  (fun w k => slow (.code (.refuse w) :: k)) c
def item (it : AIt) : List AIt → C := AIt.casesOn (motive := fun _ => List AIt → C) it
  code
  (fun _ k => mk k)
  (fun b k => code b (.inLoop b :: k))
  (fun _ k => mk k)
  (fun arr rest k => kOps arr rest k)
  (fun arr n vals k => kDops arr n vals k)
  (fun l k => slow (.inRangeFunc l :: k))
  (fun l k => slow (.endRangeFunc l :: k))
  (fun k => slow (.beginRound :: k))
def items (td : List AIt) : C := List.casesOn (motive := fun _ => C) td (slow []) (fun it k => item it k)
def mode (m : FrameMode) (td : List AIt) : C := FrameMode.casesOn (motive := fun _ => List AIt → C) m
  items
  (fun td _ e fn nt tm df kd rd cs h => unwindA e ⟨fn, nt, tm, td, df, .returning, kd, rd⟩ cs h)
  (fun ch td _ e fn nt tm df kd rd cs h => unwindA e ⟨fn, nt, tm, td, df, .panicking ch, kd, rd⟩ cs h) td
def step (con : Con) (e : E) (m : AM) : Out := AM.casesOn (motive := fun _ => Out) m fun fr cs h => AFr.casesOn (motive := fun _ => Out) fr fun fn nt tm td df md kd rd => mode md td con e fn nt tm df kd rd cs h
def runP (n : Nat) : Con → E → Out → Out := Nat.rec (motive := fun _ => Con → E → Out → Out)
  (fun con e o => Out.casesOn (motive := fun _ => Out) o (fun m => step con e m) (fun f v ch h => .ended f v ch h) (fun b => .bad b))
  (fun _ ih con e o => ih con e (ih con e o)) n
def noCon : Con := fun _ _ => none
end
end Go.SX.F
namespace Go.SX
open Go.RowKit
variable {e : E} {ρ ρ' : Rho} {h h' : H} {w0 w w' : World} {P : Program}
mutual
theorem closedV_eq : ∀ {v v' : Value}, VRel ρ v v' → closedV v = true → v' = v
  | _, _, .bool _, _ => rfl
  | _, _, .int _ _, _ => rfl
  | _, _, .string _, _ => rfl
  | _, _, .ptr0, _ => rfl
  | _, _, .ptr _ _, h => by simp [closedV] at h
  | _, _, .sl0 c, h => by
    rw [closedV, Bool.and_eq_true] at h
    have := Nat.eq_of_beq_eq_true h.2
    rw [this]
  | _, _, .sl _ _ _ _ _ _, h => by simp [closedV] at h
  | _, _, .map0, _ => rfl
  | _, _, .map _, h => by simp [closedV] at h
  | _, _, .func0, _ => rfl
  | _, _, .func hf ha hb, h => by
    cases hf with
    | func f =>
      simp only [closedV, closedA, Bool.and_eq_true] at h
      rw [closedL_eq ha h.1, closedL_eq hb h.2]
    | method n => simp [closedV] at h
    | methodOf t n => simp [closedV] at h
    | yield _ => simp [closedV] at h
  | _, _, .iface0, _ => rfl
  | _, _, .iface t hv, h => by rw [closedV_eq hv (by simpa [closedV] using h)]
  | _, _, .agg ha, h => by rw [closedL_eq ha (by simpa [closedV, closedA] using h)]
  | _, _, .tuple ha, h => by rw [closedL_eq ha (by simpa [closedV, closedA] using h)]
theorem closedL_eq : ∀ {a a' : List Value}, VRels ρ a a' → closedL a = true → a' = a
  | _, _, .nil, _ => rfl
  | _, _, .cons hv ht, h => by
    simp only [closedL, Bool.and_eq_true] at h
    rw [closedV_eq hv h.1, closedL_eq ht h.2]
end
theorem Inv.grown (hi : Inv ρ h w0 w) (hb : Below w.heap.size w w') : Inv ρ h w0 w' :=
  { hi with
    below := hi.below.trans (hb.mono hi.below.size)
    obj := fun r β d k a b => (hi.obj r β d k a b).move (.refl _) a (hb.block _ (hi.hi a)) }
/-- what is known of calls holds of the program -/
def ConOk (P : Program) (con : F.Con) : Prop := ∀ f args v, con f args = some v → closedL args = true ∧ closedV v = true ∧ ∀ w : World, Calls P f ⟨args⟩ w fun en w' => en = .returned v ∧ Below w.heap.size w w'
/-- a state leads where a part of the run says -/
def Snd (P : Program) (w0 : World) (base : List Frame) (x : AM) (o : Out) : Prop :=
  ∀ ρ fr cs w, MR ρ w0 x fr cs base w → (∀ m', o = .go m' → Goes P w0 m' base (lone fr cs w)) ∧ (∀ f v ch h', o = .ended f (some v) ch h' → Ends P w0 f v h' base (lone fr cs w))
variable {base : List Frame} {con : F.Con}
theorem Snd.sx (hE : EnvOk e P) (x : AM) : Snd P w0 base x (step e x) := fun _ _ _ _ hM => ⟨fun _ hx => step_sound hE hM hx, fun _ _ _ _ hx => step_ended hE hM hx⟩
theorem Snd.step (hE : EnvOk e P) {x x1 : AM} {o : Out} (h1 : SX.step e x = .go x1) (h2 : Snd P w0 base x1 o) : Snd P w0 base x o := by
  intro ρ fr cs w hM
  have hg := step_sound hE hM h1
  exact ⟨fun m' q => hg.goes fun _ _ _ _ hM2 => (h2 _ _ _ _ hM2).1 m' q, fun f v ch h' q => hg.ends fun _ _ _ _ hM2 => (h2 _ _ _ _ hM2).2 f v ch h' q⟩
theorem Snd.of_goes {x : AM} {o : Out} (h1 : ∀ m', o = .go m' → ∀ ρ fr cs w, MR ρ w0 x fr cs base w → Goes P w0 m' base (lone fr cs w)) (h2 : ∀ f v ch h', o ≠ .ended f (some v) ch h') : Snd P w0 base x o :=
  fun ρ fr cs w hM => ⟨fun m' q => h1 m' q ρ fr cs w hM, fun f v ch h' q => absurd q (h2 f v ch h')⟩
theorem Snd.go {x : AM} : Snd P w0 base x (.go x) := Snd.of_goes (fun m' q ρ fr cs w hM => by cases q; exact ⟨ρ, fr, cs, w, .refl _ _, hM⟩) (fun _ _ _ _ q => by cases q)
theorem Snd.bad {x : AM} {n : Nat} : Snd P w0 base x (.bad n) := Snd.of_goes (fun m' q => by cases q) (fun _ _ _ _ q => by cases q)
theorem ofOpt_ended {a : Option AM} {n : Nat} {f : Nat} {v : Value} {ch : List PanicEntry} : ofOpt a n ≠ .ended f (some v) ch h' := by
  intro q; cases a <;> cases q
/-- what an operation brings about, where calls are known -/
theorem actC_sound (hE : EnvOk e P) (hC : ConOk P con) {lo : Nat} {x : AFr} {xs : List AFr} {fr0 fr : Frame} {cs1 base : List Frame} {w00 : World} {s : Sem Next} {r : R} {m' : AM}
    (hg : (stepG P true { frame := fr0, callers := cs1 ++ base, status := .running, dying := none } w00).bare = (stepG.apply P true fr (cs1 ++ base) none s w).bare)
    (hs : RSound P ρ h.n w0 w (s.run P w) r) (hi : Inv ρ h w0 w) (hlo : lo ≤ h.n) (hf : FRel ρ lo h.n true x fr) (hrun : x.mode = .run) (hcs : SRel ρ lo xs cs1) (hbot : bottom x xs) (hx : F.actC con e x xs h r = some m') :
    Goes P w0 m' base (lone fr0 (cs1 ++ base) w00) := by
  have slow : ∀ {r : R}, RSound P ρ h.n w0 w (s.run P w) r → act e x xs h r = some m' → Goes P w0 m' base (lone fr0 (cs1 ++ base) w00) := by
    intro r hs hx
    obtain ⟨ρ', fr2, cs2, w', h1, h2⟩ := act_sound hE hg hs hi hlo hf hrun hcs hbot hx
    exact ⟨ρ', fr2, cs2, w', .one h1, h2⟩
  cases r with
  | enter f args =>
    simp only [F.actC] at hx
    cases hc : con f args with
    | none => rw [hc] at hx; exact slow hs hx
    | some v =>
      rw [hc] at hx
      simp only at hx
      obtain ⟨args', hr, ha⟩ := hs
      obtain ⟨ca, cv, hcall⟩ := hC f args v hc
      cases hfin : finish x v with
      | none => rw [hfin] at hx; cases hx
      | some x' =>
        rw [hfin] at hx; cases hx
        have hargs : args' = ⟨args⟩ := by
          have := closedL_eq ha ca
          cases args'; simp only at this; rw [this]
        obtain ⟨en, w', fr2, ⟨rfl, hbel⟩, hst, hfn, hlv⟩ := hcall w (fr :: (cs1 ++ base))
        rw [← hargs] at hst
        refine ⟨ρ, fr.finish v, _, w', (Steps.one (ap_enter hg (hf.run hrun).notCall hr)).trans (Steps.trans hst (.one (step_leave_returned hlv))), hi.grown hbel, ⟨lo, cs1, rfl, hlo, finish_rel hf hfin (closedV_rel ρ v cv), hcs⟩, bottom_top hbot (finish_kind hfin)⟩
  | _ => exact slow hs hx
theorem kOps_sound (hE : EnvOk e P) (hC : ConOk P con) {fn nt : Nat} {tm : T Value} {arr rest : List Oper} {k : List AIt} {df : List Deferred} {kd : CallKind} {rd : Option Nat} {xs : List AFr} :
    Snd P w0 base ⟨⟨fn, nt, tm, .ops arr rest :: k, df, .run, kd, rd⟩, xs, h⟩ (F.kOps arr rest k con e fn nt tm df kd rd xs h) := by
  have hx0 : F.kOps arr rest k con e fn nt tm df kd rd xs h = (match xops e arr rest tm h with
    | some (.done tm h') => .go ⟨⟨fn, nt, tm, k, df, .run, kd, rd⟩, xs, h'⟩
    | some (.stop o rest' tm h' r) => ofOpt (F.actC con e ⟨fn, nt, tm, .ops arr (o :: rest') :: k, df, .run, kd, rd⟩ xs h' r) 14
    | none => .bad 15) := by
    unfold F.kOps F.kOR
    rw [F.xops_eq]
    cases xops e arr rest tm h with
    | none => rfl
    | some o => cases o <;> rfl
  rw [hx0]
  refine Snd.of_goes ?_ ?_
  · intro m' hx ρ fr cs w hM
    obtain ⟨hi, ⟨lo, cs1, rfl, hlo, hf, hcs⟩, hbot⟩ := hM
    simp only at hi hlo hf hcs hbot
    have hmf : fr.mode = .run := by have := hf.mode; exact this.run_eq
    have hb := hf.run rfl
    simp only at hb
    generalize hft : fr.todo = ft at hb
    cases hb with
    | plain ht hk => cases hk with | cons ha _ => cases ha
    | @ops ops i _ k' ht hd hk =>
      cases hq : xops e ops.toList (ops.toList.drop i) tm h with
      | none => rw [hq] at hx; cases hx
      | some out =>
        rw [hq] at hx
        obtain ⟨ρ1, w1, tmps1, j, hst, hnt, hend⟩ := ops_run (cs := cs1 ++ base) hE hd _ i tm h ρ w fr out rfl hq hi ht hf.nt hmf hft
        cases out with
        | done tm1 h1 =>
          obtain ⟨hext, hi1, ht1, hj⟩ := hend
          simp only at hx
          cases hx
          have hf1 := hf.mono hext (Nat.le_refl _) hext.up
          have hj0 : ops.size - j = 0 := by omega
          refine ⟨ρ1, { fr with tmps := tmps1, todo := k' }, _, w1, hst.trans (.one (step_lone_go ?_)), hi1, ⟨lo, cs1, rfl, Nat.le_trans hlo hext.up, ?_, hcs.mono hext hlo⟩, bottom_top hbot rfl⟩
          · obtain ⟨fn', tmps', todo', defers', mode', kind', round'⟩ := fr
            simp only at hmf
            subst hmf
            rw [hj0]
            simp [stepG, stepG.exec]
          · exact { hf1 with nt := hnt, run := fun _ => .plain ht1 (hk.mono hext.le), off := fun q => absurd rfl q }
        | stop o rest' tm1 h1 r =>
          obtain ⟨hext, hi1, ht1, hdr, hwr, hxo⟩ := hend
          simp only at hx
          cases ha : F.actC con e ⟨fn, nt, tm1, .ops ops.toList (o :: rest') :: k, df, .run, kd, rd⟩ xs h1 r with
          | none => rw [ha] at hx; cases hx
          | some m1 =>
            rw [ha] at hx; cases hx
            have hf1 := hf.mono hext (Nat.le_refl _) hext.up
            obtain ⟨q1, q2, q3⟩ := drop_cons hdr
            have q3' : j < ops.size := by simpa using q3
            have ho : ops[j]? = some o := by rw [← arr_get]; exact q1
            have hf2 : FRel ρ1 lo h1.n true ⟨fn, nt, tm1, .ops ops.toList (o :: rest') :: k, df, .run, kd, rd⟩ { fr with tmps := tmps1, todo := .inRegion ops (List.range' j (ops.size - j)) :: k' } :=
              { hf1 with nt := hnt, run := (fun _ => by rw [hdr]; exact .ops ht1 hd (hk.mono hext.le)), off := fun q => absurd rfl q }
            have hs := xop_sound (P := P) (a := ⟨tmps1, fr.defers⟩) hE hi1 ht1 hxo
            have hdf : fr.roundOf = none ∨ ∀ c, o.op ≠ .defer c := by
              cases r with
              | defer d => exact defer_round (h' := h1) (xs := xs) (m1 := m') (y := ⟨fn, nt, tm1, .ops ops.toList (o :: rest') :: k, df, .run, kd, rd⟩) hf.round hxo ha
              | _ =>
                right; intro c hc
                unfold xop at hxo; rw [hc] at hxo; simp only at hxo
                split at hxo <;> cases hxo
            have hg := stepG_oper (P := P) (w := w1) (cs := cs1 ++ base) (fr := { fr with tmps := tmps1, todo := .inRegion ops (List.range' j (ops.size - j)) :: k' }) (K := k') hmf (by rw [range'_cons q3']) ho hwr hdf
            rw [eval_act] at hg
            exact (actC_sound (x := ⟨fn, nt, tm1, .ops ops.toList (o :: rest') :: k, df, .run, kd, rd⟩) hE hC (by rw [hg]) hs hi1 (Nat.le_trans hlo hext.up) hf2 rfl (hcs.mono hext hlo) (bottom_top hbot rfl) ha).steps hst
  · intro f v ch h'
    split
    · intro q; cases q
    · exact ofOpt_ended
    · intro q; cases q
theorem kDops_eq {fn nt n : Nat} {tm vals : T Value} {arr : List Oper} {k : List AIt} {df : List Deferred} {kd : CallKind} {rd : Option Nat} {xs : List AFr} (hu : uniqueOk arr = true) :
    F.kDops arr n vals k con e fn nt tm df kd rd xs h = (match stageA e arr (masks [] arr) (efs arr 0) n tm arr 0 vals h with
    | some (vals, h1) => bif stageB e arr (masks [] arr) (efs arr 0) n tm vals h1 arr 0 then
        (match lget (efs arr 0) n with
        | some (i, o) =>
          (match wantedV arr vals (maskAt (masks [] arr) i) o.guard with
          | some true => (match seen (masks [] arr) vals i (maskAt (masks [] arr) i) arr 0 tm with
            | some tm1 => (match xop e tm1 h1 o with
              | some r => ofOpt (F.actC con e ⟨fn, nt, tm, .dops arr n vals :: k, df, .run, kd, rd⟩ xs h1 r) 16
              | none => .bad 17)
            | none => .bad 23)
          | some false => .go ⟨⟨fn, nt, tm, .dops arr (n + 1) (vals.set i undefV) :: k, df, .run, kd, rd⟩, xs, h1⟩
          | none => .bad 18)
        | none => (match allVals vals arr 0 tm with
          | some tm => .go ⟨⟨fn, nt, tm, k, df, .run, kd, rd⟩, xs, h1⟩
          | none => .bad 24)) else .bad 25
    | none => .bad 19) := by
  unfold F.kDops
  rw [hu, F.bb_eq, cond_true, ← F.stA_eq (k := n) hu arr 0 vals h]
  cases stageA e arr (masks [] arr) (efs arr 0) n tm arr 0 vals h with
  | none => rfl
  | some p =>
    obtain ⟨vals1, h1⟩ := p
    simp only
    rw [← F.stB_eq (k := n) hu arr 0, F.bb_eq]
    cases stageB e arr (masks [] arr) (efs arr 0) n tm vals1 h1 arr 0 with
    | false => rfl
    | true =>
      rw [cond_true, cond_true]
      unfold F.kDops2
      cases lget (efs arr 0) n with
      | none => rfl
      | some p =>
        obtain ⟨i, o⟩ := p
        simp only
        cases wantedV arr vals1 (maskAt (masks [] arr) i) o.guard with
        | none => rfl
        | some b =>
          cases b with
          | false => simp only [F.tset_eq]
          | true =>
            simp only
            cases hs : F.seenOk vals1 (maskAt (masks [] arr) i) arr 0 with
            | false => rw [F.seenOk_none hs]; rfl
            | true =>
              obtain ⟨tm', q1, q2, q3⟩ := F.seen_look (bs := masks [] arr) (me := i) (tm0 := tm) hu hs
              rw [q1, q2, q3, F.bb_eq, cond_true]
              simp only [F.xop_eq]
              try rfl
theorem kDops_sound (hE : EnvOk e P) (hC : ConOk P con) {fn nt n : Nat} {tm vals : T Value} {arr : List Oper} {k : List AIt} {df : List Deferred} {kd : CallKind} {rd : Option Nat} {xs : List AFr} :
    Snd P w0 base ⟨⟨fn, nt, tm, .dops arr n vals :: k, df, .run, kd, rd⟩, xs, h⟩ (F.kDops arr n vals k con e fn nt tm df kd rd xs h) := by
  cases hu : uniqueOk arr with
  | false =>
    have : F.kDops arr n vals k con e fn nt tm df kd rd xs h = .bad 27 := by unfold F.kDops; rw [hu]; rfl
    rw [this]; exact Snd.bad
  | true =>
  rw [kDops_eq hu]
  refine Snd.of_goes ?_ ?_
  · intro m' hx ρ fr cs w hM
    obtain ⟨hi, ⟨lo, cs1, rfl, hlo, hf, hcs⟩, hbot⟩ := hM
    simp only at hi hlo hf hcs hbot
    have hmf : fr.mode = .run := by have := hf.mode; exact this.run_eq
    have hb := hf.run rfl
    simp only at hb
    generalize hft : fr.todo = ft at hb
    cases hb with
    | plain ht hk => cases hk with | cons ha _ => cases ha
    | @dops ops n fuel t vals L todo _ k' hD hfu htd _ hk =>
    subst htd
    cases hA : stageA e ops.toList (masks [] ops.toList) (efs ops.toList 0) n tm ops.toList 0 vals h with
    | none => rw [hA] at hx; cases hx
    | some p =>
      obtain ⟨vals1, h1⟩ := p
      rw [hA] at hx
      simp only at hx
      cases hB : stageB e ops.toList (masks [] ops.toList) (efs ops.toList 0) n tm vals1 h1 ops.toList 0 with
      | false => rw [hB] at hx; cases hx
      | true =>
        rw [hB, cond_true] at hx
        obtain ⟨hi1, hup, hD1⟩ := stageA_sound (w := w) (l := ops.toList) (k := 0) (by simp) hA hi hlo hD
        obtain ⟨ρ2, w2, tmps2, todo2, L2, hst, hext, hi2, hnt2, hD2, ⟨f0, t0, hgo, hl0⟩, hor⟩ := drain (P := P) (cs := cs1 ++ base) (K := k') hE (Nat.le_refl h1.n) (Nat.le_trans hlo hup) hB fuel t L ρ w fr hi1 hD1 hfu hf.nt hmf hft
        have hsz2 := hD2.size
        have hcs2 : SRel ρ2 lo xs cs1 := hcs.mono hext (Nat.le_refl _)
        have hlo1 := Nat.le_trans hlo hup
        have hfr : ∀ {c : Bool}, (c = true → ∃ i o rest, (efs ops.toList 0)[n]? = some (i, o) ∧ todo2 = i :: rest) →
            FRel ρ2 lo h1.n c ⟨fn, nt, tm, .dops ops.toList n vals1 :: k, df, .run, kd, rd⟩ { fr with tmps := tmps2, todo := .inRegion ops todo2 :: k' } := fun hc =>
          { fn := hf.fn, kind := hf.kind, kinds := hf.kinds,
            nt := hnt2, mode := hf.mode.mono hext.le, defers := hf.defers.mono hext.le, round := hf.round.mono (fun _ _ q => hext.le.ι _ _ q),
            run := (fun _ => .dops hD2 hl0 hgo hc (hk.mono hext.le)), off := fun q => absurd rfl q }
        have hround2 := (hfr (c := false) (fun q => by cases q)).round
        cases hef : lget (efs ops.toList 0) n with
        | none =>
          rw [hef] at hx
          simp only at hx
          cases hal : allVals vals1 ops.toList 0 tm with
          | none => rw [hal] at hx; cases hx
          | some tm1 =>
            rw [hal] at hx; cases hx
            rw [lget_at] at hef
            rcases hor with ⟨i, o, _, _, _, _, hef2, _⟩ | ⟨hnil, hall⟩
            · rw [hef] at hef2; cases hef2
            · refine ⟨ρ2, { fr with tmps := tmps2, todo := k' }, _, w2, hst.trans (.one (step_lone_go ?_)), hi2, ⟨lo, cs1, rfl, hlo1, ?_, hcs2⟩, bottom_top hbot rfl⟩
              · obtain ⟨fn', tmps', todo', defers', mode', kind', round'⟩ := fr
                simp only at hmf
                subst hmf
                rw [hnil]
                simp [stepG, stepG.exec]
              · have hb := hfr (c := false) (fun q => by cases q)
                exact { fn := hb.fn, kind := hb.kind, kinds := hb.kinds, nt := hb.nt, mode := hb.mode, defers := hb.defers, round := hb.round, run := fun _ => .plain (hD2.done hall hal) (hk.mono hext.le), off := fun q => absurd rfl q }
        | some p =>
          obtain ⟨i, o⟩ := p
          rw [hef] at hx
          simp only at hx
          rw [lget_at] at hef
          rcases hor with ⟨i2, o2, fuel2, t2, htd2, hr2, hef2, ho2, hl2⟩ | ⟨_, hall⟩
          · rw [hef] at hef2
            cases hef2
            have hmask := ready_mask hD2 hr2
            obtain ⟨hlt, hLi, _⟩ := ready_mem hD2.size hr2
            have hcall := hfr (c := true) (fun _ => ⟨i, o, _, hef, htd2⟩)
            cases hw : wantedV ops.toList vals1 (maskAt (masks [] ops.toList) i) o.guard with
            | none => rw [hw] at hx; cases hx
            | some b =>
              rw [hw] at hx
              have hwr := hD2.wanted hmask hw
              cases b with
              | false =>
                simp only at hx
                cases hx
                have hfin := finish_rel (v := undefV) (v' := undef) (x' := ⟨fn, nt, tm, .dops ops.toList (n + 1) (vals1.set i undefV) :: k, df, .run, kd, rd⟩) hcall (by
                  unfold finish; simp only [lget_at, hef]) (.tuple .nil)
                exact ⟨ρ2, _, _, w2, hst.trans (.one (step_not hmf (by show Item.inRegion ops todo2 :: k' = _; rw [htd2]) ho2 hwr)), hi2, ⟨lo, cs1, rfl, hlo1, hfin, hcs2⟩, bottom_top hbot rfl⟩
              | true =>
                simp only at hx
                cases hs : seen (masks [] ops.toList) vals1 i (maskAt (masks [] ops.toList) i) ops.toList 0 tm with
                | none => rw [hs] at hx; cases hx
                | some tm1 =>
                  rw [hs] at hx
                  simp only at hx
                  cases hxo : xop e tm1 h1 o with
                  | none => rw [hxo] at hx; cases hx
                  | some r =>
                    rw [hxo] at hx
                    simp only at hx
                    cases ha : F.actC con e ⟨fn, nt, tm, .dops ops.toList n vals1 :: k, df, .run, kd, rd⟩ xs h1 r with
                    | none => rw [ha] at hx; cases hx
                    | some m1 =>
                      rw [ha] at hx; cases hx
                      have hT := hD2.seen hLi hmask hs
                      have hsx := xop_sound (P := P) (a := ⟨tmps2, fr.defers⟩) hE hi2 hT hxo
                      have hdf : fr.roundOf = none ∨ ∀ c, o.op ≠ .defer c := by
                        cases r with
                        | defer d => exact defer_round (h' := h1) (xs := xs) (m1 := m') (y := ⟨fn, nt, tm, .dops ops.toList n vals1 :: k, df, .run, kd, rd⟩) hround2 hxo ha
                        | _ =>
                          right; intro c hc
                          unfold xop at hxo; rw [hc] at hxo; simp only at hxo
                          split at hxo <;> cases hxo
                      have hg := stepG_oper (P := P) (w := w2) (cs := cs1 ++ base) (fr := { fr with tmps := tmps2, todo := .inRegion ops todo2 :: k' }) (K := k') hmf (by show Item.inRegion ops todo2 :: k' = _; rw [htd2]) ho2 hwr hdf
                      rw [eval_act] at hg
                      exact (actC_sound (x := ⟨fn, nt, tm, .dops ops.toList n vals1 :: k, df, .run, kd, rd⟩) hE hC (by rw [hg]) hsx hi2 hlo1 hcall rfl hcs2 (bottom_top hbot rfl) ha).steps hst
          · exfalso
            have hlt : i < ops.size := by
              have := (efs_get hef).2.1
              rw [Nat.sub_zero, arr_get] at this
              exact (Array.getElem?_eq_some_iff.1 this).1
            have := (hD2.efs n i o hef).1 (hall i hlt)
            omega
  · intro f v ch h' q
    revert q
    split
    · rename_i vals1 h1 _
      cases stageB e arr (masks [] arr) (efs arr 0) n tm vals1 h1 arr 0 with
      | false => intro q; cases q
      | true =>
        rw [cond_true]
        split
        · split
          · split
            · split
              · exact fun q => ofOpt_ended q
              · intro q; cases q
            · intro q; cases q
          · intro q; cases q
          · intro q; cases q
        · split <;> (intro q; cases q)
    · intro q; cases q
end Go.SX
namespace Go.SX
open Go.RowKit
variable {e : E} {ρ ρ' : Rho} {h h' : H} {w0 w w' : World} {P : Program} {base : List Frame} {con : F.Con}
theorem region_sound (hE : EnvOk e P) (hC : ConOk P con) {id : Nat} {arr : Array Oper} {draw : Bool} {k : List AIt} {fn nt : Nat} {tm : T Value} {df : List Deferred} {kd : CallKind} {rd : Option Nat} {xs : List AFr} :
    Snd P w0 base ⟨⟨fn, nt, tm, .code (.region id arr draw) :: k, df, .run, kd, rd⟩, xs, h⟩ (F.cRegion id arr draw k con e fn nt tm df kd rd xs h) := by
  unfold F.cRegion
  have hst : step e ⟨⟨fn, nt, tm, .code (.region id arr draw) :: k, df, .run, kd, rd⟩, xs, h⟩ = (bif !dstOk nt arr.toList then .bad 26 else
    bif draw then (bif dok arr.toList then .go ⟨⟨fn, nt, tm, .dops arr.toList 0 .nil :: k, df, .run, kd, rd⟩, xs, h⟩ else .bad 20) else .go ⟨⟨fn, nt, tm, .ops arr.toList arr.toList :: k, df, .run, kd, rd⟩, xs, h⟩) := rfl
  cases h1 : dstOk nt arr.toList with
  | false => exact Snd.bad
  | true =>
    rw [F.bb_eq, cond_true]
    rw [h1] at hst
    simp only [Bool.not_true, cond_false] at hst
    cases draw with
    | false => exact Snd.step hE hst (kOps_sound hE hC)
    | true =>
      rw [F.bb_eq, cond_true]
      cases h2 : dok arr.toList with
      | false => exact Snd.bad
      | true =>
        rw [F.bb_eq, cond_true]
        rw [h2] at hst
        exact Snd.step hE hst (kDops_sound hE hC)
theorem cond_sound (hE : EnvOk e P) {c : Operand} {x y : Code} {k : List AIt} {fn nt : Nat} {tm : T Value} {df : List Deferred} {kd : CallKind} {rd : Option Nat} {xs : List AFr} {X Y : F.C}
    (hX : Snd P w0 base ⟨⟨fn, nt, tm, .code x :: k, df, .run, kd, rd⟩, xs, h⟩ (X con e fn nt tm df kd rd xs h)) (hY : Snd P w0 base ⟨⟨fn, nt, tm, .code y :: k, df, .run, kd, rd⟩, xs, h⟩ (Y con e fn nt tm df kd rd xs h)) :
    Snd P w0 base ⟨⟨fn, nt, tm, .code (.cond c x y) :: k, df, .run, kd, rd⟩, xs, h⟩ (F.cCond (F.ev (F.tget tm) c) X Y con e fn nt tm df kd rd xs h) := by
  rw [F.tget_eq, F.ev_eq]
  have hst : step e ⟨⟨fn, nt, tm, .code (.cond c x y) :: k, df, .run, kd, rd⟩, xs, h⟩ = (match ev tm c with
    | some (.bool t) => .go ⟨⟨fn, nt, tm, .code (bif t then x else y) :: k, df, .run, kd, rd⟩, xs, h⟩
    | _ => .bad 5) := rfl
  cases hv : ev tm c with
  | none => exact Snd.bad
  | some v =>
    rw [hv] at hst
    cases v with
    | bool b =>
      cases b with
      | false => exact Snd.step hE hst hY
      | true => exact Snd.step hE hst hX
    | _ => exact Snd.bad
theorem code_sound (hE : EnvOk e P) (hC : ConOk P con) {fn nt : Nat} {tm : T Value} {df : List Deferred} {kd : CallKind} {rd : Option Nat} {xs : List AFr} : ∀ (c : Code) (k : List AIt),
    Snd P w0 base ⟨⟨fn, nt, tm, .code c :: k, df, .run, kd, rd⟩, xs, h⟩ (F.code c k con e fn nt tm df kd rd xs h) := by
  intro c
  induction c with
  | skip => intro k; exact Snd.step hE (x1 := ⟨⟨fn, nt, tm, k, df, .run, kd, rd⟩, xs, h⟩) rfl Snd.go
  | region id arr draw => intro k; exact region_sound hE hC
  | seq a b iha ihb => intro k; exact Snd.step hE (x1 := ⟨⟨fn, nt, tm, .code a :: .code b :: k, df, .run, kd, rd⟩, xs, h⟩) rfl (iha _)
  | cond c x y ihx ihy => intro k; exact cond_sound hE (ihx k) (ihy k)
  | block id b ih => intro k; exact Snd.step hE (x1 := ⟨⟨fn, nt, tm, .code b :: .inBlock id :: k, df, .run, kd, rd⟩, xs, h⟩) rfl (ih _)
  | loop b ih => intro k; exact Snd.step hE (x1 := ⟨⟨fn, nt, tm, .code b :: .inLoop b :: k, df, .run, kd, rd⟩, xs, h⟩) rfl (ih _)
  | rangeFunc f ps as bd _ _ => intro k; exact Snd.sx hE _
  | exit id => intro k; exact Snd.sx hE _
  | scope b ih => intro k; exact Snd.step hE (x1 := ⟨⟨fn, nt, tm, .code b :: .inScope b :: k, df, .run, kd, rd⟩, xs, h⟩) rfl (ih _)
  | label l => intro k; exact Snd.step hE (x1 := ⟨⟨fn, nt, tm, k, df, .run, kd, rd⟩, xs, h⟩) rfl Snd.go
  | goto l => intro k; exact Snd.sx hE _
  | ret => intro k; exact Snd.sx hE _
  | refuse w => intro k; exact Snd.sx hE _
theorem items_sound (hE : EnvOk e P) (hC : ConOk P con) {fn nt : Nat} {tm : T Value} {td : List AIt} {df : List Deferred} {kd : CallKind} {rd : Option Nat} {xs : List AFr} :
    Snd P w0 base ⟨⟨fn, nt, tm, td, df, .run, kd, rd⟩, xs, h⟩ (F.items td con e fn nt tm df kd rd xs h) := by
  cases td with
  | nil => exact Snd.sx hE _
  | cons it k =>
    cases it with
    | code c => exact code_sound hE hC c k
    | inBlock id => exact Snd.step hE (x1 := ⟨⟨fn, nt, tm, k, df, .run, kd, rd⟩, xs, h⟩) rfl Snd.go
    | inLoop b => exact Snd.step hE (x1 := ⟨⟨fn, nt, tm, .code b :: .inLoop b :: k, df, .run, kd, rd⟩, xs, h⟩) rfl (code_sound hE hC b _)
    | inScope b => exact Snd.step hE (x1 := ⟨⟨fn, nt, tm, k, df, .run, kd, rd⟩, xs, h⟩) rfl Snd.go
    | ops arr rest => exact kOps_sound hE hC
    | dops arr n vals => exact kDops_sound hE hC
    | inRangeFunc l => exact Snd.sx hE _
    | endRangeFunc l => exact Snd.sx hE _
    | beginRound => exact Snd.sx hE _
theorem fstep_sound (hE : EnvOk e P) (hC : ConOk P con) (m : AM) : Snd P w0 base m (F.step con e m) := by
  obtain ⟨⟨fn, nt, tm, td, df, md, kd, rd⟩, cs, h⟩ := m
  cases md with
  | run => exact items_sound hE hC
  | returning => exact Snd.sx hE _
  | panicking ch => exact Snd.sx hE _
theorem frun_sound (hE : EnvOk e P) (hC : ConOk P con) : ∀ (n : Nat) (m : AM), Snd P w0 base m (F.runP n con e (.go m)) := by
  intro n
  induction n with
  | zero => intro m; exact fstep_sound hE hC m
  | succ n ih =>
    intro m
    have hrec : F.runP (n + 1) con e (.go m) = F.runP n con e (F.runP n con e (.go m)) := rfl
    rw [hrec]
    have hend : ∀ {f : Nat} {v : Option Value} {ch : List PanicEntry} {h : H} {n : Nat}, F.runP n con e (.ended f v ch h) = .ended f v ch h := by
      intro f v ch h n
      induction n with
      | zero => rfl
      | succ n ih => have : F.runP (n + 1) con e (.ended f v ch h) = F.runP n con e (F.runP n con e (.ended f v ch h)) := rfl; rw [this, ih, ih]
    have hbad : ∀ {b n : Nat}, F.runP n con e (.bad b) = .bad b := by
      intro b n
      induction n with
      | zero => rfl
      | succ n ih => have : F.runP (n + 1) con e (.bad b) = F.runP n con e (F.runP n con e (.bad b)) := rfl; rw [this, ih, ih]
    have h1 := ih m
    cases hq : F.runP n con e (.go m) with
    | bad b => rw [hbad]; exact Snd.bad
    | ended f v ch h2 =>
      rw [hend]
      rw [hq] at h1; exact h1
    | go m2 =>
      rw [hq] at h1
      intro ρ fr cs w hM
      have hg := (h1 ρ fr cs w hM).1 m2 rfl
      exact ⟨fun m' q => hg.goes fun _ _ _ _ hM2 => (ih m2 _ _ _ _ hM2).1 m' q, fun f v ch h' q => hg.ends fun _ _ _ _ hM2 => (ih m2 _ _ _ _ hM2).2 f v ch h' q⟩
/-- A call with arguments that hold no addresses. -/
def startA (e : E) (f : FuncId) (args : List Value) (n0 : Nat) : Out := match enterFr e f args .normal with
  | some fr => .go ⟨fr, [], ⟨.nil, .nil, n0⟩⟩
  | none => .bad 50
/-- what a run must come to -/
def isVal (f : Nat) (v : Value) : Out → Bool
  | .ended g (some u) _ _ => Nat.beq g f && veq u v
  | _ => false
theorem frun_calls (hE : EnvOk e P) (hC : ConOk P con) {f n n0 : Nat} {args : List Value} (ha : closedL args = true) {Q : Value → Prop}
    (hr : ∀ w : World, ∃ v ch h', F.runP n con e (startA e f args n0) = .ended f (some v) ch h' ∧ closedV v = true ∧ Q v) (w : World) :
    Calls P f ⟨args⟩ w fun en w' => (∃ v, Q v ∧ en = .returned v) ∧ Below w.heap.size w w' := by
  intro cs
  obtain ⟨v, ch, h', hr, hv, hQ⟩ := hr w
  unfold startA at hr
  cases hen : enterFr e f args .normal with
  | none =>
    rw [hen] at hr; simp only at hr
    exfalso
    have hbad : ∀ {b n : Nat}, F.runP n con e (.bad b) = .bad b := by
      intro b n
      induction n with
      | zero => rfl
      | succ n ih => have : F.runP (n + 1) con e (.bad b) = F.runP n con e (F.runP n con e (.bad b)) := rfl; rw [this, ih, ih]
    rw [hbad] at hr; cases hr
  | some g =>
    rw [hen] at hr
    simp only at hr
    obtain ⟨h1, h2⟩ := enter_rel (ρ := Rho.empty) (n := n0) (args' := ⟨args⟩) hE hen (closedL_rel _ args ha) (.inl rfl)
    have hM : MR Rho.empty w ⟨g, [], ⟨.nil, .nil, n0⟩⟩ (Frame.enter P f ⟨args⟩ .normal) cs cs w :=
      ⟨Inv.empty n0 w, ⟨n0, [], rfl, Nat.le_refl _, h1, .nil _⟩, h2⟩
    obtain ⟨ρ', fr', w', v', k1, k2, k3, k4, k5⟩ := (frun_sound hE hC n _ _ _ _ _ hM).2 _ _ _ _ hr
    have := closedV_eq k4 hv
    subst this
    exact ⟨.returned v', w', fr', ⟨⟨v', hQ, rfl⟩, k5.below⟩, k1, k2, k3⟩
theorem calls_true_fast (hE : EnvOk e P) (hC : ConOk P con) {f n n0 : Nat} {args : List Value} (ha : closedL args = true) (hr : isTrue f (F.runP n con e (startA e f args n0)) = true) (w : World) :
    Calls P f ⟨args⟩ w fun en w' => en = .returned (.bool true) ∧ Below w.heap.size w w' := by
  refine (frun_calls (Q := fun v => v = .bool true) hE hC ha (n := n) (n0 := n0) ?_ w).mono ?_
  · intro w
    cases hq : F.runP n con e (startA e f args n0) with
    | go m => rw [hq] at hr; cases hr
    | bad b => rw [hq] at hr; cases hr
    | ended f' v ch h' =>
      rw [hq] at hr
      cases v with
      | none => cases hr
      | some v =>
        cases v <;> try (cases hr; done)
        rename_i b
        cases b with
        | false => cases hr
        | true =>
          have hff : f' = f := Nat.eq_of_beq_eq_true hr
          subst hff
          exact ⟨_, _, _, rfl, rfl, rfl⟩
  · rintro en w' ⟨⟨v, rfl, rfl⟩, hb⟩
    exact ⟨rfl, hb⟩
/-- a known call is a run of its own -/
theorem calls_val (hE : EnvOk e P) (hC : ConOk P con) {f n n0 : Nat} {args : List Value} {v : Value} (ha : closedL args = true) (hv : closedV v = true) (hr : isVal f v (F.runP n con e (startA e f args n0)) = true) (w : World) :
    Calls P f ⟨args⟩ w fun en w' => en = .returned v ∧ Below w.heap.size w w' := by
  refine (frun_calls (Q := fun u => u = v) hE hC ha (n := n) (n0 := n0) ?_ w).mono ?_
  · intro w
    cases hq : F.runP n con e (startA e f args n0) with
    | go m => rw [hq] at hr; cases hr
    | bad b => rw [hq] at hr; cases hr
    | ended f' u ch h' =>
      rw [hq] at hr
      cases u with
      | none => cases hr
      | some u =>
        simp only [isVal, Bool.and_eq_true] at hr
        have hff : f' = f := Nat.eq_of_beq_eq_true hr.1
        have huv := veq_eq _ _ hr.2
        subst hff huv
        exact ⟨_, _, _, rfl, hv, rfl⟩
  · rintro en w' ⟨⟨v, rfl, rfl⟩, hb⟩
    exact ⟨rfl, hb⟩
theorem noCon_ok : ConOk P F.noCon := fun _ _ _ h => by cases h
end Go.SX
namespace Go.SX
/-- the tables of a program -/
noncomputable def envOf (P : Program) : E := { ty := T.ofList P.types.toList 0 .nil, fn := T.ofList P.funcs.toList 0 .nil, rt := P.rt, ntypes := P.types.size }
theorem ofList_get {α : Type} (a : Array α) (j : Nat) (x : α) (h : (T.ofList a.toList 0 .nil).get j = some x) : a[j]? = some x := by
  rw [T.get_ofList] at h
  split at h
  · simpa using h
  · simp [T.get] at h
theorem envOf_ok {P : Program} (h1 : P.follows .mixedOrders = true) (h2 : P.follows .rangeFuncRecover = true) : EnvOk (envOf P) P where
  ty := fun t i h => by
    have := ofList_get P.types t i h
    have hlt : t < P.types.size := (Array.getElem?_eq_some_iff.1 this).1
    unfold Tables.info?
    rw [if_pos hlt]; exact this
  fn := fun f fn h => ofList_get P.funcs f fn h
  rt := rfl
  mixed := h1
  rfr := h2
end Go.SX
