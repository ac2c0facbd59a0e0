/-
  Contracts of the guard's functions, second part; no condition.
-/
import Derived.Test.YtladhpocefnkjaaGreatDoorGb
namespace Go.Proofs.YtladhpocefnkjaaGreatDoor
open Go Go.SX
variable {P : Program} {e : E} [GEnv e]
theorem Sl.caps {α : Type} {h : SX.H} {enc : α → List Value} {z n cp : Nat} {a : Option Addr} {l : List α} (hs : Sl h enc z (.slice a n cp) l) : (∀ p, a = some p → p.spot = some z ∧ l.length ≤ capLo cp) ∧ (a = none → l.length = 0 ∧ n = 0) := by
  rcases hs with ⟨cp', q, rfl⟩ | ⟨r, off, cp', q, q2, q3, q4, q5⟩
  · cases q; exact ⟨fun p hp => (by cases hp), fun _ => ⟨rfl, rfl⟩⟩
  · cases q; exact ⟨fun p hp => (by cases hp; exact ⟨rfl, q5⟩), fun hp => (by cases hp)⟩
def namesB : List ByteArray → List ByteArray → Bool
  | _, [] => true
  | seen, x :: r => nameB (bl x) && !hasB seen x && namesB (seen ++ [x]) r
def callB (d : Deed) : Bool := decide (1 ≤ d.verb) && decide (d.verb ≤ 12) && onB (bl d.on) && decide (d.names.length = d.row.length) && rowB d.row && decide (d.keys.length ≤ 20) && namesB [] d.names && !d.keys.any (fun s => !keyB (bl s))
theorem namesB_at {names : List ByteArray} {i : Nat} {x : ByteArray} (hx : names[i]? = some x) : namesB (names.take i) (names.drop i) = (nameB (bl x) && !hasB (names.take i) x && namesB (names.take (i + 1)) (names.drop (i + 1))) := by
  obtain ⟨hi, hv⟩ := List.getElem?_eq_some_iff.1 hx
  rw [List.drop_eq_getElem_cons hi, hv, namesB, List.take_succ_eq_append_getElem hi, hv]
set_option maxHeartbeats 1000000 in
theorem call_fn (d : Deed) (h : SX.H) (hd : DeedIn h d) : Gives P e 23 [.agg ⟨encDeed d⟩] h (fun v h' => v = .bool (callB d) ∧ HLe h h') := by
  obtain ⟨verb, on, nv, rv, kv, names, row, keys⟩ := d
  obtain ⟨hn, hr, hkk, nn, nr, nk, fo, fn⟩ := hd
  simp only at hn hr hkk nn nr nk fo fn
  obtain ⟨na, nc, rfl, hna⟩ := hn.view
  obtain ⟨ra, rc, rfl, hra⟩ := hr.view
  obtain ⟨ka, kc, rfl, hka⟩ := hkk.view
  refine V.body FuncT.h rfl ?_
  intro c y xs hk
  repeat' (first
    | refine V.ctl rfl ?_
    | (refine V.on rfl ?_; first | refine V.easy rfl rfl ?_ | refine V.val (x_lenS rfl StringT.h (E.l rfl)) rfl ?_ | refine V.val (x_lenL rfl SliceT.u (E.l rfl)) rfl ?_ | refine V.val (x_fld rfl FieldT.h (E.l rfl)) rfl ?_ | refine V.val (x_idxAT rfl (E.l rfl) (E.l rfl) (by omega)) rfl ?_ | refine V.val (x_load rfl (E.l rfl) ScalarT.a (by first | assumption | exact (Own.cell (by assumption) _).trans rfl)) rfl ?_ | refine V.val (x_loadA rfl (E.l rfl) AggT.a AggT.z (by first | assumption | exact Own.loadAll (by assumption) rfl)) rfl ?_ | refine V.val (x_idxS rfl StringT.h (E.l rfl) (E.l rfl) (by assumption)) rfl ?_ | refine V.val (x_add rfl (E.l rfl) (E.l rfl) (by omega) (by omega)) rfl ?_ | refine V.val (x_sub rfl (E.l rfl) (E.l rfl) (by omega) (by omega)) rfl ?_ | (refine V.box rfl rfl rfl ?_; intro r1 h1 hl1 ho1 hn1 hr1 hf1) | (refine V.call (x_call rfl FuncT.ok (E.s rfl)) rfl (on_fn _ fo _) ?_; rintro v h1 ⟨rfl, hh⟩; replace hh := hh.symm; subst hh) | ((refine V.call (x_call rfl FuncT.ok (E.s rfl)) rfl (row_fn row _ _ (hr.grow hl1) nr) ?_; rintro v h2 ⟨rfl, hl2⟩); have ho2 := ho1.grow hf1 hl2) | skip)
    | (refine VP.on rfl rfl ?_; first | refine VP.easy rfl rfl rfl rfl rfl ?_ | refine VP.v (x_lenS rfl StringT.h (E.l rfl)) rfl rfl rfl rfl ?_ | refine VP.v (x_lenL rfl SliceT.u (E.l rfl)) rfl rfl rfl rfl ?_ | refine VP.v (x_fld rfl FieldT.h (E.l rfl)) rfl rfl rfl rfl ?_ | refine VP.v (x_idxAT rfl (E.l rfl) (E.l rfl) (by omega)) rfl rfl rfl rfl ?_ | refine VP.v (x_load rfl (E.l rfl) ScalarT.a (by first | assumption | exact (Own.cell (by assumption) _).trans rfl)) rfl rfl rfl rfl ?_ | refine VP.v (x_loadA rfl (E.l rfl) AggT.a AggT.z (by first | assumption | exact Own.loadAll (by assumption) rfl)) rfl rfl rfl rfl ?_ | refine VP.v (x_idxS rfl StringT.h (E.l rfl) (E.l rfl) (by assumption)) rfl rfl rfl rfl ?_ | refine VP.v (x_add rfl (E.l rfl) (E.l rfl) (by omega) (by omega)) rfl rfl rfl rfl ?_ | refine VP.v (x_sub rfl (E.l rfl) (E.l rfl) (by omega) (by omega)) rfl rfl rfl rfl ?_ | (refine V.box rfl rfl rfl ?_; intro r1 h1 hl1 ho1 hn1 hr1 hf1) | (refine V.call (x_call rfl FuncT.ok (E.s rfl)) rfl (on_fn _ fo _) ?_; rintro v h1 ⟨rfl, hh⟩; replace hh := hh.symm; subst hh) | ((refine V.call (x_call rfl FuncT.ok (E.s rfl)) rfl (row_fn row _ _ (hr.grow hl1) nr) ?_; rintro v h2 ⟨rfl, hl2⟩); have ho2 := ho1.grow hf1 hl2) | skip)
    | refine WP.nil ?_
    | refine V.not rfl rfl ?_
    | refine VP.not rfl rfl rfl ?_
    | ((first | refine V.split rfl rfl rfl rfl ?_ ?_ | refine VP.split hpk rfl rfl rfl rfl rfl ?_ ?_ | refine V.cond rfl ?_ ?_) <;> intro hB <;> (try simp only [ltB_eq, leB_eq, eqB_eq, seB_eq, decide_eq_true_eq, decide_eq_false_iff_not, Bool.not_eq_true', Bool.not_eq_false', Bool.not_eq_true, Bool.not_eq_false] at hB) <;> (try (exfalso; first | omega | exact hB trivial))))
  all_goals first
    | (refine V.ret hk FuncT.h rfl ⟨retB ?_, hl1⟩)
    | (refine V.ret hk FuncT.h rfl ⟨retB ?_, hl1.trans hl2⟩)
    | skip
  iterate 6
    · clear hk
      symm
      cases hcb : callB ⟨verb, on, .slice na names.length nc, .slice ra row.length rc, .slice ka keys.length kc, names, row, keys⟩ with
      | false => rfl
      | true =>
        exfalso
        simp only [callB, Bool.and_eq_true, decide_eq_true_eq] at hcb
        obtain ⟨⟨⟨⟨⟨⟨⟨w1, w2⟩, w3⟩, w4⟩, w5⟩, w6⟩, w7⟩, w8⟩ := hcb
        first | omega | (rw [hB] at w3; cases w3) | (rw [hB] at w5; cases w5)
  rename_i b1 b2 b3 b4 b5
  have hbase : callB ⟨verb, on, .slice na names.length nc, .slice ra row.length rc, .slice ka keys.length kc, names, row, keys⟩ = (namesB [] names && !keys.any (fun s => !keyB (bl s))) := by
    simp only [callB, b3, b5, decide_eq_true (show 1 ≤ verb by omega), decide_eq_true (show verb ≤ 12 by omega), decide_eq_true (show names.length = row.length by omega), decide_eq_true (show keys.length ≤ 20 by omega), Bool.true_and]
  have hl12 := hl1.trans hl2
  refine V.rounds (α := Nat) (fun i => names.length - i) (fun i => [(1, .pointer (some ⟨r1, 0, none⟩)), (41, .slice na names.length nc), (42, .int .i64 (names.length : Nat)), (43, .int .i64 (i : Nat))]) (fun i h' => i ≤ names.length ∧ namesB [] names = namesB (names.take i) (names.drop i) ∧ h' = h2) 0 ⟨rfl, rfl, rfl, rfl, trivial⟩ ⟨by omega, by simp, rfl⟩ ?_
  rintro i h3 ⟨hi, hal, rfl⟩ ih
  by_cases hlt : i < names.length
  · obtain ⟨x, hx⟩ : ∃ x, names[i]? = some x := ⟨names[i], List.getElem?_eq_getElem hlt⟩
    have hsub := (hn.grow hl12).take i (by omega)
    have hcap := Sl.caps hn
    obtain ⟨r, off, rfl, hld0, hr0⟩ := hna i x hx
    have hld := hl12.loadAt hld0
    have c0 := loadAt_cell hld (j := 0) rfl
    rw [namesB_at hx] at hal
    repeat' (first
    | refine V.ctl rfl ?_
    | (refine V.on rfl ?_; first | refine V.easy rfl rfl ?_ | refine V.val (x_lenS rfl StringT.h (E.l rfl)) rfl ?_ | refine V.val (x_lenL rfl SliceT.u (E.l rfl)) rfl ?_ | refine V.val (x_fld rfl FieldT.h (E.l rfl)) rfl ?_ | refine V.val (x_idxAT rfl (E.l rfl) (E.l rfl) (by omega)) rfl ?_ | refine V.val (x_load rfl (E.l rfl) ScalarT.a (by first | assumption | exact (Own.cell (by assumption) _).trans rfl)) rfl ?_ | refine V.val (x_loadA rfl (E.l rfl) AggT.a AggT.z (by first | assumption | exact Own.loadAll (by assumption) rfl)) rfl ?_ | refine V.val (x_idxS rfl StringT.h (E.l rfl) (E.l rfl) (by assumption)) rfl ?_ | refine V.val (x_add rfl (E.l rfl) (E.l rfl) (by omega) (by omega)) rfl ?_ | refine V.val (x_sub rfl (E.l rfl) (E.l rfl) (by omega) (by omega)) rfl ?_ | (refine V.call (x_call rfl FuncT.ok (E.s rfl)) rfl (name_fn _ (fn x (List.mem_of_getElem? hx)) _) ?_; rintro v h1 ⟨rfl, hh⟩; replace hh := hh.symm; subst hh) | (refine V.val (x_sliceTo rfl (E.l rfl) (E.l rfl) (fun p hp => ⟨(hcap.1 p hp).1, Nat.le_trans (Nat.le_of_lt hlt) (hcap.1 p hp).2⟩) (fun q => (by cases q))) rfl ?_) | (refine V.call (x_call rfl FuncT.ok (E.s rfl)) rfl (contains_fn (names.take i) _ x _ hsub (by rw [List.length_take]; omega)) ?_; rintro v h1 ⟨rfl, hh⟩; replace hh := hh.symm; subst hh) | skip)
    | (refine VP.on rfl rfl ?_; first | refine VP.easy rfl rfl rfl rfl rfl ?_ | refine VP.v (x_lenS rfl StringT.h (E.l rfl)) rfl rfl rfl rfl ?_ | refine VP.v (x_lenL rfl SliceT.u (E.l rfl)) rfl rfl rfl rfl ?_ | refine VP.v (x_fld rfl FieldT.h (E.l rfl)) rfl rfl rfl rfl ?_ | refine VP.v (x_idxAT rfl (E.l rfl) (E.l rfl) (by omega)) rfl rfl rfl rfl ?_ | refine VP.v (x_load rfl (E.l rfl) ScalarT.a (by first | assumption | exact (Own.cell (by assumption) _).trans rfl)) rfl rfl rfl rfl ?_ | refine VP.v (x_loadA rfl (E.l rfl) AggT.a AggT.z (by first | assumption | exact Own.loadAll (by assumption) rfl)) rfl rfl rfl rfl ?_ | refine VP.v (x_idxS rfl StringT.h (E.l rfl) (E.l rfl) (by assumption)) rfl rfl rfl rfl ?_ | refine VP.v (x_add rfl (E.l rfl) (E.l rfl) (by omega) (by omega)) rfl rfl rfl rfl ?_ | refine VP.v (x_sub rfl (E.l rfl) (E.l rfl) (by omega) (by omega)) rfl rfl rfl rfl ?_ | (refine V.call (x_call rfl FuncT.ok (E.s rfl)) rfl (name_fn _ (fn x (List.mem_of_getElem? hx)) _) ?_; rintro v h1 ⟨rfl, hh⟩; replace hh := hh.symm; subst hh) | (refine V.val (x_sliceTo rfl (E.l rfl) (E.l rfl) (fun p hp => ⟨(hcap.1 p hp).1, Nat.le_trans (Nat.le_of_lt hlt) (hcap.1 p hp).2⟩) (fun q => (by cases q))) rfl ?_) | (refine V.call (x_call rfl FuncT.ok (E.s rfl)) rfl (contains_fn (names.take i) _ x _ hsub (by rw [List.length_take]; omega)) ?_; rintro v h1 ⟨rfl, hh⟩; replace hh := hh.symm; subst hh) | skip)
    | refine WP.nil ?_
    | refine V.not rfl rfl ?_
    | refine VP.not rfl rfl rfl ?_
    | ((first | refine V.split rfl rfl rfl rfl ?_ ?_ | refine VP.split hpk rfl rfl rfl rfl rfl ?_ ?_ | refine V.cond rfl ?_ ?_) <;> intro hB <;> (try simp only [ltB_eq, leB_eq, eqB_eq, seB_eq, decide_eq_true_eq, decide_eq_false_iff_not, Bool.not_eq_true', Bool.not_eq_false', Bool.not_eq_true, Bool.not_eq_false] at hB) <;> (try (exfalso; first | omega | exact hB trivial))))
    · refine V.ret hk FuncT.h rfl ⟨retB ?_, hl12⟩
      rw [hbase, hal, hB]; simp only [Bool.false_and]
    · refine V.ret hk FuncT.h rfl ⟨retB ?_, hl12⟩
      rw [hbase, hal, hB]; simp only [Bool.not_true, Bool.and_false, Bool.false_and]
    · rename_i bn
      refine ih (i + 1) _ _ ?_ ⟨hlt, ?_, rfl⟩ ⟨rfl, rfl, rfl, rfl, trivial⟩
      · omega
      · rw [hal, hB, bn]; simp only [Bool.not_false, Bool.true_and]
  · repeat' (first
    | refine V.ctl rfl ?_
    | (refine V.on rfl ?_; first | refine V.easy rfl rfl ?_ | refine V.val (x_lenS rfl StringT.h (E.l rfl)) rfl ?_ | refine V.val (x_lenL rfl SliceT.u (E.l rfl)) rfl ?_ | refine V.val (x_fld rfl FieldT.h (E.l rfl)) rfl ?_ | refine V.val (x_idxAT rfl (E.l rfl) (E.l rfl) (by omega)) rfl ?_ | refine V.val (x_load rfl (E.l rfl) ScalarT.a (by first | assumption | exact (Own.cell (by assumption) _).trans rfl)) rfl ?_ | refine V.val (x_loadA rfl (E.l rfl) AggT.a AggT.z (by first | assumption | exact Own.loadAll (by assumption) rfl)) rfl ?_ | refine V.val (x_idxS rfl StringT.h (E.l rfl) (E.l rfl) (by assumption)) rfl ?_ | refine V.val (x_add rfl (E.l rfl) (E.l rfl) (by omega) (by omega)) rfl ?_ | refine V.val (x_sub rfl (E.l rfl) (E.l rfl) (by omega) (by omega)) rfl ?_ | (refine V.call (x_call rfl FuncT.ok (E.s rfl)) rfl (str_any keys _ 63 [] (fun s => !keyB (bl s)) _ (hkk.grow hl12) nk FuncT.ok (fun x _ h1 _ => keyNot_fn x h1)) ?_; rintro v h2 ⟨rfl, hl2⟩) | skip)
    | (refine VP.on rfl rfl ?_; first | refine VP.easy rfl rfl rfl rfl rfl ?_ | refine VP.v (x_lenS rfl StringT.h (E.l rfl)) rfl rfl rfl rfl ?_ | refine VP.v (x_lenL rfl SliceT.u (E.l rfl)) rfl rfl rfl rfl ?_ | refine VP.v (x_fld rfl FieldT.h (E.l rfl)) rfl rfl rfl rfl ?_ | refine VP.v (x_idxAT rfl (E.l rfl) (E.l rfl) (by omega)) rfl rfl rfl rfl ?_ | refine VP.v (x_load rfl (E.l rfl) ScalarT.a (by first | assumption | exact (Own.cell (by assumption) _).trans rfl)) rfl rfl rfl rfl ?_ | refine VP.v (x_loadA rfl (E.l rfl) AggT.a AggT.z (by first | assumption | exact Own.loadAll (by assumption) rfl)) rfl rfl rfl rfl ?_ | refine VP.v (x_idxS rfl StringT.h (E.l rfl) (E.l rfl) (by assumption)) rfl rfl rfl rfl ?_ | refine VP.v (x_add rfl (E.l rfl) (E.l rfl) (by omega) (by omega)) rfl rfl rfl rfl ?_ | refine VP.v (x_sub rfl (E.l rfl) (E.l rfl) (by omega) (by omega)) rfl rfl rfl rfl ?_ | (refine V.call (x_call rfl FuncT.ok (E.s rfl)) rfl (str_any keys _ 63 [] (fun s => !keyB (bl s)) _ (hkk.grow hl12) nk FuncT.ok (fun x _ h1 _ => keyNot_fn x h1)) ?_; rintro v h2 ⟨rfl, hl2⟩) | skip)
    | refine WP.nil ?_
    | refine V.not rfl rfl ?_
    | refine VP.not rfl rfl rfl ?_
    | ((first | refine V.split rfl rfl rfl rfl ?_ ?_ | refine VP.split hpk rfl rfl rfl rfl rfl ?_ ?_ | refine V.cond rfl ?_ ?_) <;> intro hB <;> (try simp only [ltB_eq, leB_eq, eqB_eq, seB_eq, decide_eq_true_eq, decide_eq_false_iff_not, Bool.not_eq_true', Bool.not_eq_false', Bool.not_eq_true, Bool.not_eq_false] at hB) <;> (try (exfalso; first | omega | exact hB trivial))))
    refine V.ret hk FuncT.h rfl ⟨retB ?_, hl12.trans hl2⟩
    rw [hbase, hal, List.drop_of_length_le (by omega)]
    simp only [namesB, Bool.true_and]
end Go.Proofs.YtladhpocefnkjaaGreatDoor
namespace Go.Proofs.YtladhpocefnkjaaGreatDoor
open Go Go.SX
variable {P : Program} {e : E} [GEnv e]
theorem proc_ix (l : List Proc) (sv : Value) (f : Nat) (cap : List Value) (p : Proc → Bool) (h : SX.H) (sl : Sl h encProc 7 sv l) (nl : l.length ≤ 140737488351232) (hf : fnOk e f = true)
    (hp : ∀ x, x ∈ l → ∀ h1, HLe h h1 → Gives P e f (.agg ⟨encProc x⟩ :: cap) h1 (fun v h2 => v = .bool (p x) ∧ HLe h1 h2)) :
    Gives P e 120 [sv, .func (.func f) ⟨[]⟩ ⟨cap⟩] h (fun v h' => v = .int .i64 (ixF p l 0) ∧ HLe h h') := by
  obtain ⟨sa, sc, rfl, hsv⟩ := sl.view
  refine V.body FuncT.h rfl ?_
  intro c y xs hk
  repeat' (first
    | refine V.ctl rfl ?_
    | (refine V.on rfl ?_; first | refine V.easy rfl rfl ?_ | refine V.val (x_lenS rfl StringT.h (E.l rfl)) rfl ?_ | refine V.val (x_lenL rfl SliceT.u (E.l rfl)) rfl ?_ | refine V.val (x_fld rfl FieldT.h (E.l rfl)) rfl ?_ | refine V.val (x_idxAT rfl (E.l rfl) (E.l rfl) (by omega)) rfl ?_ | refine V.val (x_load rfl (E.l rfl) ScalarT.a (by first | assumption | exact (Own.cell (by assumption) _).trans rfl)) rfl ?_ | refine V.val (x_loadA rfl (E.l rfl) AggT.a AggT.z (by first | assumption | exact Own.loadAll (by assumption) rfl)) rfl ?_ | refine V.val (x_idxS rfl StringT.h (E.l rfl) (E.l rfl) (by assumption)) rfl ?_ | refine V.val (x_add rfl (E.l rfl) (E.l rfl) (by omega) (by omega)) rfl ?_ | refine V.val (x_sub rfl (E.l rfl) (E.l rfl) (by omega) (by omega)) rfl ?_ | skip)
    | (refine VP.on rfl rfl ?_; first | refine VP.easy rfl rfl rfl rfl rfl ?_ | refine VP.v (x_lenS rfl StringT.h (E.l rfl)) rfl rfl rfl rfl ?_ | refine VP.v (x_lenL rfl SliceT.u (E.l rfl)) rfl rfl rfl rfl ?_ | refine VP.v (x_fld rfl FieldT.h (E.l rfl)) rfl rfl rfl rfl ?_ | refine VP.v (x_idxAT rfl (E.l rfl) (E.l rfl) (by omega)) rfl rfl rfl rfl ?_ | refine VP.v (x_load rfl (E.l rfl) ScalarT.a (by first | assumption | exact (Own.cell (by assumption) _).trans rfl)) rfl rfl rfl rfl ?_ | refine VP.v (x_loadA rfl (E.l rfl) AggT.a AggT.z (by first | assumption | exact Own.loadAll (by assumption) rfl)) rfl rfl rfl rfl ?_ | refine VP.v (x_idxS rfl StringT.h (E.l rfl) (E.l rfl) (by assumption)) rfl rfl rfl rfl ?_ | refine VP.v (x_add rfl (E.l rfl) (E.l rfl) (by omega) (by omega)) rfl rfl rfl rfl ?_ | refine VP.v (x_sub rfl (E.l rfl) (E.l rfl) (by omega) (by omega)) rfl rfl rfl rfl ?_ | skip)
    | refine WP.nil ?_
    | refine V.not rfl rfl ?_
    | refine VP.not rfl rfl rfl ?_
    | ((first | refine V.split rfl rfl rfl rfl ?_ ?_ | refine VP.split hpk rfl rfl rfl rfl rfl ?_ ?_ | refine V.cond rfl ?_ ?_) <;> intro hB <;> (try simp only [ltB_eq, leB_eq, eqB_eq, seB_eq, decide_eq_true_eq, decide_eq_false_iff_not, Bool.not_eq_true', Bool.not_eq_false', Bool.not_eq_true, Bool.not_eq_false] at hB) <;> (try (exfalso; first | omega | exact hB trivial))))
  refine V.rounds (α := Nat) (fun i => l.length - i) (fun i => [(0, .slice sa l.length sc), (1, .func (.func f) ⟨[]⟩ ⟨cap⟩), (7, .int .i64 (l.length : Nat)), (8, .int .i64 (i : Nat))]) (fun i h' => i ≤ l.length ∧ (∀ w, w ∈ l.take i → p w = false) ∧ HLe h h') 0 ⟨rfl, rfl, rfl, rfl, trivial⟩ ⟨by omega, by simp, HLe.refl _⟩ ?_
  rintro i h1 ⟨hi, hal, hl1⟩ ih
  by_cases hlt : i < l.length
  · obtain ⟨x, hx⟩ : ∃ x, l[i]? = some x := ⟨l[i], List.getElem?_eq_getElem hlt⟩
    obtain ⟨r, off, rfl, hld0, hr⟩ := hsv i x hx
    have hld := hl1.loadAt hld0
    have hld2 := hld
    repeat' (first
    | refine V.ctl rfl ?_
    | (refine V.on rfl ?_; first | refine V.easy rfl rfl ?_ | refine V.val (x_lenS rfl StringT.h (E.l rfl)) rfl ?_ | refine V.val (x_lenL rfl SliceT.u (E.l rfl)) rfl ?_ | refine V.val (x_fld rfl FieldT.h (E.l rfl)) rfl ?_ | refine V.val (x_idxAT rfl (E.l rfl) (E.l rfl) (by omega)) rfl ?_ | refine V.val (x_load rfl (E.l rfl) ScalarT.a (by first | assumption | exact (Own.cell (by assumption) _).trans rfl)) rfl ?_ | refine V.val (x_loadA rfl (E.l rfl) AggT.a AggT.z (by first | assumption | exact Own.loadAll (by assumption) rfl)) rfl ?_ | refine V.val (x_idxS rfl StringT.h (E.l rfl) (E.l rfl) (by assumption)) rfl ?_ | refine V.val (x_add rfl (E.l rfl) (E.l rfl) (by omega) (by omega)) rfl ?_ | refine V.val (x_sub rfl (E.l rfl) (E.l rfl) (by omega) (by omega)) rfl ?_ | (refine V.call (x_callV rfl (E.l rfl) hf (E.s rfl)) rfl (hp x (List.mem_of_getElem? hx) _ hl1) ?_; rintro v h2 ⟨rfl, hl2⟩) | skip)
    | (refine VP.on rfl rfl ?_; first | refine VP.easy rfl rfl rfl rfl rfl ?_ | refine VP.v (x_lenS rfl StringT.h (E.l rfl)) rfl rfl rfl rfl ?_ | refine VP.v (x_lenL rfl SliceT.u (E.l rfl)) rfl rfl rfl rfl ?_ | refine VP.v (x_fld rfl FieldT.h (E.l rfl)) rfl rfl rfl rfl ?_ | refine VP.v (x_idxAT rfl (E.l rfl) (E.l rfl) (by omega)) rfl rfl rfl rfl ?_ | refine VP.v (x_load rfl (E.l rfl) ScalarT.a (by first | assumption | exact (Own.cell (by assumption) _).trans rfl)) rfl rfl rfl rfl ?_ | refine VP.v (x_loadA rfl (E.l rfl) AggT.a AggT.z (by first | assumption | exact Own.loadAll (by assumption) rfl)) rfl rfl rfl rfl ?_ | refine VP.v (x_idxS rfl StringT.h (E.l rfl) (E.l rfl) (by assumption)) rfl rfl rfl rfl ?_ | refine VP.v (x_add rfl (E.l rfl) (E.l rfl) (by omega) (by omega)) rfl rfl rfl rfl ?_ | refine VP.v (x_sub rfl (E.l rfl) (E.l rfl) (by omega) (by omega)) rfl rfl rfl rfl ?_ | (refine V.call (x_callV rfl (E.l rfl) hf (E.s rfl)) rfl (hp x (List.mem_of_getElem? hx) _ hl1) ?_; rintro v h2 ⟨rfl, hl2⟩) | skip)
    | refine WP.nil ?_
    | refine V.not rfl rfl ?_
    | refine VP.not rfl rfl rfl ?_
    | ((first | refine V.split rfl rfl rfl rfl ?_ ?_ | refine VP.split hpk rfl rfl rfl rfl rfl ?_ ?_ | refine V.cond rfl ?_ ?_) <;> intro hB <;> (try simp only [ltB_eq, leB_eq, eqB_eq, seB_eq, decide_eq_true_eq, decide_eq_false_iff_not, Bool.not_eq_true', Bool.not_eq_false', Bool.not_eq_true, Bool.not_eq_false] at hB) <;> (try (exfalso; first | omega | exact hB trivial))))
    · refine V.ret hk FuncT.h rfl ⟨?_, hl1.trans hl2⟩
      rw [ixF_at hal hx hB]; simp [tup]
    · refine ih (i + 1) _ _ ?_ ?_ ?_
      · omega
      · refine ⟨hlt, ?_, hl1.trans hl2⟩
        intro w hw
        rw [List.take_succ_eq_append_getElem hlt] at hw
        rcases List.mem_append.1 hw with q | q
        · exact hal w q
        · simp only [List.mem_singleton] at q; subst q
          rw [(List.getElem?_eq_some_iff.1 hx).2]; exact hB
      · exact ⟨rfl, rfl, rfl, rfl, trivial⟩
  · repeat' (first
    | refine V.ctl rfl ?_
    | (refine V.on rfl ?_; first | refine V.easy rfl rfl ?_ | refine V.val (x_lenS rfl StringT.h (E.l rfl)) rfl ?_ | refine V.val (x_lenL rfl SliceT.u (E.l rfl)) rfl ?_ | refine V.val (x_fld rfl FieldT.h (E.l rfl)) rfl ?_ | refine V.val (x_idxAT rfl (E.l rfl) (E.l rfl) (by omega)) rfl ?_ | refine V.val (x_load rfl (E.l rfl) ScalarT.a (by first | assumption | exact (Own.cell (by assumption) _).trans rfl)) rfl ?_ | refine V.val (x_loadA rfl (E.l rfl) AggT.a AggT.z (by first | assumption | exact Own.loadAll (by assumption) rfl)) rfl ?_ | refine V.val (x_idxS rfl StringT.h (E.l rfl) (E.l rfl) (by assumption)) rfl ?_ | refine V.val (x_add rfl (E.l rfl) (E.l rfl) (by omega) (by omega)) rfl ?_ | refine V.val (x_sub rfl (E.l rfl) (E.l rfl) (by omega) (by omega)) rfl ?_ | skip)
    | (refine VP.on rfl rfl ?_; first | refine VP.easy rfl rfl rfl rfl rfl ?_ | refine VP.v (x_lenS rfl StringT.h (E.l rfl)) rfl rfl rfl rfl ?_ | refine VP.v (x_lenL rfl SliceT.u (E.l rfl)) rfl rfl rfl rfl ?_ | refine VP.v (x_fld rfl FieldT.h (E.l rfl)) rfl rfl rfl rfl ?_ | refine VP.v (x_idxAT rfl (E.l rfl) (E.l rfl) (by omega)) rfl rfl rfl rfl ?_ | refine VP.v (x_load rfl (E.l rfl) ScalarT.a (by first | assumption | exact (Own.cell (by assumption) _).trans rfl)) rfl rfl rfl rfl ?_ | refine VP.v (x_loadA rfl (E.l rfl) AggT.a AggT.z (by first | assumption | exact Own.loadAll (by assumption) rfl)) rfl rfl rfl rfl ?_ | refine VP.v (x_idxS rfl StringT.h (E.l rfl) (E.l rfl) (by assumption)) rfl rfl rfl rfl ?_ | refine VP.v (x_add rfl (E.l rfl) (E.l rfl) (by omega) (by omega)) rfl rfl rfl rfl ?_ | refine VP.v (x_sub rfl (E.l rfl) (E.l rfl) (by omega) (by omega)) rfl rfl rfl rfl ?_ | skip)
    | refine WP.nil ?_
    | refine V.not rfl rfl ?_
    | refine VP.not rfl rfl rfl ?_
    | ((first | refine V.split rfl rfl rfl rfl ?_ ?_ | refine VP.split hpk rfl rfl rfl rfl rfl ?_ ?_ | refine V.cond rfl ?_ ?_) <;> intro hB <;> (try simp only [ltB_eq, leB_eq, eqB_eq, seB_eq, decide_eq_true_eq, decide_eq_false_iff_not, Bool.not_eq_true', Bool.not_eq_false', Bool.not_eq_true, Bool.not_eq_false] at hB) <;> (try (exfalso; first | omega | exact hB trivial))))
    refine V.ret hk FuncT.h rfl ⟨?_, hl1⟩
    rw [ixF_none fun w hw => hal w (by rw [List.take_of_length_le (by omega)]; exact hw)]; rfl
theorem proc_any (l : List Proc) (sv : Value) (f : Nat) (cap : List Value) (p : Proc → Bool) (h : SX.H) (sl : Sl h encProc 7 sv l) (nl : l.length ≤ 140737488351232) (hf : fnOk e f = true)
    (hp : ∀ x, x ∈ l → ∀ h1, HLe h h1 → Gives P e f (.agg ⟨encProc x⟩ :: cap) h1 (fun v h2 => v = .bool (p x) ∧ HLe h1 h2)) :
    Gives P e 93 [sv, .func (.func f) ⟨[]⟩ ⟨cap⟩] h (fun v h' => v = .bool (l.any p) ∧ HLe h h') := by
  refine V.body FuncT.h rfl ?_
  intro c y xs hk
  repeat' (first
    | refine V.ctl rfl ?_
    | (refine V.on rfl ?_; first | refine V.easy rfl rfl ?_ | refine V.val (x_lenS rfl StringT.h (E.l rfl)) rfl ?_ | refine V.val (x_lenL rfl SliceT.u (E.l rfl)) rfl ?_ | refine V.val (x_fld rfl FieldT.h (E.l rfl)) rfl ?_ | refine V.val (x_idxAT rfl (E.l rfl) (E.l rfl) (by omega)) rfl ?_ | refine V.val (x_load rfl (E.l rfl) ScalarT.a (by first | assumption | exact (Own.cell (by assumption) _).trans rfl)) rfl ?_ | refine V.val (x_loadA rfl (E.l rfl) AggT.a AggT.z (by first | assumption | exact Own.loadAll (by assumption) rfl)) rfl ?_ | refine V.val (x_idxS rfl StringT.h (E.l rfl) (E.l rfl) (by assumption)) rfl ?_ | refine V.val (x_add rfl (E.l rfl) (E.l rfl) (by omega) (by omega)) rfl ?_ | refine V.val (x_sub rfl (E.l rfl) (E.l rfl) (by omega) (by omega)) rfl ?_ | (refine V.call (x_call rfl FuncT.ok (E.s rfl)) rfl (proc_ix l _ _ _ p _ sl nl hf hp) ?_; rintro v h2 ⟨rfl, hl2⟩) | skip)
    | (refine VP.on rfl rfl ?_; first | refine VP.easy rfl rfl rfl rfl rfl ?_ | refine VP.v (x_lenS rfl StringT.h (E.l rfl)) rfl rfl rfl rfl ?_ | refine VP.v (x_lenL rfl SliceT.u (E.l rfl)) rfl rfl rfl rfl ?_ | refine VP.v (x_fld rfl FieldT.h (E.l rfl)) rfl rfl rfl rfl ?_ | refine VP.v (x_idxAT rfl (E.l rfl) (E.l rfl) (by omega)) rfl rfl rfl rfl ?_ | refine VP.v (x_load rfl (E.l rfl) ScalarT.a (by first | assumption | exact (Own.cell (by assumption) _).trans rfl)) rfl rfl rfl rfl ?_ | refine VP.v (x_loadA rfl (E.l rfl) AggT.a AggT.z (by first | assumption | exact Own.loadAll (by assumption) rfl)) rfl rfl rfl rfl ?_ | refine VP.v (x_idxS rfl StringT.h (E.l rfl) (E.l rfl) (by assumption)) rfl rfl rfl rfl ?_ | refine VP.v (x_add rfl (E.l rfl) (E.l rfl) (by omega) (by omega)) rfl rfl rfl rfl ?_ | refine VP.v (x_sub rfl (E.l rfl) (E.l rfl) (by omega) (by omega)) rfl rfl rfl rfl ?_ | (refine V.call (x_call rfl FuncT.ok (E.s rfl)) rfl (proc_ix l _ _ _ p _ sl nl hf hp) ?_; rintro v h2 ⟨rfl, hl2⟩) | skip)
    | refine WP.nil ?_
    | refine V.not rfl rfl ?_
    | refine VP.not rfl rfl rfl ?_
    | ((first | refine V.split rfl rfl rfl rfl ?_ ?_ | refine VP.split hpk rfl rfl rfl rfl rfl ?_ ?_ | refine V.cond rfl ?_ ?_) <;> intro hB <;> (try simp only [ltB_eq, leB_eq, eqB_eq, seB_eq, decide_eq_true_eq, decide_eq_false_iff_not, Bool.not_eq_true', Bool.not_eq_false', Bool.not_eq_true, Bool.not_eq_false] at hB) <;> (try (exfalso; first | omega | exact hB trivial))))
  refine V.ret hk FuncT.h rfl ⟨retB ?_, hl2⟩
  rw [leB_eq, ixF_any]
def askedB (l : List Priv) : Int := if l.any (fun x => !privB x) then 1 else if 50 < l.length then 4 else 0
theorem asked_fn (l : List Priv) (lv : Value) (h : SX.H) (sl : Sl h encPriv 3 lv l) (nl : l.length ≤ 140737488351232) (fl : ∀ x, x ∈ l → x.Fit) :
    Gives P e 47 [.slice none 0 0, lv] h (fun v h' => v = .int .i64 (askedB l) ∧ HLe h h') := by
  obtain ⟨la, lc, rfl, hlv⟩ := sl.view
  refine V.body FuncT.h rfl ?_
  intro c y xs hk
  repeat' (first
    | refine V.ctl rfl ?_
    | (refine V.on rfl ?_; first | refine V.easy rfl rfl ?_ | refine V.val (x_lenS rfl StringT.h (E.l rfl)) rfl ?_ | refine V.val (x_lenL rfl SliceT.u (E.l rfl)) rfl ?_ | refine V.val (x_fld rfl FieldT.h (E.l rfl)) rfl ?_ | refine V.val (x_idxAT rfl (E.l rfl) (E.l rfl) (by omega)) rfl ?_ | refine V.val (x_load rfl (E.l rfl) ScalarT.a (by first | assumption | exact (Own.cell (by assumption) _).trans rfl)) rfl ?_ | refine V.val (x_loadA rfl (E.l rfl) AggT.a AggT.z (by first | assumption | exact Own.loadAll (by assumption) rfl)) rfl ?_ | refine V.val (x_idxS rfl StringT.h (E.l rfl) (E.l rfl) (by assumption)) rfl ?_ | refine V.val (x_add rfl (E.l rfl) (E.l rfl) (by omega) (by omega)) rfl ?_ | refine V.val (x_sub rfl (E.l rfl) (E.l rfl) (by omega) (by omega)) rfl ?_ | (refine V.call (x_call rfl FuncT.ok (E.s rfl)) rfl (proc_any [] _ 94 [] (fun _ => false) _ Sl.nil (by decide) FuncT.ok (fun x hx => absurd hx (List.not_mem_nil))) ?_; rintro v h2 ⟨rfl, hl2⟩) | (refine V.call (x_call rfl FuncT.ok (E.s rfl)) rfl (priv_any l _ 96 [] (fun x => !privB x) _ (sl.grow hl2) nl FuncT.ok (fun x hx h1 _ => privNot_fn x (fl x hx) h1)) ?_; rintro v h2 ⟨rfl, hl2⟩) | skip)
    | (refine VP.on rfl rfl ?_; first | refine VP.easy rfl rfl rfl rfl rfl ?_ | refine VP.v (x_lenS rfl StringT.h (E.l rfl)) rfl rfl rfl rfl ?_ | refine VP.v (x_lenL rfl SliceT.u (E.l rfl)) rfl rfl rfl rfl ?_ | refine VP.v (x_fld rfl FieldT.h (E.l rfl)) rfl rfl rfl rfl ?_ | refine VP.v (x_idxAT rfl (E.l rfl) (E.l rfl) (by omega)) rfl rfl rfl rfl ?_ | refine VP.v (x_load rfl (E.l rfl) ScalarT.a (by first | assumption | exact (Own.cell (by assumption) _).trans rfl)) rfl rfl rfl rfl ?_ | refine VP.v (x_loadA rfl (E.l rfl) AggT.a AggT.z (by first | assumption | exact Own.loadAll (by assumption) rfl)) rfl rfl rfl rfl ?_ | refine VP.v (x_idxS rfl StringT.h (E.l rfl) (E.l rfl) (by assumption)) rfl rfl rfl rfl ?_ | refine VP.v (x_add rfl (E.l rfl) (E.l rfl) (by omega) (by omega)) rfl rfl rfl rfl ?_ | refine VP.v (x_sub rfl (E.l rfl) (E.l rfl) (by omega) (by omega)) rfl rfl rfl rfl ?_ | (refine V.call (x_call rfl FuncT.ok (E.s rfl)) rfl (proc_any [] _ 94 [] (fun _ => false) _ Sl.nil (by decide) FuncT.ok (fun x hx => absurd hx (List.not_mem_nil))) ?_; rintro v h2 ⟨rfl, hl2⟩) | (refine V.call (x_call rfl FuncT.ok (E.s rfl)) rfl (priv_any l _ 96 [] (fun x => !privB x) _ (sl.grow hl2) nl FuncT.ok (fun x hx h1 _ => privNot_fn x (fl x hx) h1)) ?_; rintro v h2 ⟨rfl, hl2⟩) | skip)
    | refine WP.nil ?_
    | refine V.not rfl rfl ?_
    | refine VP.not rfl rfl rfl ?_
    | ((first | refine V.split rfl rfl rfl rfl ?_ ?_ | refine VP.split hpk rfl rfl rfl rfl rfl ?_ ?_ | refine V.cond rfl ?_ ?_) <;> intro hB <;> (try simp only [ltB_eq, leB_eq, eqB_eq, seB_eq, decide_eq_true_eq, decide_eq_false_iff_not, Bool.not_eq_true', Bool.not_eq_false', Bool.not_eq_true, Bool.not_eq_false] at hB) <;> (try (exfalso; first | omega | exact hB trivial))))
  · rename_i hl1
    refine V.ret hk FuncT.h rfl ⟨?_, hl1.trans hl2⟩
    simp only [askedB, hB, if_true]; rfl
  · rename_i h1 hl1
    have hl12 := hl1.trans hl2
    have hP := hB
    refine V.rounds (α := Unit) (fun _ => 0) (fun _ => [(0, .slice none 0 0), (1, .slice la l.length lc), (14, .int .i64 0), (15, .int .i64 0)]) (fun _ h' => h' = h2) () ⟨rfl, rfl, rfl, rfl, trivial⟩ rfl ?_
    rintro _ h3 rfl ih
    repeat' (first
    | refine V.ctl rfl ?_
    | (refine V.on rfl ?_; first | refine V.easy rfl rfl ?_ | refine V.val (x_lenS rfl StringT.h (E.l rfl)) rfl ?_ | refine V.val (x_lenL rfl SliceT.u (E.l rfl)) rfl ?_ | refine V.val (x_fld rfl FieldT.h (E.l rfl)) rfl ?_ | refine V.val (x_idxAT rfl (E.l rfl) (E.l rfl) (by omega)) rfl ?_ | refine V.val (x_load rfl (E.l rfl) ScalarT.a (by first | assumption | exact (Own.cell (by assumption) _).trans rfl)) rfl ?_ | refine V.val (x_loadA rfl (E.l rfl) AggT.a AggT.z (by first | assumption | exact Own.loadAll (by assumption) rfl)) rfl ?_ | refine V.val (x_idxS rfl StringT.h (E.l rfl) (E.l rfl) (by assumption)) rfl ?_ | refine V.val (x_add rfl (E.l rfl) (E.l rfl) (by omega) (by omega)) rfl ?_ | refine V.val (x_sub rfl (E.l rfl) (E.l rfl) (by omega) (by omega)) rfl ?_ | skip)
    | (refine VP.on rfl rfl ?_; first | refine VP.easy rfl rfl rfl rfl rfl ?_ | refine VP.v (x_lenS rfl StringT.h (E.l rfl)) rfl rfl rfl rfl ?_ | refine VP.v (x_lenL rfl SliceT.u (E.l rfl)) rfl rfl rfl rfl ?_ | refine VP.v (x_fld rfl FieldT.h (E.l rfl)) rfl rfl rfl rfl ?_ | refine VP.v (x_idxAT rfl (E.l rfl) (E.l rfl) (by omega)) rfl rfl rfl rfl ?_ | refine VP.v (x_load rfl (E.l rfl) ScalarT.a (by first | assumption | exact (Own.cell (by assumption) _).trans rfl)) rfl rfl rfl rfl ?_ | refine VP.v (x_loadA rfl (E.l rfl) AggT.a AggT.z (by first | assumption | exact Own.loadAll (by assumption) rfl)) rfl rfl rfl rfl ?_ | refine VP.v (x_idxS rfl StringT.h (E.l rfl) (E.l rfl) (by assumption)) rfl rfl rfl rfl ?_ | refine VP.v (x_add rfl (E.l rfl) (E.l rfl) (by omega) (by omega)) rfl rfl rfl rfl ?_ | refine VP.v (x_sub rfl (E.l rfl) (E.l rfl) (by omega) (by omega)) rfl rfl rfl rfl ?_ | skip)
    | refine WP.nil ?_
    | refine V.not rfl rfl ?_
    | refine VP.not rfl rfl rfl ?_
    | ((first | refine V.split rfl rfl rfl rfl ?_ ?_ | refine VP.split hpk rfl rfl rfl rfl rfl ?_ ?_ | refine V.cond rfl ?_ ?_) <;> intro hB <;> (try simp only [ltB_eq, leB_eq, eqB_eq, seB_eq, decide_eq_true_eq, decide_eq_false_iff_not, Bool.not_eq_true', Bool.not_eq_false', Bool.not_eq_true, Bool.not_eq_false] at hB) <;> (try (exfalso; first | omega | exact hB trivial))))
    · refine V.ret hk FuncT.h rfl ⟨?_, hl12⟩
      simp only [askedB, hP, Bool.false_eq_true, if_false, if_pos (show 50 < l.length by omega)]; rfl
    · refine V.ret hk FuncT.h rfl ⟨?_, hl12⟩
      simp only [askedB, hP, Bool.false_eq_true, if_false, if_neg (show ¬ 50 < l.length by omega)]; rfl
theorem cloneP_fn (h : SX.H) : Gives P e 48 [.slice none 0 0] h (fun v h' => v = .slice none 0 0 ∧ h' = h) := by
  refine V.body FuncT.h rfl ?_
  intro c y xs hk
  repeat' (first
    | refine V.ctl rfl ?_
    | (refine V.on rfl ?_; first | refine V.easy rfl rfl ?_ | refine V.val (x_lenS rfl StringT.h (E.l rfl)) rfl ?_ | refine V.val (x_lenL rfl SliceT.u (E.l rfl)) rfl ?_ | refine V.val (x_fld rfl FieldT.h (E.l rfl)) rfl ?_ | refine V.val (x_idxAT rfl (E.l rfl) (E.l rfl) (by omega)) rfl ?_ | refine V.val (x_load rfl (E.l rfl) ScalarT.a (by first | assumption | exact (Own.cell (by assumption) _).trans rfl)) rfl ?_ | refine V.val (x_loadA rfl (E.l rfl) AggT.a AggT.z (by first | assumption | exact Own.loadAll (by assumption) rfl)) rfl ?_ | refine V.val (x_idxS rfl StringT.h (E.l rfl) (E.l rfl) (by assumption)) rfl ?_ | refine V.val (x_add rfl (E.l rfl) (E.l rfl) (by omega) (by omega)) rfl ?_ | refine V.val (x_sub rfl (E.l rfl) (E.l rfl) (by omega) (by omega)) rfl ?_ | (refine V.val (x_eqn rfl (E.l rfl) (E.l rfl)) rfl ?_) | skip)
    | (refine VP.on rfl rfl ?_; first | refine VP.easy rfl rfl rfl rfl rfl ?_ | refine VP.v (x_lenS rfl StringT.h (E.l rfl)) rfl rfl rfl rfl ?_ | refine VP.v (x_lenL rfl SliceT.u (E.l rfl)) rfl rfl rfl rfl ?_ | refine VP.v (x_fld rfl FieldT.h (E.l rfl)) rfl rfl rfl rfl ?_ | refine VP.v (x_idxAT rfl (E.l rfl) (E.l rfl) (by omega)) rfl rfl rfl rfl ?_ | refine VP.v (x_load rfl (E.l rfl) ScalarT.a (by first | assumption | exact (Own.cell (by assumption) _).trans rfl)) rfl rfl rfl rfl ?_ | refine VP.v (x_loadA rfl (E.l rfl) AggT.a AggT.z (by first | assumption | exact Own.loadAll (by assumption) rfl)) rfl rfl rfl rfl ?_ | refine VP.v (x_idxS rfl StringT.h (E.l rfl) (E.l rfl) (by assumption)) rfl rfl rfl rfl ?_ | refine VP.v (x_add rfl (E.l rfl) (E.l rfl) (by omega) (by omega)) rfl rfl rfl rfl ?_ | refine VP.v (x_sub rfl (E.l rfl) (E.l rfl) (by omega) (by omega)) rfl rfl rfl rfl ?_ | (refine V.val (x_eqn rfl (E.l rfl) (E.l rfl)) rfl ?_) | skip)
    | refine WP.nil ?_
    | refine V.not rfl rfl ?_
    | refine VP.not rfl rfl rfl ?_
    | ((first | refine V.split rfl rfl rfl rfl ?_ ?_ | refine VP.split hpk rfl rfl rfl rfl rfl ?_ ?_ | refine V.cond rfl ?_ ?_) <;> intro hB <;> (try simp only [ltB_eq, leB_eq, eqB_eq, seB_eq, decide_eq_true_eq, decide_eq_false_iff_not, Bool.not_eq_true', Bool.not_eq_false', Bool.not_eq_true, Bool.not_eq_false] at hB) <;> (try (exfalso; first | omega | exact hB trivial))))
  exact V.ret hk FuncT.h rfl ⟨rfl, rfl⟩
theorem cloneL_fn (l : List Priv) (lv : Value) (h : SX.H) (sl : Sl h encPriv 3 lv l) (nl : l.length ≤ 60) :
    Gives P e 49 [lv] h (fun v h' => Sl h' encPriv 3 v l ∧ HLe h h') := by
  have sl0 := sl
  obtain ⟨la, lc, rfl, hlv⟩ := sl.view
  refine V.body FuncT.h rfl ?_
  intro c y xs hk
  refine W.fresh fun hf0 => ?_
  cases hla : la with
  | none =>
    subst hla
    repeat' (first
    | refine V.ctl rfl ?_
    | (refine V.on rfl ?_; first | refine V.easy rfl rfl ?_ | refine V.val (x_lenS rfl StringT.h (E.l rfl)) rfl ?_ | refine V.val (x_lenL rfl SliceT.u (E.l rfl)) rfl ?_ | refine V.val (x_fld rfl FieldT.h (E.l rfl)) rfl ?_ | refine V.val (x_idxAT rfl (E.l rfl) (E.l rfl) (by omega)) rfl ?_ | refine V.val (x_load rfl (E.l rfl) ScalarT.a (by first | assumption | exact (Own.cell (by assumption) _).trans rfl)) rfl ?_ | refine V.val (x_loadA rfl (E.l rfl) AggT.a AggT.z (by first | assumption | exact Own.loadAll (by assumption) rfl)) rfl ?_ | refine V.val (x_idxS rfl StringT.h (E.l rfl) (E.l rfl) (by assumption)) rfl ?_ | refine V.val (x_add rfl (E.l rfl) (E.l rfl) (by omega) (by omega)) rfl ?_ | refine V.val (x_sub rfl (E.l rfl) (E.l rfl) (by omega) (by omega)) rfl ?_ | (refine V.val (x_eqn rfl (E.l rfl) (E.l rfl)) rfl ?_) | skip)
    | (refine VP.on rfl rfl ?_; first | refine VP.easy rfl rfl rfl rfl rfl ?_ | refine VP.v (x_lenS rfl StringT.h (E.l rfl)) rfl rfl rfl rfl ?_ | refine VP.v (x_lenL rfl SliceT.u (E.l rfl)) rfl rfl rfl rfl ?_ | refine VP.v (x_fld rfl FieldT.h (E.l rfl)) rfl rfl rfl rfl ?_ | refine VP.v (x_idxAT rfl (E.l rfl) (E.l rfl) (by omega)) rfl rfl rfl rfl ?_ | refine VP.v (x_load rfl (E.l rfl) ScalarT.a (by first | assumption | exact (Own.cell (by assumption) _).trans rfl)) rfl rfl rfl rfl ?_ | refine VP.v (x_loadA rfl (E.l rfl) AggT.a AggT.z (by first | assumption | exact Own.loadAll (by assumption) rfl)) rfl rfl rfl rfl ?_ | refine VP.v (x_idxS rfl StringT.h (E.l rfl) (E.l rfl) (by assumption)) rfl rfl rfl rfl ?_ | refine VP.v (x_add rfl (E.l rfl) (E.l rfl) (by omega) (by omega)) rfl rfl rfl rfl ?_ | refine VP.v (x_sub rfl (E.l rfl) (E.l rfl) (by omega) (by omega)) rfl rfl rfl rfl ?_ | (refine V.val (x_eqn rfl (E.l rfl) (E.l rfl)) rfl ?_) | skip)
    | refine WP.nil ?_
    | refine V.not rfl rfl ?_
    | refine VP.not rfl rfl rfl ?_
    | ((first | refine V.split rfl rfl rfl rfl ?_ ?_ | refine VP.split hpk rfl rfl rfl rfl rfl ?_ ?_ | refine V.cond rfl ?_ ?_) <;> intro hB <;> (try simp only [ltB_eq, leB_eq, eqB_eq, seB_eq, decide_eq_true_eq, decide_eq_false_iff_not, Bool.not_eq_true', Bool.not_eq_false', Bool.not_eq_true, Bool.not_eq_false] at hB) <;> (try (exfalso; first | omega | exact hB trivial))))
    have h0 := (Sl.caps sl0).2 rfl
    have : l = [] := List.eq_nil_of_length_eq_zero h0.1
    subst this
    exact V.ret hk FuncT.h rfl ⟨Sl.nil, HLe.refl _⟩
  | some ad =>
    subst hla
    repeat' (first
    | refine V.ctl rfl ?_
    | (refine V.on rfl ?_; first | refine V.easy rfl rfl ?_ | refine V.val (x_lenS rfl StringT.h (E.l rfl)) rfl ?_ | refine V.val (x_lenL rfl SliceT.u (E.l rfl)) rfl ?_ | refine V.val (x_fld rfl FieldT.h (E.l rfl)) rfl ?_ | refine V.val (x_idxAT rfl (E.l rfl) (E.l rfl) (by omega)) rfl ?_ | refine V.val (x_load rfl (E.l rfl) ScalarT.a (by first | assumption | exact (Own.cell (by assumption) _).trans rfl)) rfl ?_ | refine V.val (x_loadA rfl (E.l rfl) AggT.a AggT.z (by first | assumption | exact Own.loadAll (by assumption) rfl)) rfl ?_ | refine V.val (x_idxS rfl StringT.h (E.l rfl) (E.l rfl) (by assumption)) rfl ?_ | refine V.val (x_add rfl (E.l rfl) (E.l rfl) (by omega) (by omega)) rfl ?_ | refine V.val (x_sub rfl (E.l rfl) (E.l rfl) (by omega) (by omega)) rfl ?_ | (refine V.val (x_eqn rfl (E.l rfl) (E.l rfl)) rfl ?_) | (refine V.new (v := fun r => .slice (some ⟨r, 0, some 3⟩) 0 (capE 0)) (x_bslice rfl (E.p rfl) rfl rfl rfl) rfl ?_; intro r1 h1 hl1 ho1 hn1 hr1 hf1) | skip)
    | (refine VP.on rfl rfl ?_; first | refine VP.easy rfl rfl rfl rfl rfl ?_ | refine VP.v (x_lenS rfl StringT.h (E.l rfl)) rfl rfl rfl rfl ?_ | refine VP.v (x_lenL rfl SliceT.u (E.l rfl)) rfl rfl rfl rfl ?_ | refine VP.v (x_fld rfl FieldT.h (E.l rfl)) rfl rfl rfl rfl ?_ | refine VP.v (x_idxAT rfl (E.l rfl) (E.l rfl) (by omega)) rfl rfl rfl rfl ?_ | refine VP.v (x_load rfl (E.l rfl) ScalarT.a (by first | assumption | exact (Own.cell (by assumption) _).trans rfl)) rfl rfl rfl rfl ?_ | refine VP.v (x_loadA rfl (E.l rfl) AggT.a AggT.z (by first | assumption | exact Own.loadAll (by assumption) rfl)) rfl rfl rfl rfl ?_ | refine VP.v (x_idxS rfl StringT.h (E.l rfl) (E.l rfl) (by assumption)) rfl rfl rfl rfl ?_ | refine VP.v (x_add rfl (E.l rfl) (E.l rfl) (by omega) (by omega)) rfl rfl rfl rfl ?_ | refine VP.v (x_sub rfl (E.l rfl) (E.l rfl) (by omega) (by omega)) rfl rfl rfl rfl ?_ | (refine V.val (x_eqn rfl (E.l rfl) (E.l rfl)) rfl ?_) | (refine V.new (v := fun r => .slice (some ⟨r, 0, some 3⟩) 0 (capE 0)) (x_bslice rfl (E.p rfl) rfl rfl rfl) rfl ?_; intro r1 h1 hl1 ho1 hn1 hr1 hf1) | skip)
    | refine WP.nil ?_
    | refine V.not rfl rfl ?_
    | refine VP.not rfl rfl rfl ?_
    | ((first | refine V.split rfl rfl rfl rfl ?_ ?_ | refine VP.split hpk rfl rfl rfl rfl rfl ?_ ?_ | refine V.cond rfl ?_ ?_) <;> intro hB <;> (try simp only [ltB_eq, leB_eq, eqB_eq, seB_eq, decide_eq_true_eq, decide_eq_false_iff_not, Bool.not_eq_true', Bool.not_eq_false', Bool.not_eq_true, Bool.not_eq_false] at hB) <;> (try (exfalso; first | omega | exact hB trivial))))
    have s1 : Sl h1 encPriv 3 (.slice (some ⟨r1, 0, some 3⟩) 0 (capE 0)) ([] : List Priv) := .inr ⟨r1, 0, capE 0, rfl, Own.loadAll (n := 0) ho1 rfl, fun x hx => (by cases hx), hr1, Nat.zero_le _⟩
    refine V.append rfl rfl rfl rfl s1 (sl0.grow hl1) hf1 hl1.n (OwnS.own ho1 hn1 (by decide)) (fun _ => rfl) (by simp only [List.length_nil]; omega) (by simp only [List.length_nil]; omega) ?_
    intro v h2 ap
    repeat' (first
    | refine V.ctl rfl ?_
    | (refine V.on rfl ?_; first | refine V.easy rfl rfl ?_ | refine V.val (x_lenS rfl StringT.h (E.l rfl)) rfl ?_ | refine V.val (x_lenL rfl SliceT.u (E.l rfl)) rfl ?_ | refine V.val (x_fld rfl FieldT.h (E.l rfl)) rfl ?_ | refine V.val (x_idxAT rfl (E.l rfl) (E.l rfl) (by omega)) rfl ?_ | refine V.val (x_load rfl (E.l rfl) ScalarT.a (by first | assumption | exact (Own.cell (by assumption) _).trans rfl)) rfl ?_ | refine V.val (x_loadA rfl (E.l rfl) AggT.a AggT.z (by first | assumption | exact Own.loadAll (by assumption) rfl)) rfl ?_ | refine V.val (x_idxS rfl StringT.h (E.l rfl) (E.l rfl) (by assumption)) rfl ?_ | refine V.val (x_add rfl (E.l rfl) (E.l rfl) (by omega) (by omega)) rfl ?_ | refine V.val (x_sub rfl (E.l rfl) (E.l rfl) (by omega) (by omega)) rfl ?_ | skip)
    | (refine VP.on rfl rfl ?_; first | refine VP.easy rfl rfl rfl rfl rfl ?_ | refine VP.v (x_lenS rfl StringT.h (E.l rfl)) rfl rfl rfl rfl ?_ | refine VP.v (x_lenL rfl SliceT.u (E.l rfl)) rfl rfl rfl rfl ?_ | refine VP.v (x_fld rfl FieldT.h (E.l rfl)) rfl rfl rfl rfl ?_ | refine VP.v (x_idxAT rfl (E.l rfl) (E.l rfl) (by omega)) rfl rfl rfl rfl ?_ | refine VP.v (x_load rfl (E.l rfl) ScalarT.a (by first | assumption | exact (Own.cell (by assumption) _).trans rfl)) rfl rfl rfl rfl ?_ | refine VP.v (x_loadA rfl (E.l rfl) AggT.a AggT.z (by first | assumption | exact Own.loadAll (by assumption) rfl)) rfl rfl rfl rfl ?_ | refine VP.v (x_idxS rfl StringT.h (E.l rfl) (E.l rfl) (by assumption)) rfl rfl rfl rfl ?_ | refine VP.v (x_add rfl (E.l rfl) (E.l rfl) (by omega) (by omega)) rfl rfl rfl rfl ?_ | refine VP.v (x_sub rfl (E.l rfl) (E.l rfl) (by omega) (by omega)) rfl rfl rfl rfl ?_ | skip)
    | refine WP.nil ?_
    | refine V.not rfl rfl ?_
    | refine VP.not rfl rfl rfl ?_
    | ((first | refine V.split rfl rfl rfl rfl ?_ ?_ | refine VP.split hpk rfl rfl rfl rfl rfl ?_ ?_ | refine V.cond rfl ?_ ?_) <;> intro hB <;> (try simp only [ltB_eq, leB_eq, eqB_eq, seB_eq, decide_eq_true_eq, decide_eq_false_iff_not, Bool.not_eq_true', Bool.not_eq_false', Bool.not_eq_true, Bool.not_eq_false] at hB) <;> (try (exfalso; first | omega | exact hB trivial))))
    exact V.ret hk FuncT.h rfl ⟨ap.sl, ap.le h hl1 hf0 (Nat.le_refl _)⟩
end Go.Proofs.YtladhpocefnkjaaGreatDoor
namespace Go.Proofs.YtladhpocefnkjaaGreatDoor
open Go Go.SX
variable {P : Program} {e : E} [GEnv e]
/-- a guard in memory -/
def GuardIn (h : SX.H) (rg : Nat) (l : List Priv) : Prop := ∃ pv lv nv, h.loadAt rg 0 3 = some [pv, lv, nv] ∧ Sl h encPriv 3 lv l
theorem GuardIn.grow {h h' : SX.H} {rg : Nat} {l : List Priv} (hg : GuardIn h rg l) (hl : HLe h h') : GuardIn h' rg l := by
  obtain ⟨pv, lv, nv, q1, q2⟩ := hg
  exact ⟨pv, lv, nv, hl.loadAt q1, q2.grow hl⟩
def NewQ (l : List Priv) (h : SX.H) (v : Value) (h' : SX.H) : Prop :=
  HLe h h' ∧ ((askedB l ≠ 0 ∧ v = .tuple ⟨[.pointer none, .int .i64 (askedB l)]⟩) ∨ (askedB l = 0 ∧ ∃ rg, v = .tuple ⟨[.pointer (some ⟨rg, 0, none⟩), .int .i64 0]⟩ ∧ GuardIn h' rg l))
theorem new_fn (l : List Priv) (lv : Value) (h : SX.H) (sl : Sl h encPriv 3 lv l) (nl : l.length ≤ 60 ∨ askedB l ≠ 0) (nl2 : l.length ≤ 140737488351232) (fl : ∀ x, x ∈ l → x.Fit) :
    Gives P e 11 [.slice none 0 0, lv] h (NewQ l h) := by
  refine V.body FuncT.h rfl ?_
  intro c y xs hk
  repeat' (first
    | refine V.ctl rfl ?_
    | (refine V.on rfl ?_; first | refine V.easy rfl rfl ?_ | refine V.val (x_lenS rfl StringT.h (E.l rfl)) rfl ?_ | refine V.val (x_lenL rfl SliceT.u (E.l rfl)) rfl ?_ | refine V.val (x_fld rfl FieldT.h (E.l rfl)) rfl ?_ | refine V.val (x_idxAT rfl (E.l rfl) (E.l rfl) (by omega)) rfl ?_ | refine V.val (x_load rfl (E.l rfl) ScalarT.a (by first | assumption | exact (Own.cell (by assumption) _).trans rfl)) rfl ?_ | refine V.val (x_loadA rfl (E.l rfl) AggT.a AggT.z (by first | assumption | exact Own.loadAll (by assumption) rfl)) rfl ?_ | refine V.val (x_idxS rfl StringT.h (E.l rfl) (E.l rfl) (by assumption)) rfl ?_ | refine V.val (x_add rfl (E.l rfl) (E.l rfl) (by omega) (by omega)) rfl ?_ | refine V.val (x_sub rfl (E.l rfl) (E.l rfl) (by omega) (by omega)) rfl ?_ | (refine V.call (x_call rfl FuncT.ok (E.s rfl)) rfl (asked_fn l _ _ sl nl2 fl) ?_; rintro v h2 ⟨rfl, hl2⟩) | skip)
    | (refine VP.on rfl rfl ?_; first | refine VP.easy rfl rfl rfl rfl rfl ?_ | refine VP.v (x_lenS rfl StringT.h (E.l rfl)) rfl rfl rfl rfl ?_ | refine VP.v (x_lenL rfl SliceT.u (E.l rfl)) rfl rfl rfl rfl ?_ | refine VP.v (x_fld rfl FieldT.h (E.l rfl)) rfl rfl rfl rfl ?_ | refine VP.v (x_idxAT rfl (E.l rfl) (E.l rfl) (by omega)) rfl rfl rfl rfl ?_ | refine VP.v (x_load rfl (E.l rfl) ScalarT.a (by first | assumption | exact (Own.cell (by assumption) _).trans rfl)) rfl rfl rfl rfl ?_ | refine VP.v (x_loadA rfl (E.l rfl) AggT.a AggT.z (by first | assumption | exact Own.loadAll (by assumption) rfl)) rfl rfl rfl rfl ?_ | refine VP.v (x_idxS rfl StringT.h (E.l rfl) (E.l rfl) (by assumption)) rfl rfl rfl rfl ?_ | refine VP.v (x_add rfl (E.l rfl) (E.l rfl) (by omega) (by omega)) rfl rfl rfl rfl ?_ | refine VP.v (x_sub rfl (E.l rfl) (E.l rfl) (by omega) (by omega)) rfl rfl rfl rfl ?_ | (refine V.call (x_call rfl FuncT.ok (E.s rfl)) rfl (asked_fn l _ _ sl nl2 fl) ?_; rintro v h2 ⟨rfl, hl2⟩) | skip)
    | refine WP.nil ?_
    | refine V.not rfl rfl ?_
    | refine VP.not rfl rfl rfl ?_
    | ((first | refine V.split rfl rfl rfl rfl ?_ ?_ | refine VP.split hpk rfl rfl rfl rfl rfl ?_ ?_ | refine V.cond rfl ?_ ?_) <;> intro hB <;> (try simp only [ltB_eq, leB_eq, eqB_eq, seB_eq, decide_eq_true_eq, decide_eq_false_iff_not, Bool.not_eq_true', Bool.not_eq_false', Bool.not_eq_true, Bool.not_eq_false] at hB) <;> (try (exfalso; first | omega | exact hB trivial))))
  · refine V.ret hk FuncT.h rfl ⟨hl2, .inl ⟨by simpa using hB, rfl⟩⟩
  · have h0 : askedB l = 0 := by simpa using hB
    have nl3 : l.length ≤ 60 := by rcases nl with q | q; exact q; exact absurd h0 q
    (refine V.call (x_call rfl FuncT.ok (E.s rfl)) rfl (cloneP_fn _) ?_; rintro v h1 ⟨rfl, hh⟩; replace hh := hh.symm; subst hh)
    repeat' (first
    | refine V.ctl rfl ?_
    | (refine V.on rfl ?_; first | refine V.easy rfl rfl ?_ | refine V.val (x_lenS rfl StringT.h (E.l rfl)) rfl ?_ | refine V.val (x_lenL rfl SliceT.u (E.l rfl)) rfl ?_ | refine V.val (x_fld rfl FieldT.h (E.l rfl)) rfl ?_ | refine V.val (x_idxAT rfl (E.l rfl) (E.l rfl) (by omega)) rfl ?_ | refine V.val (x_load rfl (E.l rfl) ScalarT.a (by first | assumption | exact (Own.cell (by assumption) _).trans rfl)) rfl ?_ | refine V.val (x_loadA rfl (E.l rfl) AggT.a AggT.z (by first | assumption | exact Own.loadAll (by assumption) rfl)) rfl ?_ | refine V.val (x_idxS rfl StringT.h (E.l rfl) (E.l rfl) (by assumption)) rfl ?_ | refine V.val (x_add rfl (E.l rfl) (E.l rfl) (by omega) (by omega)) rfl ?_ | refine V.val (x_sub rfl (E.l rfl) (E.l rfl) (by omega) (by omega)) rfl ?_ | (refine V.call (x_call rfl FuncT.ok (E.s rfl)) rfl (cloneL_fn l _ _ (sl.grow hl2) nl3) ?_; rintro v h3 ⟨sl3, hl3⟩; obtain ⟨ca, cc, rfl, hcv⟩ := Sl.view sl3) | (refine V.val (x_build rfl (E.p rfl) rfl) rfl ?_) | (refine V.box rfl rfl rfl ?_; intro r1 h4 hl4 ho4 hn4 hr4 hf4) | skip)
    | (refine VP.on rfl rfl ?_; first | refine VP.easy rfl rfl rfl rfl rfl ?_ | refine VP.v (x_lenS rfl StringT.h (E.l rfl)) rfl rfl rfl rfl ?_ | refine VP.v (x_lenL rfl SliceT.u (E.l rfl)) rfl rfl rfl rfl ?_ | refine VP.v (x_fld rfl FieldT.h (E.l rfl)) rfl rfl rfl rfl ?_ | refine VP.v (x_idxAT rfl (E.l rfl) (E.l rfl) (by omega)) rfl rfl rfl rfl ?_ | refine VP.v (x_load rfl (E.l rfl) ScalarT.a (by first | assumption | exact (Own.cell (by assumption) _).trans rfl)) rfl rfl rfl rfl ?_ | refine VP.v (x_loadA rfl (E.l rfl) AggT.a AggT.z (by first | assumption | exact Own.loadAll (by assumption) rfl)) rfl rfl rfl rfl ?_ | refine VP.v (x_idxS rfl StringT.h (E.l rfl) (E.l rfl) (by assumption)) rfl rfl rfl rfl ?_ | refine VP.v (x_add rfl (E.l rfl) (E.l rfl) (by omega) (by omega)) rfl rfl rfl rfl ?_ | refine VP.v (x_sub rfl (E.l rfl) (E.l rfl) (by omega) (by omega)) rfl rfl rfl rfl ?_ | (refine V.call (x_call rfl FuncT.ok (E.s rfl)) rfl (cloneL_fn l _ _ (sl.grow hl2) nl3) ?_; rintro v h3 ⟨sl3, hl3⟩; obtain ⟨ca, cc, rfl, hcv⟩ := Sl.view sl3) | (refine V.val (x_build rfl (E.p rfl) rfl) rfl ?_) | (refine V.box rfl rfl rfl ?_; intro r1 h4 hl4 ho4 hn4 hr4 hf4) | skip)
    | refine WP.nil ?_
    | refine V.not rfl rfl ?_
    | refine VP.not rfl rfl rfl ?_
    | ((first | refine V.split rfl rfl rfl rfl ?_ ?_ | refine VP.split hpk rfl rfl rfl rfl rfl ?_ ?_ | refine V.cond rfl ?_ ?_) <;> intro hB <;> (try simp only [ltB_eq, leB_eq, eqB_eq, seB_eq, decide_eq_true_eq, decide_eq_false_iff_not, Bool.not_eq_true', Bool.not_eq_false', Bool.not_eq_true, Bool.not_eq_false] at hB) <;> (try (exfalso; first | omega | exact hB trivial))))
    refine V.ret hk FuncT.h rfl ⟨(hl2.trans hl3).trans hl4, .inr ⟨h0, r1, rfl, _, _, _, Own.loadAll ho4 rfl, sl3.grow hl4⟩⟩
def openB (l : List Priv) (d : Deed) : Bool := decide (ixF (closedB d) l 0 < 0)
def openV (l : List Priv) (d : Deed) : Value := if callB d then .tuple ⟨[.bool (openB l d), .int .i64 (ixF (closedB d) l 0), .int .i64 0]⟩ else .tuple ⟨[.bool false, .int .i64 0, .int .i64 1]⟩
theorem open_fn (l : List Priv) (rg : Nat) (d : Deed) (h : SX.H) (hg : GuardIn h rg l) (nl : l.length ≤ 140737488351232) (hd : DeedIn h d) :
    Gives P e 12 [.pointer (some ⟨rg, 0, none⟩), .agg ⟨encDeed d⟩] h (fun v h' => v = openV l d ∧ HLe h h') := by
  obtain ⟨pv, lv, nv, hg1, sl⟩ := hg
  refine V.body FuncT.h rfl ?_
  intro c y xs hk
  repeat' (first
    | refine V.ctl rfl ?_
    | (refine V.on rfl ?_; first | refine V.easy rfl rfl ?_ | refine V.val (x_lenS rfl StringT.h (E.l rfl)) rfl ?_ | refine V.val (x_lenL rfl SliceT.u (E.l rfl)) rfl ?_ | refine V.val (x_fld rfl FieldT.h (E.l rfl)) rfl ?_ | refine V.val (x_idxAT rfl (E.l rfl) (E.l rfl) (by omega)) rfl ?_ | refine V.val (x_load rfl (E.l rfl) ScalarT.a (by first | assumption | exact (Own.cell (by assumption) _).trans rfl)) rfl ?_ | refine V.val (x_loadA rfl (E.l rfl) AggT.a AggT.z (by first | assumption | exact Own.loadAll (by assumption) rfl)) rfl ?_ | refine V.val (x_idxS rfl StringT.h (E.l rfl) (E.l rfl) (by assumption)) rfl ?_ | refine V.val (x_add rfl (E.l rfl) (E.l rfl) (by omega) (by omega)) rfl ?_ | refine V.val (x_sub rfl (E.l rfl) (E.l rfl) (by omega) (by omega)) rfl ?_ | (refine V.box rfl rfl rfl ?_; intro r1 h1 hl1 ho1 hn1 hr1 hf1) | (refine V.val (x_eqp rfl (E.l rfl) (E.l rfl)) rfl ?_) | ((refine V.call (x_call rfl FuncT.ok (E.s rfl)) rfl (call_fn d _ (hd.grow hl1)) ?_; rintro v h2 ⟨rfl, hl2⟩); have ho2 := ho1.grow hf1 hl2) | (refine V.call (x_call rfl FuncT.ok (E.s rfl)) rfl (closed_fn l pv lv nv rg d _ ((hl1.trans hl2).loadAt hg1) (sl.grow (hl1.trans hl2)) nl (hd.grow (hl1.trans hl2))) ?_; rintro v h3 ⟨rfl, hl3⟩) | skip)
    | (refine VP.on rfl rfl ?_; first | refine VP.easy rfl rfl rfl rfl rfl ?_ | refine VP.v (x_lenS rfl StringT.h (E.l rfl)) rfl rfl rfl rfl ?_ | refine VP.v (x_lenL rfl SliceT.u (E.l rfl)) rfl rfl rfl rfl ?_ | refine VP.v (x_fld rfl FieldT.h (E.l rfl)) rfl rfl rfl rfl ?_ | refine VP.v (x_idxAT rfl (E.l rfl) (E.l rfl) (by omega)) rfl rfl rfl rfl ?_ | refine VP.v (x_load rfl (E.l rfl) ScalarT.a (by first | assumption | exact (Own.cell (by assumption) _).trans rfl)) rfl rfl rfl rfl ?_ | refine VP.v (x_loadA rfl (E.l rfl) AggT.a AggT.z (by first | assumption | exact Own.loadAll (by assumption) rfl)) rfl rfl rfl rfl ?_ | refine VP.v (x_idxS rfl StringT.h (E.l rfl) (E.l rfl) (by assumption)) rfl rfl rfl rfl ?_ | refine VP.v (x_add rfl (E.l rfl) (E.l rfl) (by omega) (by omega)) rfl rfl rfl rfl ?_ | refine VP.v (x_sub rfl (E.l rfl) (E.l rfl) (by omega) (by omega)) rfl rfl rfl rfl ?_ | (refine V.box rfl rfl rfl ?_; intro r1 h1 hl1 ho1 hn1 hr1 hf1) | (refine V.val (x_eqp rfl (E.l rfl) (E.l rfl)) rfl ?_) | ((refine V.call (x_call rfl FuncT.ok (E.s rfl)) rfl (call_fn d _ (hd.grow hl1)) ?_; rintro v h2 ⟨rfl, hl2⟩); have ho2 := ho1.grow hf1 hl2) | (refine V.call (x_call rfl FuncT.ok (E.s rfl)) rfl (closed_fn l pv lv nv rg d _ ((hl1.trans hl2).loadAt hg1) (sl.grow (hl1.trans hl2)) nl (hd.grow (hl1.trans hl2))) ?_; rintro v h3 ⟨rfl, hl3⟩) | skip)
    | refine WP.nil ?_
    | refine V.not rfl rfl ?_
    | refine VP.not rfl rfl rfl ?_
    | ((first | refine V.split rfl rfl rfl rfl ?_ ?_ | refine VP.split hpk rfl rfl rfl rfl rfl ?_ ?_ | refine V.cond rfl ?_ ?_) <;> intro hB <;> (try simp only [ltB_eq, leB_eq, eqB_eq, seB_eq, decide_eq_true_eq, decide_eq_false_iff_not, Bool.not_eq_true', Bool.not_eq_false', Bool.not_eq_true, Bool.not_eq_false] at hB) <;> (try (exfalso; first | omega | exact hB trivial))))
  · refine V.ret hk FuncT.h rfl ⟨?_, hl1.trans hl2⟩
    simp only [openV, hB, Bool.false_eq_true, if_false]; rfl
  · refine V.ret hk FuncT.h rfl ⟨?_, (hl1.trans hl2).trans hl3⟩
    simp only [openV, hB, if_true, openB, ← ltB_eq]; rfl
end Go.Proofs.YtladhpocefnkjaaGreatDoor
namespace Go.Proofs.YtladhpocefnkjaaGreatDoor
open Go Go.SX
variable {P : Program} {e : E} [GEnv e]
theorem names_fn (l : List ByteArray) (sv : Value) (h : SX.H) (sl : Sl h encS 1 sv l) (nl : l.length ≤ 140737488351232) (fl : ∀ x, x ∈ l → Fits x) :
    Gives P e 46 [sv] h (fun v h' => (∃ b, v = .bool b) ∧ h' = h) := by
  obtain ⟨sa, sc, rfl, hsv⟩ := sl.view
  refine V.body FuncT.h rfl ?_
  intro c y xs hk
  repeat' (first
    | refine V.ctl rfl ?_
    | (refine V.on rfl ?_; first | refine V.easy rfl rfl ?_ | refine V.val (x_lenS rfl StringT.h (E.l rfl)) rfl ?_ | refine V.val (x_lenL rfl SliceT.u (E.l rfl)) rfl ?_ | refine V.val (x_fld rfl FieldT.h (E.l rfl)) rfl ?_ | refine V.val (x_idxAT rfl (E.l rfl) (E.l rfl) (by omega)) rfl ?_ | refine V.val (x_load rfl (E.l rfl) ScalarT.a (by first | assumption | exact (Own.cell (by assumption) _).trans rfl)) rfl ?_ | refine V.val (x_loadA rfl (E.l rfl) AggT.a AggT.z (by first | assumption | exact Own.loadAll (by assumption) rfl)) rfl ?_ | refine V.val (x_idxS rfl StringT.h (E.l rfl) (E.l rfl) (by assumption)) rfl ?_ | refine V.val (x_add rfl (E.l rfl) (E.l rfl) (by omega) (by omega)) rfl ?_ | refine V.val (x_sub rfl (E.l rfl) (E.l rfl) (by omega) (by omega)) rfl ?_ | skip)
    | (refine VP.on rfl rfl ?_; first | refine VP.easy rfl rfl rfl rfl rfl ?_ | refine VP.v (x_lenS rfl StringT.h (E.l rfl)) rfl rfl rfl rfl ?_ | refine VP.v (x_lenL rfl SliceT.u (E.l rfl)) rfl rfl rfl rfl ?_ | refine VP.v (x_fld rfl FieldT.h (E.l rfl)) rfl rfl rfl rfl ?_ | refine VP.v (x_idxAT rfl (E.l rfl) (E.l rfl) (by omega)) rfl rfl rfl rfl ?_ | refine VP.v (x_load rfl (E.l rfl) ScalarT.a (by first | assumption | exact (Own.cell (by assumption) _).trans rfl)) rfl rfl rfl rfl ?_ | refine VP.v (x_loadA rfl (E.l rfl) AggT.a AggT.z (by first | assumption | exact Own.loadAll (by assumption) rfl)) rfl rfl rfl rfl ?_ | refine VP.v (x_idxS rfl StringT.h (E.l rfl) (E.l rfl) (by assumption)) rfl rfl rfl rfl ?_ | refine VP.v (x_add rfl (E.l rfl) (E.l rfl) (by omega) (by omega)) rfl rfl rfl rfl ?_ | refine VP.v (x_sub rfl (E.l rfl) (E.l rfl) (by omega) (by omega)) rfl rfl rfl rfl ?_ | skip)
    | refine WP.nil ?_
    | refine V.not rfl rfl ?_
    | refine VP.not rfl rfl rfl ?_
    | ((first | refine V.split rfl rfl rfl rfl ?_ ?_ | refine VP.split hpk rfl rfl rfl rfl rfl ?_ ?_ | refine V.cond rfl ?_ ?_) <;> intro hB <;> (try simp only [ltB_eq, leB_eq, eqB_eq, seB_eq, decide_eq_true_eq, decide_eq_false_iff_not, Bool.not_eq_true', Bool.not_eq_false', Bool.not_eq_true, Bool.not_eq_false] at hB) <;> (try (exfalso; first | omega | exact hB trivial))))
  refine V.rounds (α := Nat) (fun i => l.length - i) (fun i => [(0, .slice sa l.length sc), (3, .int .i64 (i : Nat))]) (fun i h' => i ≤ l.length ∧ h' = h) 0 ⟨rfl, rfl, trivial⟩ ⟨by omega, rfl⟩ ?_
  rintro i h ⟨hi, rfl⟩ ih
  by_cases hlt : i < l.length
  · obtain ⟨x, hx⟩ : ∃ x, l[i]? = some x := ⟨l[i], List.getElem?_eq_getElem hlt⟩
    obtain ⟨r, off, rfl, hld, hr⟩ := hsv i x hx
    have c0 := loadAt_cell hld (j := 0) rfl
    repeat' (first
    | refine V.ctl rfl ?_
    | (refine V.on rfl ?_; first | refine V.easy rfl rfl ?_ | refine V.val (x_lenS rfl StringT.h (E.l rfl)) rfl ?_ | refine V.val (x_lenL rfl SliceT.u (E.l rfl)) rfl ?_ | refine V.val (x_fld rfl FieldT.h (E.l rfl)) rfl ?_ | refine V.val (x_idxAT rfl (E.l rfl) (E.l rfl) (by omega)) rfl ?_ | refine V.val (x_load rfl (E.l rfl) ScalarT.a (by first | assumption | exact (Own.cell (by assumption) _).trans rfl)) rfl ?_ | refine V.val (x_loadA rfl (E.l rfl) AggT.a AggT.z (by first | assumption | exact Own.loadAll (by assumption) rfl)) rfl ?_ | refine V.val (x_idxS rfl StringT.h (E.l rfl) (E.l rfl) (by assumption)) rfl ?_ | refine V.val (x_add rfl (E.l rfl) (E.l rfl) (by omega) (by omega)) rfl ?_ | refine V.val (x_sub rfl (E.l rfl) (E.l rfl) (by omega) (by omega)) rfl ?_ | skip)
    | (refine VP.on rfl rfl ?_; first | refine VP.easy rfl rfl rfl rfl rfl ?_ | refine VP.v (x_lenS rfl StringT.h (E.l rfl)) rfl rfl rfl rfl ?_ | refine VP.v (x_lenL rfl SliceT.u (E.l rfl)) rfl rfl rfl rfl ?_ | refine VP.v (x_fld rfl FieldT.h (E.l rfl)) rfl rfl rfl rfl ?_ | refine VP.v (x_idxAT rfl (E.l rfl) (E.l rfl) (by omega)) rfl rfl rfl rfl ?_ | refine VP.v (x_load rfl (E.l rfl) ScalarT.a (by first | assumption | exact (Own.cell (by assumption) _).trans rfl)) rfl rfl rfl rfl ?_ | refine VP.v (x_loadA rfl (E.l rfl) AggT.a AggT.z (by first | assumption | exact Own.loadAll (by assumption) rfl)) rfl rfl rfl rfl ?_ | refine VP.v (x_idxS rfl StringT.h (E.l rfl) (E.l rfl) (by assumption)) rfl rfl rfl rfl ?_ | refine VP.v (x_add rfl (E.l rfl) (E.l rfl) (by omega) (by omega)) rfl rfl rfl rfl ?_ | refine VP.v (x_sub rfl (E.l rfl) (E.l rfl) (by omega) (by omega)) rfl rfl rfl rfl ?_ | skip)
    | refine WP.nil ?_
    | refine V.not rfl rfl ?_
    | refine VP.not rfl rfl rfl ?_
    | ((first | refine V.split rfl rfl rfl rfl ?_ ?_ | refine VP.split hpk rfl rfl rfl rfl rfl ?_ ?_ | refine V.cond rfl ?_ ?_) <;> intro hB <;> (try simp only [ltB_eq, leB_eq, eqB_eq, seB_eq, decide_eq_true_eq, decide_eq_false_iff_not, Bool.not_eq_true', Bool.not_eq_false', Bool.not_eq_true, Bool.not_eq_false] at hB) <;> (try (exfalso; first | omega | exact hB trivial))))
    all_goals first
      | exact V.ret hk FuncT.h rfl ⟨⟨_, rfl⟩, rfl⟩
      | exact ih (i + 1) _ _ (by omega) ⟨hlt, rfl⟩ ⟨rfl, rfl, trivial⟩
  · repeat' (first
    | refine V.ctl rfl ?_
    | (refine V.on rfl ?_; first | refine V.easy rfl rfl ?_ | refine V.val (x_lenS rfl StringT.h (E.l rfl)) rfl ?_ | refine V.val (x_lenL rfl SliceT.u (E.l rfl)) rfl ?_ | refine V.val (x_fld rfl FieldT.h (E.l rfl)) rfl ?_ | refine V.val (x_idxAT rfl (E.l rfl) (E.l rfl) (by omega)) rfl ?_ | refine V.val (x_load rfl (E.l rfl) ScalarT.a (by first | assumption | exact (Own.cell (by assumption) _).trans rfl)) rfl ?_ | refine V.val (x_loadA rfl (E.l rfl) AggT.a AggT.z (by first | assumption | exact Own.loadAll (by assumption) rfl)) rfl ?_ | refine V.val (x_idxS rfl StringT.h (E.l rfl) (E.l rfl) (by assumption)) rfl ?_ | refine V.val (x_add rfl (E.l rfl) (E.l rfl) (by omega) (by omega)) rfl ?_ | refine V.val (x_sub rfl (E.l rfl) (E.l rfl) (by omega) (by omega)) rfl ?_ | skip)
    | (refine VP.on rfl rfl ?_; first | refine VP.easy rfl rfl rfl rfl rfl ?_ | refine VP.v (x_lenS rfl StringT.h (E.l rfl)) rfl rfl rfl rfl ?_ | refine VP.v (x_lenL rfl SliceT.u (E.l rfl)) rfl rfl rfl rfl ?_ | refine VP.v (x_fld rfl FieldT.h (E.l rfl)) rfl rfl rfl rfl ?_ | refine VP.v (x_idxAT rfl (E.l rfl) (E.l rfl) (by omega)) rfl rfl rfl rfl ?_ | refine VP.v (x_load rfl (E.l rfl) ScalarT.a (by first | assumption | exact (Own.cell (by assumption) _).trans rfl)) rfl rfl rfl rfl ?_ | refine VP.v (x_loadA rfl (E.l rfl) AggT.a AggT.z (by first | assumption | exact Own.loadAll (by assumption) rfl)) rfl rfl rfl rfl ?_ | refine VP.v (x_idxS rfl StringT.h (E.l rfl) (E.l rfl) (by assumption)) rfl rfl rfl rfl ?_ | refine VP.v (x_add rfl (E.l rfl) (E.l rfl) (by omega) (by omega)) rfl rfl rfl rfl ?_ | refine VP.v (x_sub rfl (E.l rfl) (E.l rfl) (by omega) (by omega)) rfl rfl rfl rfl ?_ | skip)
    | refine WP.nil ?_
    | refine V.not rfl rfl ?_
    | refine VP.not rfl rfl rfl ?_
    | ((first | refine V.split rfl rfl rfl rfl ?_ ?_ | refine VP.split hpk rfl rfl rfl rfl rfl ?_ ?_ | refine V.cond rfl ?_ ?_) <;> intro hB <;> (try simp only [ltB_eq, leB_eq, eqB_eq, seB_eq, decide_eq_true_eq, decide_eq_false_iff_not, Bool.not_eq_true', Bool.not_eq_false', Bool.not_eq_true, Bool.not_eq_false] at hB) <;> (try (exfalso; first | omega | exact hB trivial))))
    all_goals exact V.ret hk FuncT.h rfl ⟨⟨_, rfl⟩, rfl⟩
theorem rows_fn (l : List Val) (sv rv : Value) (h : SX.H) (sl : Sl h (fun (v : Value) => [v]) 1 sv [rv]) (sr : Sl h encVal 3 rv l) (nl : l.length ≤ 140737488351232) :
    Gives P e 45 [sv] h (fun v h' => (∃ b, v = .bool b) ∧ h' = h) := by
  obtain ⟨sa, sc, rfl, hsv⟩ := sl.view
  obtain ⟨ra, rc, rfl, hrv⟩ := sr.view
  obtain ⟨r0, off0, rfl, hld0, hr0⟩ := hsv 0 _ rfl
  have c0 := loadAt_cell hld0 (j := 0) rfl
  refine V.body FuncT.h rfl ?_
  intro c y xs hk
  repeat' (first
    | refine V.ctl rfl ?_
    | (refine V.on rfl ?_; first | refine V.easy rfl rfl ?_ | refine V.val (x_lenS rfl StringT.h (E.l rfl)) rfl ?_ | refine V.val (x_lenL rfl SliceT.u (E.l rfl)) rfl ?_ | refine V.val (x_fld rfl FieldT.h (E.l rfl)) rfl ?_ | refine V.val (x_idxAT rfl (E.l rfl) (E.l rfl) (by omega)) rfl ?_ | refine V.val (x_load rfl (E.l rfl) ScalarT.a (by first | assumption | exact (Own.cell (by assumption) _).trans rfl)) rfl ?_ | refine V.val (x_loadA rfl (E.l rfl) AggT.a AggT.z (by first | assumption | exact Own.loadAll (by assumption) rfl)) rfl ?_ | refine V.val (x_idxS rfl StringT.h (E.l rfl) (E.l rfl) (by assumption)) rfl ?_ | refine V.val (x_add rfl (E.l rfl) (E.l rfl) (by omega) (by omega)) rfl ?_ | refine V.val (x_sub rfl (E.l rfl) (E.l rfl) (by omega) (by omega)) rfl ?_ | skip)
    | (refine VP.on rfl rfl ?_; first | refine VP.easy rfl rfl rfl rfl rfl ?_ | refine VP.v (x_lenS rfl StringT.h (E.l rfl)) rfl rfl rfl rfl ?_ | refine VP.v (x_lenL rfl SliceT.u (E.l rfl)) rfl rfl rfl rfl ?_ | refine VP.v (x_fld rfl FieldT.h (E.l rfl)) rfl rfl rfl rfl ?_ | refine VP.v (x_idxAT rfl (E.l rfl) (E.l rfl) (by omega)) rfl rfl rfl rfl ?_ | refine VP.v (x_load rfl (E.l rfl) ScalarT.a (by first | assumption | exact (Own.cell (by assumption) _).trans rfl)) rfl rfl rfl rfl ?_ | refine VP.v (x_loadA rfl (E.l rfl) AggT.a AggT.z (by first | assumption | exact Own.loadAll (by assumption) rfl)) rfl rfl rfl rfl ?_ | refine VP.v (x_idxS rfl StringT.h (E.l rfl) (E.l rfl) (by assumption)) rfl rfl rfl rfl ?_ | refine VP.v (x_add rfl (E.l rfl) (E.l rfl) (by omega) (by omega)) rfl rfl rfl rfl ?_ | refine VP.v (x_sub rfl (E.l rfl) (E.l rfl) (by omega) (by omega)) rfl rfl rfl rfl ?_ | skip)
    | refine WP.nil ?_
    | refine V.not rfl rfl ?_
    | refine VP.not rfl rfl rfl ?_
    | ((first | refine V.split rfl rfl rfl rfl ?_ ?_ | refine VP.split hpk rfl rfl rfl rfl rfl ?_ ?_ | refine V.cond rfl ?_ ?_) <;> intro hB <;> (try simp only [ltB_eq, leB_eq, eqB_eq, seB_eq, decide_eq_true_eq, decide_eq_false_iff_not, Bool.not_eq_true', Bool.not_eq_false', Bool.not_eq_true, Bool.not_eq_false] at hB) <;> (try (exfalso; first | omega | exact hB trivial))))
  refine V.rounds (α := Nat) (fun i => 1 - i) (fun i => [(0, .slice (some ⟨r0, off0, some 1⟩) 1 sc), (3, .int .i64 (i : Nat))]) (fun i h' => i ≤ 1 ∧ h' = h) 0 ⟨rfl, rfl, trivial⟩ ⟨by omega, rfl⟩ ?_
  rintro i h ⟨hi, rfl⟩ ih
  by_cases hlt : i < 1
  · obtain rfl : i = 0 := by omega
    repeat' (first
    | refine V.ctl rfl ?_
    | (refine V.on rfl ?_; first | refine V.easy rfl rfl ?_ | refine V.val (x_lenS rfl StringT.h (E.l rfl)) rfl ?_ | refine V.val (x_lenL rfl SliceT.u (E.l rfl)) rfl ?_ | refine V.val (x_fld rfl FieldT.h (E.l rfl)) rfl ?_ | refine V.val (x_idxAT rfl (E.l rfl) (E.l rfl) (by omega)) rfl ?_ | refine V.val (x_load rfl (E.l rfl) ScalarT.a (by first | assumption | exact (Own.cell (by assumption) _).trans rfl)) rfl ?_ | refine V.val (x_loadA rfl (E.l rfl) AggT.a AggT.z (by first | assumption | exact Own.loadAll (by assumption) rfl)) rfl ?_ | refine V.val (x_idxS rfl StringT.h (E.l rfl) (E.l rfl) (by assumption)) rfl ?_ | refine V.val (x_add rfl (E.l rfl) (E.l rfl) (by omega) (by omega)) rfl ?_ | refine V.val (x_sub rfl (E.l rfl) (E.l rfl) (by omega) (by omega)) rfl ?_ | skip)
    | (refine VP.on rfl rfl ?_; first | refine VP.easy rfl rfl rfl rfl rfl ?_ | refine VP.v (x_lenS rfl StringT.h (E.l rfl)) rfl rfl rfl rfl ?_ | refine VP.v (x_lenL rfl SliceT.u (E.l rfl)) rfl rfl rfl rfl ?_ | refine VP.v (x_fld rfl FieldT.h (E.l rfl)) rfl rfl rfl rfl ?_ | refine VP.v (x_idxAT rfl (E.l rfl) (E.l rfl) (by omega)) rfl rfl rfl rfl ?_ | refine VP.v (x_load rfl (E.l rfl) ScalarT.a (by first | assumption | exact (Own.cell (by assumption) _).trans rfl)) rfl rfl rfl rfl ?_ | refine VP.v (x_loadA rfl (E.l rfl) AggT.a AggT.z (by first | assumption | exact Own.loadAll (by assumption) rfl)) rfl rfl rfl rfl ?_ | refine VP.v (x_idxS rfl StringT.h (E.l rfl) (E.l rfl) (by assumption)) rfl rfl rfl rfl ?_ | refine VP.v (x_add rfl (E.l rfl) (E.l rfl) (by omega) (by omega)) rfl rfl rfl rfl ?_ | refine VP.v (x_sub rfl (E.l rfl) (E.l rfl) (by omega) (by omega)) rfl rfl rfl rfl ?_ | skip)
    | refine WP.nil ?_
    | refine V.not rfl rfl ?_
    | refine VP.not rfl rfl rfl ?_
    | ((first | refine V.split rfl rfl rfl rfl ?_ ?_ | refine VP.split hpk rfl rfl rfl rfl rfl ?_ ?_ | refine V.cond rfl ?_ ?_) <;> intro hB <;> (try simp only [ltB_eq, leB_eq, eqB_eq, seB_eq, decide_eq_true_eq, decide_eq_false_iff_not, Bool.not_eq_true', Bool.not_eq_false', Bool.not_eq_true, Bool.not_eq_false] at hB) <;> (try (exfalso; first | omega | exact hB trivial))))
    · exact V.ret hk FuncT.h rfl ⟨⟨_, rfl⟩, rfl⟩
    refine V.rounds (α := Nat) (fun j => l.length - j) (fun j => [(0, .slice (some ⟨r0, off0, some 1⟩) 1 sc), (3, .int .i64 0), (4, .int .i64 (j : Nat))]) (fun j h' => j ≤ l.length ∧ h' = h) 0 ⟨rfl, rfl, rfl, trivial⟩ ⟨by omega, rfl⟩ ?_
    rintro j h ⟨hj, rfl⟩ ih2
    by_cases hlt2 : j < l.length
    · obtain ⟨x, hx⟩ : ∃ x, l[j]? = some x := ⟨l[j], List.getElem?_eq_getElem hlt2⟩
      obtain ⟨r, off, rfl, hld, hr⟩ := hrv j x hx
      have c2 := loadAt_cell hld (j := 2) rfl
      repeat' (first
    | refine V.ctl rfl ?_
    | (refine V.on rfl ?_; first | refine V.easy rfl rfl ?_ | refine V.val (x_lenS rfl StringT.h (E.l rfl)) rfl ?_ | refine V.val (x_lenL rfl SliceT.u (E.l rfl)) rfl ?_ | refine V.val (x_fld rfl FieldT.h (E.l rfl)) rfl ?_ | refine V.val (x_idxAT rfl (E.l rfl) (E.l rfl) (by omega)) rfl ?_ | refine V.val (x_load rfl (E.l rfl) ScalarT.a (by first | assumption | exact (Own.cell (by assumption) _).trans rfl)) rfl ?_ | refine V.val (x_loadA rfl (E.l rfl) AggT.a AggT.z (by first | assumption | exact Own.loadAll (by assumption) rfl)) rfl ?_ | refine V.val (x_idxS rfl StringT.h (E.l rfl) (E.l rfl) (by assumption)) rfl ?_ | refine V.val (x_add rfl (E.l rfl) (E.l rfl) (by omega) (by omega)) rfl ?_ | refine V.val (x_sub rfl (E.l rfl) (E.l rfl) (by omega) (by omega)) rfl ?_ | skip)
    | (refine VP.on rfl rfl ?_; first | refine VP.easy rfl rfl rfl rfl rfl ?_ | refine VP.v (x_lenS rfl StringT.h (E.l rfl)) rfl rfl rfl rfl ?_ | refine VP.v (x_lenL rfl SliceT.u (E.l rfl)) rfl rfl rfl rfl ?_ | refine VP.v (x_fld rfl FieldT.h (E.l rfl)) rfl rfl rfl rfl ?_ | refine VP.v (x_idxAT rfl (E.l rfl) (E.l rfl) (by omega)) rfl rfl rfl rfl ?_ | refine VP.v (x_load rfl (E.l rfl) ScalarT.a (by first | assumption | exact (Own.cell (by assumption) _).trans rfl)) rfl rfl rfl rfl ?_ | refine VP.v (x_loadA rfl (E.l rfl) AggT.a AggT.z (by first | assumption | exact Own.loadAll (by assumption) rfl)) rfl rfl rfl rfl ?_ | refine VP.v (x_idxS rfl StringT.h (E.l rfl) (E.l rfl) (by assumption)) rfl rfl rfl rfl ?_ | refine VP.v (x_add rfl (E.l rfl) (E.l rfl) (by omega) (by omega)) rfl rfl rfl rfl ?_ | refine VP.v (x_sub rfl (E.l rfl) (E.l rfl) (by omega) (by omega)) rfl rfl rfl rfl ?_ | skip)
    | refine WP.nil ?_
    | refine V.not rfl rfl ?_
    | refine VP.not rfl rfl rfl ?_
    | ((first | refine V.split rfl rfl rfl rfl ?_ ?_ | refine VP.split hpk rfl rfl rfl rfl rfl ?_ ?_ | refine V.cond rfl ?_ ?_) <;> intro hB <;> (try simp only [ltB_eq, leB_eq, eqB_eq, seB_eq, decide_eq_true_eq, decide_eq_false_iff_not, Bool.not_eq_true', Bool.not_eq_false', Bool.not_eq_true, Bool.not_eq_false] at hB) <;> (try (exfalso; first | omega | exact hB trivial))))
      all_goals first
        | exact V.ret hk FuncT.h rfl ⟨⟨_, rfl⟩, rfl⟩
        | exact ih2 (j + 1) _ _ (by omega) ⟨hlt2, rfl⟩ ⟨rfl, rfl, rfl, trivial⟩
    · repeat' (first
    | refine V.ctl rfl ?_
    | (refine V.on rfl ?_; first | refine V.easy rfl rfl ?_ | refine V.val (x_lenS rfl StringT.h (E.l rfl)) rfl ?_ | refine V.val (x_lenL rfl SliceT.u (E.l rfl)) rfl ?_ | refine V.val (x_fld rfl FieldT.h (E.l rfl)) rfl ?_ | refine V.val (x_idxAT rfl (E.l rfl) (E.l rfl) (by omega)) rfl ?_ | refine V.val (x_load rfl (E.l rfl) ScalarT.a (by first | assumption | exact (Own.cell (by assumption) _).trans rfl)) rfl ?_ | refine V.val (x_loadA rfl (E.l rfl) AggT.a AggT.z (by first | assumption | exact Own.loadAll (by assumption) rfl)) rfl ?_ | refine V.val (x_idxS rfl StringT.h (E.l rfl) (E.l rfl) (by assumption)) rfl ?_ | refine V.val (x_add rfl (E.l rfl) (E.l rfl) (by omega) (by omega)) rfl ?_ | refine V.val (x_sub rfl (E.l rfl) (E.l rfl) (by omega) (by omega)) rfl ?_ | skip)
    | (refine VP.on rfl rfl ?_; first | refine VP.easy rfl rfl rfl rfl rfl ?_ | refine VP.v (x_lenS rfl StringT.h (E.l rfl)) rfl rfl rfl rfl ?_ | refine VP.v (x_lenL rfl SliceT.u (E.l rfl)) rfl rfl rfl rfl ?_ | refine VP.v (x_fld rfl FieldT.h (E.l rfl)) rfl rfl rfl rfl ?_ | refine VP.v (x_idxAT rfl (E.l rfl) (E.l rfl) (by omega)) rfl rfl rfl rfl ?_ | refine VP.v (x_load rfl (E.l rfl) ScalarT.a (by first | assumption | exact (Own.cell (by assumption) _).trans rfl)) rfl rfl rfl rfl ?_ | refine VP.v (x_loadA rfl (E.l rfl) AggT.a AggT.z (by first | assumption | exact Own.loadAll (by assumption) rfl)) rfl rfl rfl rfl ?_ | refine VP.v (x_idxS rfl StringT.h (E.l rfl) (E.l rfl) (by assumption)) rfl rfl rfl rfl ?_ | refine VP.v (x_add rfl (E.l rfl) (E.l rfl) (by omega) (by omega)) rfl rfl rfl rfl ?_ | refine VP.v (x_sub rfl (E.l rfl) (E.l rfl) (by omega) (by omega)) rfl rfl rfl rfl ?_ | skip)
    | refine WP.nil ?_
    | refine V.not rfl rfl ?_
    | refine VP.not rfl rfl rfl ?_
    | ((first | refine V.split rfl rfl rfl rfl ?_ ?_ | refine VP.split hpk rfl rfl rfl rfl rfl ?_ ?_ | refine V.cond rfl ?_ ?_) <;> intro hB <;> (try simp only [ltB_eq, leB_eq, eqB_eq, seB_eq, decide_eq_true_eq, decide_eq_false_iff_not, Bool.not_eq_true', Bool.not_eq_false', Bool.not_eq_true, Bool.not_eq_false] at hB) <;> (try (exfalso; first | omega | exact hB trivial))))
      exact ih 1 _ _ (by omega) ⟨by omega, rfl⟩ ⟨rfl, rfl, trivial⟩
  · repeat' (first
    | refine V.ctl rfl ?_
    | (refine V.on rfl ?_; first | refine V.easy rfl rfl ?_ | refine V.val (x_lenS rfl StringT.h (E.l rfl)) rfl ?_ | refine V.val (x_lenL rfl SliceT.u (E.l rfl)) rfl ?_ | refine V.val (x_fld rfl FieldT.h (E.l rfl)) rfl ?_ | refine V.val (x_idxAT rfl (E.l rfl) (E.l rfl) (by omega)) rfl ?_ | refine V.val (x_load rfl (E.l rfl) ScalarT.a (by first | assumption | exact (Own.cell (by assumption) _).trans rfl)) rfl ?_ | refine V.val (x_loadA rfl (E.l rfl) AggT.a AggT.z (by first | assumption | exact Own.loadAll (by assumption) rfl)) rfl ?_ | refine V.val (x_idxS rfl StringT.h (E.l rfl) (E.l rfl) (by assumption)) rfl ?_ | refine V.val (x_add rfl (E.l rfl) (E.l rfl) (by omega) (by omega)) rfl ?_ | refine V.val (x_sub rfl (E.l rfl) (E.l rfl) (by omega) (by omega)) rfl ?_ | skip)
    | (refine VP.on rfl rfl ?_; first | refine VP.easy rfl rfl rfl rfl rfl ?_ | refine VP.v (x_lenS rfl StringT.h (E.l rfl)) rfl rfl rfl rfl ?_ | refine VP.v (x_lenL rfl SliceT.u (E.l rfl)) rfl rfl rfl rfl ?_ | refine VP.v (x_fld rfl FieldT.h (E.l rfl)) rfl rfl rfl rfl ?_ | refine VP.v (x_idxAT rfl (E.l rfl) (E.l rfl) (by omega)) rfl rfl rfl rfl ?_ | refine VP.v (x_load rfl (E.l rfl) ScalarT.a (by first | assumption | exact (Own.cell (by assumption) _).trans rfl)) rfl rfl rfl rfl ?_ | refine VP.v (x_loadA rfl (E.l rfl) AggT.a AggT.z (by first | assumption | exact Own.loadAll (by assumption) rfl)) rfl rfl rfl rfl ?_ | refine VP.v (x_idxS rfl StringT.h (E.l rfl) (E.l rfl) (by assumption)) rfl rfl rfl rfl ?_ | refine VP.v (x_add rfl (E.l rfl) (E.l rfl) (by omega) (by omega)) rfl rfl rfl rfl ?_ | refine VP.v (x_sub rfl (E.l rfl) (E.l rfl) (by omega) (by omega)) rfl rfl rfl rfl ?_ | skip)
    | refine WP.nil ?_
    | refine V.not rfl rfl ?_
    | refine VP.not rfl rfl rfl ?_
    | ((first | refine V.split rfl rfl rfl rfl ?_ ?_ | refine VP.split hpk rfl rfl rfl rfl rfl ?_ ?_ | refine V.cond rfl ?_ ?_) <;> intro hB <;> (try simp only [ltB_eq, leB_eq, eqB_eq, seB_eq, decide_eq_true_eq, decide_eq_false_iff_not, Bool.not_eq_true', Bool.not_eq_false', Bool.not_eq_true, Bool.not_eq_false] at hB) <;> (try (exfalso; first | omega | exact hB trivial))))
    all_goals exact V.ret hk FuncT.h rfl ⟨⟨_, rfl⟩, rfl⟩
end Go.Proofs.YtladhpocefnkjaaGreatDoor
namespace Go.Proofs.YtladhpocefnkjaaGreatDoor
open Go Go.SX
variable {P : Program} {e : E} [GEnv e]
theorem deed_fn (d : Deed) (h : SX.H) (hd : DeedIn h d) (fk : ∀ x, x ∈ d.keys → Fits x) : Gives P e 9 [.agg ⟨encDeed d⟩] h (fun v h' => (∃ b, v = .bool b ∧ (b = true → d.keys.length ≤ 30)) ∧ HLe h h') := by
  obtain ⟨verb, on, nv, rv, kv, names, row, keys⟩ := d
  obtain ⟨hn, hr, hkk, nn, nr, nk, fo, fn⟩ := hd
  simp only at hn hr hkk nn nr nk fo fn fk
  have fo' := fo
  unfold Fits at fo'
  obtain ⟨na, nc, rfl, hna⟩ := hn.view
  obtain ⟨ra, rc, rfl, hra⟩ := hr.view
  obtain ⟨ka, kc, rfl, hka⟩ := hkk.view
  refine V.body FuncT.h rfl ?_
  intro c y xs hk
  repeat' (first
    | refine V.ctl rfl ?_
    | (refine V.on rfl ?_; first | refine V.easy rfl rfl ?_ | refine V.val (x_lenS rfl StringT.h (E.l rfl)) rfl ?_ | refine V.val (x_lenL rfl SliceT.u (E.l rfl)) rfl ?_ | refine V.val (x_fld rfl FieldT.h (E.l rfl)) rfl ?_ | refine V.val (x_idxAT rfl (E.l rfl) (E.l rfl) (by omega)) rfl ?_ | refine V.val (x_load rfl (E.l rfl) ScalarT.a (by first | assumption | exact (Own.cell (by assumption) _).trans rfl)) rfl ?_ | refine V.val (x_loadA rfl (E.l rfl) AggT.a AggT.z (by first | assumption | exact Own.loadAll (by assumption) rfl)) rfl ?_ | refine V.val (x_idxS rfl StringT.h (E.l rfl) (E.l rfl) (by assumption)) rfl ?_ | refine V.val (x_add rfl (E.l rfl) (E.l rfl) (by omega) (by omega)) rfl ?_ | refine V.val (x_sub rfl (E.l rfl) (E.l rfl) (by omega) (by omega)) rfl ?_ | (refine V.box rfl rfl rfl ?_; intro r1 h1 hl1 ho1 hn1 hr1 hf1) | skip)
    | (refine VP.on rfl rfl ?_; first | refine VP.easy rfl rfl rfl rfl rfl ?_ | refine VP.v (x_lenS rfl StringT.h (E.l rfl)) rfl rfl rfl rfl ?_ | refine VP.v (x_lenL rfl SliceT.u (E.l rfl)) rfl rfl rfl rfl ?_ | refine VP.v (x_fld rfl FieldT.h (E.l rfl)) rfl rfl rfl rfl ?_ | refine VP.v (x_idxAT rfl (E.l rfl) (E.l rfl) (by omega)) rfl rfl rfl rfl ?_ | refine VP.v (x_load rfl (E.l rfl) ScalarT.a (by first | assumption | exact (Own.cell (by assumption) _).trans rfl)) rfl rfl rfl rfl ?_ | refine VP.v (x_loadA rfl (E.l rfl) AggT.a AggT.z (by first | assumption | exact Own.loadAll (by assumption) rfl)) rfl rfl rfl rfl ?_ | refine VP.v (x_idxS rfl StringT.h (E.l rfl) (E.l rfl) (by assumption)) rfl rfl rfl rfl ?_ | refine VP.v (x_add rfl (E.l rfl) (E.l rfl) (by omega) (by omega)) rfl rfl rfl rfl ?_ | refine VP.v (x_sub rfl (E.l rfl) (E.l rfl) (by omega) (by omega)) rfl rfl rfl rfl ?_ | (refine V.box rfl rfl rfl ?_; intro r1 h1 hl1 ho1 hn1 hr1 hf1) | skip)
    | refine WP.nil ?_
    | refine V.not rfl rfl ?_
    | refine VP.not rfl rfl rfl ?_
    | ((first | refine V.split rfl rfl rfl rfl ?_ ?_ | refine VP.split hpk rfl rfl rfl rfl rfl ?_ ?_ | refine V.cond rfl ?_ ?_) <;> intro hB <;> (try simp only [ltB_eq, leB_eq, eqB_eq, seB_eq, decide_eq_true_eq, decide_eq_false_iff_not, Bool.not_eq_true', Bool.not_eq_false', Bool.not_eq_true, Bool.not_eq_false] at hB) <;> (try (exfalso; first | omega | exact hB trivial))))
  refine V.rounds (α := Nat × Nat) (fun a => 30 - a.1) (fun a => [(1, .pointer (some ⟨r1, 0, none⟩)), (3, .int .i64 (a.2 : Nat)), (4, .int .i64 (a.1 : Nat))]) (fun a h' => a.1 ≤ 30 ∧ a.1 ≤ keys.length ∧ a.2 ≤ (a.1 + 1) * 140737488351232 ∧ h' = h1) (0, (bl on).length) ⟨rfl, rfl, rfl, trivial⟩ ⟨by omega, by omega, by simpa using fo', rfl⟩ ?_
  rintro ⟨i, s⟩ h2 ⟨hi, hik, hs, rfl⟩ ih
  simp only at hi hik hs
  by_cases hlt : i < keys.length ∧ i < 30
  · obtain ⟨x, hx⟩ : ∃ x, keys[i]? = some x := ⟨keys[i], List.getElem?_eq_getElem hlt.1⟩
    obtain ⟨r, off, rfl, hld0, hr0⟩ := hka i x hx
    have hld := hl1.loadAt hld0
    have c0 := loadAt_cell hld (j := 0) rfl
    have fx := fk x (List.mem_of_getElem? hx)
    unfold Fits bl at fx
    repeat' (first
    | refine V.ctl rfl ?_
    | (refine V.on rfl ?_; first | refine V.easy rfl rfl ?_ | refine V.val (x_lenS rfl StringT.h (E.l rfl)) rfl ?_ | refine V.val (x_lenL rfl SliceT.u (E.l rfl)) rfl ?_ | refine V.val (x_fld rfl FieldT.h (E.l rfl)) rfl ?_ | refine V.val (x_idxAT rfl (E.l rfl) (E.l rfl) (by omega)) rfl ?_ | refine V.val (x_load rfl (E.l rfl) ScalarT.a (by first | assumption | exact (Own.cell (by assumption) _).trans rfl)) rfl ?_ | refine V.val (x_loadA rfl (E.l rfl) AggT.a AggT.z (by first | assumption | exact Own.loadAll (by assumption) rfl)) rfl ?_ | refine V.val (x_idxS rfl StringT.h (E.l rfl) (E.l rfl) (by assumption)) rfl ?_ | refine V.val (x_add rfl (E.l rfl) (E.l rfl) (by omega) (by omega)) rfl ?_ | refine V.val (x_sub rfl (E.l rfl) (E.l rfl) (by omega) (by omega)) rfl ?_ | skip)
    | (refine VP.on rfl rfl ?_; first | refine VP.easy rfl rfl rfl rfl rfl ?_ | refine VP.v (x_lenS rfl StringT.h (E.l rfl)) rfl rfl rfl rfl ?_ | refine VP.v (x_lenL rfl SliceT.u (E.l rfl)) rfl rfl rfl rfl ?_ | refine VP.v (x_fld rfl FieldT.h (E.l rfl)) rfl rfl rfl rfl ?_ | refine VP.v (x_idxAT rfl (E.l rfl) (E.l rfl) (by omega)) rfl rfl rfl rfl ?_ | refine VP.v (x_load rfl (E.l rfl) ScalarT.a (by first | assumption | exact (Own.cell (by assumption) _).trans rfl)) rfl rfl rfl rfl ?_ | refine VP.v (x_loadA rfl (E.l rfl) AggT.a AggT.z (by first | assumption | exact Own.loadAll (by assumption) rfl)) rfl rfl rfl rfl ?_ | refine VP.v (x_idxS rfl StringT.h (E.l rfl) (E.l rfl) (by assumption)) rfl rfl rfl rfl ?_ | refine VP.v (x_add rfl (E.l rfl) (E.l rfl) (by omega) (by omega)) rfl rfl rfl rfl ?_ | refine VP.v (x_sub rfl (E.l rfl) (E.l rfl) (by omega) (by omega)) rfl rfl rfl rfl ?_ | skip)
    | refine WP.nil ?_
    | refine V.not rfl rfl ?_
    | refine VP.not rfl rfl rfl ?_
    | ((first | refine V.split rfl rfl rfl rfl ?_ ?_ | refine VP.split hpk rfl rfl rfl rfl rfl ?_ ?_ | refine V.cond rfl ?_ ?_) <;> intro hB <;> (try simp only [ltB_eq, leB_eq, eqB_eq, seB_eq, decide_eq_true_eq, decide_eq_false_iff_not, Bool.not_eq_true', Bool.not_eq_false', Bool.not_eq_true, Bool.not_eq_false] at hB) <;> (try (exfalso; first | omega | exact hB trivial))))
    refine ih (i + 1, s + x.data.toList.length) _ _ ?_ ?_ ?_
    · show 30 - (i + 1) < 30 - i; omega
    · refine ⟨hlt.2, hlt.1, ?_, rfl⟩
      show s + x.data.toList.length ≤ (i + 1 + 1) * 140737488351232
      omega
    · refine ⟨rfl, ?_, rfl, trivial⟩
      show some (Value.int .i64 _) = some (Value.int .i64 _)
      congr 2
  · repeat' (first
    | refine V.ctl rfl ?_
    | (refine V.on rfl ?_; first | refine V.easy rfl rfl ?_ | refine V.val (x_lenS rfl StringT.h (E.l rfl)) rfl ?_ | refine V.val (x_lenL rfl SliceT.u (E.l rfl)) rfl ?_ | refine V.val (x_fld rfl FieldT.h (E.l rfl)) rfl ?_ | refine V.val (x_idxAT rfl (E.l rfl) (E.l rfl) (by omega)) rfl ?_ | refine V.val (x_load rfl (E.l rfl) ScalarT.a (by first | assumption | exact (Own.cell (by assumption) _).trans rfl)) rfl ?_ | refine V.val (x_loadA rfl (E.l rfl) AggT.a AggT.z (by first | assumption | exact Own.loadAll (by assumption) rfl)) rfl ?_ | refine V.val (x_idxS rfl StringT.h (E.l rfl) (E.l rfl) (by assumption)) rfl ?_ | refine V.val (x_add rfl (E.l rfl) (E.l rfl) (by omega) (by omega)) rfl ?_ | refine V.val (x_sub rfl (E.l rfl) (E.l rfl) (by omega) (by omega)) rfl ?_ | skip)
    | (refine VP.on rfl rfl ?_; first | refine VP.easy rfl rfl rfl rfl rfl ?_ | refine VP.v (x_lenS rfl StringT.h (E.l rfl)) rfl rfl rfl rfl ?_ | refine VP.v (x_lenL rfl SliceT.u (E.l rfl)) rfl rfl rfl rfl ?_ | refine VP.v (x_fld rfl FieldT.h (E.l rfl)) rfl rfl rfl rfl ?_ | refine VP.v (x_idxAT rfl (E.l rfl) (E.l rfl) (by omega)) rfl rfl rfl rfl ?_ | refine VP.v (x_load rfl (E.l rfl) ScalarT.a (by first | assumption | exact (Own.cell (by assumption) _).trans rfl)) rfl rfl rfl rfl ?_ | refine VP.v (x_loadA rfl (E.l rfl) AggT.a AggT.z (by first | assumption | exact Own.loadAll (by assumption) rfl)) rfl rfl rfl rfl ?_ | refine VP.v (x_idxS rfl StringT.h (E.l rfl) (E.l rfl) (by assumption)) rfl rfl rfl rfl ?_ | refine VP.v (x_add rfl (E.l rfl) (E.l rfl) (by omega) (by omega)) rfl rfl rfl rfl ?_ | refine VP.v (x_sub rfl (E.l rfl) (E.l rfl) (by omega) (by omega)) rfl rfl rfl rfl ?_ | skip)
    | refine WP.nil ?_
    | refine V.not rfl rfl ?_
    | refine VP.not rfl rfl rfl ?_
    | ((first | refine V.split rfl rfl rfl rfl ?_ ?_ | refine VP.split hpk rfl rfl rfl rfl rfl ?_ ?_ | refine V.cond rfl ?_ ?_) <;> intro hB <;> (try simp only [ltB_eq, leB_eq, eqB_eq, seB_eq, decide_eq_true_eq, decide_eq_false_iff_not, Bool.not_eq_true', Bool.not_eq_false', Bool.not_eq_true, Bool.not_eq_false] at hB) <;> (try (exfalso; first | omega | exact hB trivial))))
    all_goals refine V.new (v := fun r => .slice (some ⟨r, 0, some 1⟩) 1 (capE 1)) (x_bslice rfl (E.p rfl) rfl rfl rfl) rfl ?_
    all_goals
      intro r3 h3 hl3 ho3 hn3 hr3 hf3
      have ho4 := ho1.grow hf1 hl3
      have slr : Sl h3 (fun (v : Value) => [v]) 1 (.slice (some ⟨r3, 0, some 1⟩) 1 (capE 1)) [.slice ra row.length rc] := .inr ⟨r3, 0, capE 1, rfl, Own.loadAll ho3 rfl, fun x _ => rfl, hr3, by rw [capLo_E]; exact Nat.le_refl _⟩
      repeat' (first
    | refine V.ctl rfl ?_
    | (refine V.on rfl ?_; first | refine V.easy rfl rfl ?_ | refine V.val (x_lenS rfl StringT.h (E.l rfl)) rfl ?_ | refine V.val (x_lenL rfl SliceT.u (E.l rfl)) rfl ?_ | refine V.val (x_fld rfl FieldT.h (E.l rfl)) rfl ?_ | refine V.val (x_idxAT rfl (E.l rfl) (E.l rfl) (by omega)) rfl ?_ | refine V.val (x_load rfl (E.l rfl) ScalarT.a (by first | assumption | exact (Own.cell (by assumption) _).trans rfl)) rfl ?_ | refine V.val (x_loadA rfl (E.l rfl) AggT.a AggT.z (by first | assumption | exact Own.loadAll (by assumption) rfl)) rfl ?_ | refine V.val (x_idxS rfl StringT.h (E.l rfl) (E.l rfl) (by assumption)) rfl ?_ | refine V.val (x_add rfl (E.l rfl) (E.l rfl) (by omega) (by omega)) rfl ?_ | refine V.val (x_sub rfl (E.l rfl) (E.l rfl) (by omega) (by omega)) rfl ?_ | (refine V.call (x_call rfl FuncT.ok (E.s rfl)) rfl (rows_fn row _ _ _ slr (hr.grow (hl1.trans hl3)) nr) ?_; rintro v h4 ⟨⟨b, rfl⟩, hh⟩; replace hh := hh.symm; subst hh) | (refine V.call (x_call rfl FuncT.ok (E.s rfl)) rfl (names_fn names _ _ (hn.grow (hl1.trans hl3)) nn fn) ?_; rintro v h4 ⟨⟨b2, rfl⟩, hh⟩; replace hh := hh.symm; subst hh) | skip)
    | (refine VP.on rfl rfl ?_; first | refine VP.easy rfl rfl rfl rfl rfl ?_ | refine VP.v (x_lenS rfl StringT.h (E.l rfl)) rfl rfl rfl rfl ?_ | refine VP.v (x_lenL rfl SliceT.u (E.l rfl)) rfl rfl rfl rfl ?_ | refine VP.v (x_fld rfl FieldT.h (E.l rfl)) rfl rfl rfl rfl ?_ | refine VP.v (x_idxAT rfl (E.l rfl) (E.l rfl) (by omega)) rfl rfl rfl rfl ?_ | refine VP.v (x_load rfl (E.l rfl) ScalarT.a (by first | assumption | exact (Own.cell (by assumption) _).trans rfl)) rfl rfl rfl rfl ?_ | refine VP.v (x_loadA rfl (E.l rfl) AggT.a AggT.z (by first | assumption | exact Own.loadAll (by assumption) rfl)) rfl rfl rfl rfl ?_ | refine VP.v (x_idxS rfl StringT.h (E.l rfl) (E.l rfl) (by assumption)) rfl rfl rfl rfl ?_ | refine VP.v (x_add rfl (E.l rfl) (E.l rfl) (by omega) (by omega)) rfl rfl rfl rfl ?_ | refine VP.v (x_sub rfl (E.l rfl) (E.l rfl) (by omega) (by omega)) rfl rfl rfl rfl ?_ | (refine V.call (x_call rfl FuncT.ok (E.s rfl)) rfl (rows_fn row _ _ _ slr (hr.grow (hl1.trans hl3)) nr) ?_; rintro v h4 ⟨⟨b, rfl⟩, hh⟩; replace hh := hh.symm; subst hh) | (refine V.call (x_call rfl FuncT.ok (E.s rfl)) rfl (names_fn names _ _ (hn.grow (hl1.trans hl3)) nn fn) ?_; rintro v h4 ⟨⟨b2, rfl⟩, hh⟩; replace hh := hh.symm; subst hh) | skip)
    | refine WP.nil ?_
    | refine V.not rfl rfl ?_
    | refine VP.not rfl rfl rfl ?_
    | ((first | refine V.split rfl rfl rfl rfl ?_ ?_ | refine VP.split hpk rfl rfl rfl rfl rfl ?_ ?_ | refine V.cond rfl ?_ ?_) <;> intro hB <;> (try simp only [ltB_eq, leB_eq, eqB_eq, seB_eq, decide_eq_true_eq, decide_eq_false_iff_not, Bool.not_eq_true', Bool.not_eq_false', Bool.not_eq_true, Bool.not_eq_false] at hB) <;> (try (exfalso; first | omega | exact hB trivial))))
      all_goals
        refine V.ret hk FuncT.h rfl ⟨⟨_, rfl, fun q => show keys.length ≤ 30 from ?_⟩, hl1.trans hl3⟩
        first
          | (cases q; done)
          | omega
end Go.Proofs.YtladhpocefnkjaaGreatDoor
namespace Go.Proofs.YtladhpocefnkjaaGreatDoor
open Go Go.SX
variable {P : Program} {e : E} [GEnv e]
theorem sumP_snoc (p : List Proc) (i : Nat) (x : Proc) (hx : p[i]? = some x) : sumP (p.take (i + 1)) = sumP (p.take i) + x.len := by
  have hi := (List.getElem?_eq_some_iff.1 hx).1
  rw [List.take_succ_eq_append_getElem hi, (List.getElem?_eq_some_iff.1 hx).2]; simp [sumP]
theorem sumP_le (p : List Proc) (hf : ∀ x, x ∈ p → x.Fit) : sumP p ≤ p.length * 562949953404928 := by
  induction p with
  | nil => simp [sumP]
  | cons x p ih =>
    have h1 := ih fun y hy => hf y (List.mem_cons_of_mem _ hy)
    have h2 := hf x (List.mem_cons_self ..)
    have := h2.name; have := h2.on; have := h2.cond; have := h2.text
    unfold Fits at *
    have h3 : x.len ≤ 562949953404928 := by unfold Proc.len; omega
    simp only [sumP, List.map_cons, List.sum_cons, List.length_cons] at h1 ⊢
    omega
theorem sumL_snoc (p : List Priv) (i : Nat) (x : Priv) (hx : p[i]? = some x) : sumL (p.take (i + 1)) = sumL (p.take i) + x.len := by
  have hi := (List.getElem?_eq_some_iff.1 hx).1
  rw [List.take_succ_eq_append_getElem hi, (List.getElem?_eq_some_iff.1 hx).2]; simp [sumL]
theorem sumL_le (p : List Priv) (hf : ∀ x, x ∈ p → x.Fit) : sumL p ≤ p.length * 281474976702464 := by
  induction p with
  | nil => simp [sumL]
  | cons x p ih =>
    have h1 := ih fun y hy => hf y (List.mem_cons_of_mem _ hy)
    have h2 := hf x (List.mem_cons_self ..)
    have := h2.on; have := h2.key
    unfold Fits at *
    have h3 : x.len ≤ 281474976702464 := by unfold Priv.len; omega
    simp only [sumL, List.map_cons, List.sum_cons, List.length_cons] at h1 ⊢
    omega
theorem lightB_eq (p : List Proc) (l : List Priv) : lightB p l = (decide (p.length ≤ 60) && decide (l.length ≤ 60) && decide (sumP (p.take 60) + sumL (l.take 60) ≤ 6000)) := rfl
set_option maxHeartbeats 1000000 in
theorem light_fn (p : List Proc) (l : List Priv) (pv lv : Value) (h : SX.H) (hp : Sl h encProc 7 pv p) (hl : Sl h encPriv 3 lv l) (fp : ∀ x, x ∈ p → x.Fit) (fl : ∀ x, x ∈ l → x.Fit) (np : p.length ≤ 140737488351232) (nl : l.length ≤ 140737488351232) :
    Gives P e 8 [pv, lv] h (fun v h' => v = .bool (lightB p l) ∧ h' = h) := by
  obtain ⟨pa, pc, rfl, hpv⟩ := hp.view
  obtain ⟨la, lc, rfl, hlv⟩ := hl.view
  refine V.body FuncT.h rfl ?_
  intro c x xs hk
  repeat' (first
    | refine V.ctl rfl ?_
    | (refine V.on rfl ?_; first | refine V.easy rfl rfl ?_ | refine V.val (x_lenS rfl StringT.h (E.l rfl)) rfl ?_ | refine V.val (x_lenL rfl SliceT.u (E.l rfl)) rfl ?_ | refine V.val (x_fld rfl FieldT.h (E.l rfl)) rfl ?_ | refine V.val (x_idxAT rfl (E.l rfl) (E.l rfl) (by omega)) rfl ?_ | refine V.val (x_load rfl (E.l rfl) ScalarT.a (by first | assumption | exact (Own.cell (by assumption) _).trans rfl)) rfl ?_ | refine V.val (x_loadA rfl (E.l rfl) AggT.a AggT.z (by first | assumption | exact Own.loadAll (by assumption) rfl)) rfl ?_ | refine V.val (x_idxS rfl StringT.h (E.l rfl) (E.l rfl) (by assumption)) rfl ?_ | refine V.val (x_add rfl (E.l rfl) (E.l rfl) (by omega) (by omega)) rfl ?_ | refine V.val (x_sub rfl (E.l rfl) (E.l rfl) (by omega) (by omega)) rfl ?_ | skip)
    | (refine VP.on rfl rfl ?_; first | refine VP.easy rfl rfl rfl rfl rfl ?_ | refine VP.v (x_lenS rfl StringT.h (E.l rfl)) rfl rfl rfl rfl ?_ | refine VP.v (x_lenL rfl SliceT.u (E.l rfl)) rfl rfl rfl rfl ?_ | refine VP.v (x_fld rfl FieldT.h (E.l rfl)) rfl rfl rfl rfl ?_ | refine VP.v (x_idxAT rfl (E.l rfl) (E.l rfl) (by omega)) rfl rfl rfl rfl ?_ | refine VP.v (x_load rfl (E.l rfl) ScalarT.a (by first | assumption | exact (Own.cell (by assumption) _).trans rfl)) rfl rfl rfl rfl ?_ | refine VP.v (x_loadA rfl (E.l rfl) AggT.a AggT.z (by first | assumption | exact Own.loadAll (by assumption) rfl)) rfl rfl rfl rfl ?_ | refine VP.v (x_idxS rfl StringT.h (E.l rfl) (E.l rfl) (by assumption)) rfl rfl rfl rfl ?_ | refine VP.v (x_add rfl (E.l rfl) (E.l rfl) (by omega) (by omega)) rfl rfl rfl rfl ?_ | refine VP.v (x_sub rfl (E.l rfl) (E.l rfl) (by omega) (by omega)) rfl rfl rfl rfl ?_ | skip)
    | refine WP.nil ?_
    | refine V.not rfl rfl ?_
    | refine VP.not rfl rfl rfl ?_
    | ((first | refine V.split rfl rfl rfl rfl ?_ ?_ | refine VP.split hpk rfl rfl rfl rfl rfl ?_ ?_ | refine V.cond rfl ?_ ?_) <;> intro hB <;> (try simp only [ltB_eq, leB_eq, eqB_eq, seB_eq, decide_eq_true_eq, decide_eq_false_iff_not, Bool.not_eq_true', Bool.not_eq_false', Bool.not_eq_true, Bool.not_eq_false] at hB) <;> (try (exfalso; first | omega | exact hB trivial))))
  refine V.rounds (α := Nat) (fun i => 60 - i) (fun i => [(0, .slice pa p.length pc), (1, .slice la l.length lc), (5, .int .i64 (sumP (p.take i) : Nat)), (6, .int .i64 (i : Nat))]) (fun i h' => i ≤ 60 ∧ i ≤ p.length ∧ h' = h) 0 ?_ ⟨by omega, by omega, rfl⟩ ?_
  · exact ⟨rfl, rfl, rfl, rfl, trivial⟩
  rintro i h ⟨hi, hip, rfl⟩ ih
  by_cases hlt : i < p.length ∧ i < 60
  · obtain ⟨x1, hx1⟩ : ∃ x1, p[i]? = some x1 := ⟨p[i], List.getElem?_eq_getElem hlt.1⟩
    obtain ⟨r, off, rfl, hld, hr⟩ := hpv i x1 hx1
    have c0 := loadAt_cell hld (j := 0) rfl
    have c2 := loadAt_cell hld (j := 2) rfl
    have c4 := loadAt_cell hld (j := 4) rfl
    have c6 := loadAt_cell hld (j := 6) rfl
    have hs := sumP_le (p.take i) (fun y hy => fp y (List.mem_of_mem_take hy))
    have h60 : (p.take i).length ≤ 60 := by simp; omega
    obtain ⟨f1, f2, f3, f4⟩ := fp x1 (List.mem_of_getElem? hx1)
    unfold Fits bl at f1 f2 f3 f4
    repeat' (first
    | refine V.ctl rfl ?_
    | (refine V.on rfl ?_; first | refine V.easy rfl rfl ?_ | refine V.val (x_lenS rfl StringT.h (E.l rfl)) rfl ?_ | refine V.val (x_lenL rfl SliceT.u (E.l rfl)) rfl ?_ | refine V.val (x_fld rfl FieldT.h (E.l rfl)) rfl ?_ | refine V.val (x_idxAT rfl (E.l rfl) (E.l rfl) (by omega)) rfl ?_ | refine V.val (x_load rfl (E.l rfl) ScalarT.a (by first | assumption | exact (Own.cell (by assumption) _).trans rfl)) rfl ?_ | refine V.val (x_loadA rfl (E.l rfl) AggT.a AggT.z (by first | assumption | exact Own.loadAll (by assumption) rfl)) rfl ?_ | refine V.val (x_idxS rfl StringT.h (E.l rfl) (E.l rfl) (by assumption)) rfl ?_ | refine V.val (x_add rfl (E.l rfl) (E.l rfl) (by omega) (by omega)) rfl ?_ | refine V.val (x_sub rfl (E.l rfl) (E.l rfl) (by omega) (by omega)) rfl ?_ | skip)
    | (refine VP.on rfl rfl ?_; first | refine VP.easy rfl rfl rfl rfl rfl ?_ | refine VP.v (x_lenS rfl StringT.h (E.l rfl)) rfl rfl rfl rfl ?_ | refine VP.v (x_lenL rfl SliceT.u (E.l rfl)) rfl rfl rfl rfl ?_ | refine VP.v (x_fld rfl FieldT.h (E.l rfl)) rfl rfl rfl rfl ?_ | refine VP.v (x_idxAT rfl (E.l rfl) (E.l rfl) (by omega)) rfl rfl rfl rfl ?_ | refine VP.v (x_load rfl (E.l rfl) ScalarT.a (by first | assumption | exact (Own.cell (by assumption) _).trans rfl)) rfl rfl rfl rfl ?_ | refine VP.v (x_loadA rfl (E.l rfl) AggT.a AggT.z (by first | assumption | exact Own.loadAll (by assumption) rfl)) rfl rfl rfl rfl ?_ | refine VP.v (x_idxS rfl StringT.h (E.l rfl) (E.l rfl) (by assumption)) rfl rfl rfl rfl ?_ | refine VP.v (x_add rfl (E.l rfl) (E.l rfl) (by omega) (by omega)) rfl rfl rfl rfl ?_ | refine VP.v (x_sub rfl (E.l rfl) (E.l rfl) (by omega) (by omega)) rfl rfl rfl rfl ?_ | skip)
    | refine WP.nil ?_
    | refine V.not rfl rfl ?_
    | refine VP.not rfl rfl rfl ?_
    | ((first | refine V.split rfl rfl rfl rfl ?_ ?_ | refine VP.split hpk rfl rfl rfl rfl rfl ?_ ?_ | refine V.cond rfl ?_ ?_) <;> intro hB <;> (try simp only [ltB_eq, leB_eq, eqB_eq, seB_eq, decide_eq_true_eq, decide_eq_false_iff_not, Bool.not_eq_true', Bool.not_eq_false', Bool.not_eq_true, Bool.not_eq_false] at hB) <;> (try (exfalso; first | omega | exact hB trivial))))
    (refine W.draw (pl := [.e 0, .e 1, .e 2, .e 3, .e 4, .e 5, .e 6, .e 7, .e 8, .e 9, .e 10, .e 11, .e 12, .e 13, .e 14, .e 15, .e 16, .e 17, .e 18, .e 19, .e 20, .e 21, .e 22, .e 23, .e 24, .e 25, .e 26, .e 27, .e 28, .e 29]) (by kernel_rfl) (by kernel_rfl) ?_; intro hpk)
    repeat' (first
    | refine V.ctl rfl ?_
    | (refine V.on rfl ?_; first | refine V.easy rfl rfl ?_ | refine V.val (x_lenS rfl StringT.h (E.l rfl)) rfl ?_ | refine V.val (x_lenL rfl SliceT.u (E.l rfl)) rfl ?_ | refine V.val (x_fld rfl FieldT.h (E.l rfl)) rfl ?_ | refine V.val (x_idxAT rfl (E.l rfl) (E.l rfl) (by omega)) rfl ?_ | refine V.val (x_load rfl (E.l rfl) ScalarT.a (by first | assumption | exact (Own.cell (by assumption) _).trans rfl)) rfl ?_ | refine V.val (x_loadA rfl (E.l rfl) AggT.a AggT.z (by first | assumption | exact Own.loadAll (by assumption) rfl)) rfl ?_ | refine V.val (x_idxS rfl StringT.h (E.l rfl) (E.l rfl) (by assumption)) rfl ?_ | refine V.val (x_add rfl (E.l rfl) (E.l rfl) (by omega) (by omega)) rfl ?_ | refine V.val (x_sub rfl (E.l rfl) (E.l rfl) (by omega) (by omega)) rfl ?_ | skip)
    | (refine VP.on rfl rfl ?_; first | refine VP.easy rfl rfl rfl rfl rfl ?_ | refine VP.v (x_lenS rfl StringT.h (E.l rfl)) rfl rfl rfl rfl ?_ | refine VP.v (x_lenL rfl SliceT.u (E.l rfl)) rfl rfl rfl rfl ?_ | refine VP.v (x_fld rfl FieldT.h (E.l rfl)) rfl rfl rfl rfl ?_ | refine VP.v (x_idxAT rfl (E.l rfl) (E.l rfl) (by omega)) rfl rfl rfl rfl ?_ | refine VP.v (x_load rfl (E.l rfl) ScalarT.a (by first | assumption | exact (Own.cell (by assumption) _).trans rfl)) rfl rfl rfl rfl ?_ | refine VP.v (x_loadA rfl (E.l rfl) AggT.a AggT.z (by first | assumption | exact Own.loadAll (by assumption) rfl)) rfl rfl rfl rfl ?_ | refine VP.v (x_idxS rfl StringT.h (E.l rfl) (E.l rfl) (by assumption)) rfl rfl rfl rfl ?_ | refine VP.v (x_add rfl (E.l rfl) (E.l rfl) (by omega) (by omega)) rfl rfl rfl rfl ?_ | refine VP.v (x_sub rfl (E.l rfl) (E.l rfl) (by omega) (by omega)) rfl rfl rfl rfl ?_ | skip)
    | refine WP.nil ?_
    | refine V.not rfl rfl ?_
    | refine VP.not rfl rfl rfl ?_
    | ((first | refine V.split rfl rfl rfl rfl ?_ ?_ | refine VP.split hpk rfl rfl rfl rfl rfl ?_ ?_ | refine V.cond rfl ?_ ?_) <;> intro hB <;> (try simp only [ltB_eq, leB_eq, eqB_eq, seB_eq, decide_eq_true_eq, decide_eq_false_iff_not, Bool.not_eq_true', Bool.not_eq_false', Bool.not_eq_true, Bool.not_eq_false] at hB) <;> (try (exfalso; first | omega | exact hB trivial))))
    refine ih (i + 1) _ _ ?_ ?_ ?_
    · omega
    · exact ⟨by omega, by omega, rfl⟩
    refine ⟨rfl, rfl, ?_, rfl, trivial⟩
    rw [sumP_snoc p i x1 hx1]
    show some (Value.int .i64 _) = some (Value.int .i64 _)
    congr 2
    unfold Proc.len bl
    push_cast
    omega
  · have hs := sumP_le (p.take i) (fun y hy => fp y (List.mem_of_mem_take hy))
    have h60 : (p.take i).length ≤ 60 := by simp; omega
    have hfin : p.take i = p.take 60 := by
      by_cases q : i < 60
      · rw [List.take_of_length_le (by omega), List.take_of_length_le (by omega)]
      · rw [show i = 60 by omega]
    rw [hfin] at hs h60 ⊢
    repeat' (first
    | refine V.ctl rfl ?_
    | (refine V.on rfl ?_; first | refine V.easy rfl rfl ?_ | refine V.val (x_lenS rfl StringT.h (E.l rfl)) rfl ?_ | refine V.val (x_lenL rfl SliceT.u (E.l rfl)) rfl ?_ | refine V.val (x_fld rfl FieldT.h (E.l rfl)) rfl ?_ | refine V.val (x_idxAT rfl (E.l rfl) (E.l rfl) (by omega)) rfl ?_ | refine V.val (x_load rfl (E.l rfl) ScalarT.a (by first | assumption | exact (Own.cell (by assumption) _).trans rfl)) rfl ?_ | refine V.val (x_loadA rfl (E.l rfl) AggT.a AggT.z (by first | assumption | exact Own.loadAll (by assumption) rfl)) rfl ?_ | refine V.val (x_idxS rfl StringT.h (E.l rfl) (E.l rfl) (by assumption)) rfl ?_ | refine V.val (x_add rfl (E.l rfl) (E.l rfl) (by omega) (by omega)) rfl ?_ | refine V.val (x_sub rfl (E.l rfl) (E.l rfl) (by omega) (by omega)) rfl ?_ | skip)
    | (refine VP.on rfl rfl ?_; first | refine VP.easy rfl rfl rfl rfl rfl ?_ | refine VP.v (x_lenS rfl StringT.h (E.l rfl)) rfl rfl rfl rfl ?_ | refine VP.v (x_lenL rfl SliceT.u (E.l rfl)) rfl rfl rfl rfl ?_ | refine VP.v (x_fld rfl FieldT.h (E.l rfl)) rfl rfl rfl rfl ?_ | refine VP.v (x_idxAT rfl (E.l rfl) (E.l rfl) (by omega)) rfl rfl rfl rfl ?_ | refine VP.v (x_load rfl (E.l rfl) ScalarT.a (by first | assumption | exact (Own.cell (by assumption) _).trans rfl)) rfl rfl rfl rfl ?_ | refine VP.v (x_loadA rfl (E.l rfl) AggT.a AggT.z (by first | assumption | exact Own.loadAll (by assumption) rfl)) rfl rfl rfl rfl ?_ | refine VP.v (x_idxS rfl StringT.h (E.l rfl) (E.l rfl) (by assumption)) rfl rfl rfl rfl ?_ | refine VP.v (x_add rfl (E.l rfl) (E.l rfl) (by omega) (by omega)) rfl rfl rfl rfl ?_ | refine VP.v (x_sub rfl (E.l rfl) (E.l rfl) (by omega) (by omega)) rfl rfl rfl rfl ?_ | skip)
    | refine WP.nil ?_
    | refine V.not rfl rfl ?_
    | refine VP.not rfl rfl rfl ?_
    | ((first | refine V.split rfl rfl rfl rfl ?_ ?_ | refine VP.split hpk rfl rfl rfl rfl rfl ?_ ?_ | refine V.cond rfl ?_ ?_) <;> intro hB <;> (try simp only [ltB_eq, leB_eq, eqB_eq, seB_eq, decide_eq_true_eq, decide_eq_false_iff_not, Bool.not_eq_true', Bool.not_eq_false', Bool.not_eq_true, Bool.not_eq_false] at hB) <;> (try (exfalso; first | omega | exact hB trivial))))
    all_goals refine V.rounds (α := Nat) (fun j => 60 - j) (fun j => [(0, .slice pa p.length pc), (1, .slice la l.length lc), (5, .int .i64 (sumP (p.take 60) + sumL (l.take j) : Nat)), (7, .int .i64 (j : Nat))]) (fun j h' => j ≤ 60 ∧ j ≤ l.length ∧ h' = h) 0 ?_ ⟨by omega, by omega, rfl⟩ ?_
    all_goals first | exact ⟨rfl, rfl, rfl, rfl, trivial⟩ | skip
    all_goals
      rintro j h ⟨hj, hjl, rfl⟩ ih2
      have hs2 := sumL_le (l.take j) (fun y hy => fl y (List.mem_of_mem_take hy))
      have h602 : (l.take j).length ≤ 60 := by simp; omega
      by_cases hlt2 : j < l.length ∧ j < 60
      · obtain ⟨x1, hx1⟩ : ∃ x1, l[j]? = some x1 := ⟨l[j], List.getElem?_eq_getElem hlt2.1⟩
        obtain ⟨r, off, rfl, hld, hr⟩ := hlv j x1 hx1
        have c1 := loadAt_cell hld (j := 1) rfl
        have c2 := loadAt_cell hld (j := 2) rfl
        obtain ⟨f1, f2⟩ := fl x1 (List.mem_of_getElem? hx1)
        unfold Fits bl at f1 f2
        repeat' (first
    | refine V.ctl rfl ?_
    | (refine V.on rfl ?_; first | refine V.easy rfl rfl ?_ | refine V.val (x_lenS rfl StringT.h (E.l rfl)) rfl ?_ | refine V.val (x_lenL rfl SliceT.u (E.l rfl)) rfl ?_ | refine V.val (x_fld rfl FieldT.h (E.l rfl)) rfl ?_ | refine V.val (x_idxAT rfl (E.l rfl) (E.l rfl) (by omega)) rfl ?_ | refine V.val (x_load rfl (E.l rfl) ScalarT.a (by first | assumption | exact (Own.cell (by assumption) _).trans rfl)) rfl ?_ | refine V.val (x_loadA rfl (E.l rfl) AggT.a AggT.z (by first | assumption | exact Own.loadAll (by assumption) rfl)) rfl ?_ | refine V.val (x_idxS rfl StringT.h (E.l rfl) (E.l rfl) (by assumption)) rfl ?_ | refine V.val (x_add rfl (E.l rfl) (E.l rfl) (by omega) (by omega)) rfl ?_ | refine V.val (x_sub rfl (E.l rfl) (E.l rfl) (by omega) (by omega)) rfl ?_ | skip)
    | (refine VP.on rfl rfl ?_; first | refine VP.easy rfl rfl rfl rfl rfl ?_ | refine VP.v (x_lenS rfl StringT.h (E.l rfl)) rfl rfl rfl rfl ?_ | refine VP.v (x_lenL rfl SliceT.u (E.l rfl)) rfl rfl rfl rfl ?_ | refine VP.v (x_fld rfl FieldT.h (E.l rfl)) rfl rfl rfl rfl ?_ | refine VP.v (x_idxAT rfl (E.l rfl) (E.l rfl) (by omega)) rfl rfl rfl rfl ?_ | refine VP.v (x_load rfl (E.l rfl) ScalarT.a (by first | assumption | exact (Own.cell (by assumption) _).trans rfl)) rfl rfl rfl rfl ?_ | refine VP.v (x_loadA rfl (E.l rfl) AggT.a AggT.z (by first | assumption | exact Own.loadAll (by assumption) rfl)) rfl rfl rfl rfl ?_ | refine VP.v (x_idxS rfl StringT.h (E.l rfl) (E.l rfl) (by assumption)) rfl rfl rfl rfl ?_ | refine VP.v (x_add rfl (E.l rfl) (E.l rfl) (by omega) (by omega)) rfl rfl rfl rfl ?_ | refine VP.v (x_sub rfl (E.l rfl) (E.l rfl) (by omega) (by omega)) rfl rfl rfl rfl ?_ | skip)
    | refine WP.nil ?_
    | refine V.not rfl rfl ?_
    | refine VP.not rfl rfl rfl ?_
    | ((first | refine V.split rfl rfl rfl rfl ?_ ?_ | refine VP.split hpk rfl rfl rfl rfl rfl ?_ ?_ | refine V.cond rfl ?_ ?_) <;> intro hB <;> (try simp only [ltB_eq, leB_eq, eqB_eq, seB_eq, decide_eq_true_eq, decide_eq_false_iff_not, Bool.not_eq_true', Bool.not_eq_false', Bool.not_eq_true, Bool.not_eq_false] at hB) <;> (try (exfalso; first | omega | exact hB trivial))))
        (refine W.draw (pl := [.e 0, .e 1, .e 2, .e 3, .e 4, .e 5, .e 6, .e 7, .e 8, .e 9, .e 10, .e 11, .e 12, .e 13, .e 14, .e 15]) (by kernel_rfl) (by kernel_rfl) ?_; intro hpk)
        repeat' (first
    | refine V.ctl rfl ?_
    | (refine V.on rfl ?_; first | refine V.easy rfl rfl ?_ | refine V.val (x_lenS rfl StringT.h (E.l rfl)) rfl ?_ | refine V.val (x_lenL rfl SliceT.u (E.l rfl)) rfl ?_ | refine V.val (x_fld rfl FieldT.h (E.l rfl)) rfl ?_ | refine V.val (x_idxAT rfl (E.l rfl) (E.l rfl) (by omega)) rfl ?_ | refine V.val (x_load rfl (E.l rfl) ScalarT.a (by first | assumption | exact (Own.cell (by assumption) _).trans rfl)) rfl ?_ | refine V.val (x_loadA rfl (E.l rfl) AggT.a AggT.z (by first | assumption | exact Own.loadAll (by assumption) rfl)) rfl ?_ | refine V.val (x_idxS rfl StringT.h (E.l rfl) (E.l rfl) (by assumption)) rfl ?_ | refine V.val (x_add rfl (E.l rfl) (E.l rfl) (by omega) (by omega)) rfl ?_ | refine V.val (x_sub rfl (E.l rfl) (E.l rfl) (by omega) (by omega)) rfl ?_ | skip)
    | (refine VP.on rfl rfl ?_; first | refine VP.easy rfl rfl rfl rfl rfl ?_ | refine VP.v (x_lenS rfl StringT.h (E.l rfl)) rfl rfl rfl rfl ?_ | refine VP.v (x_lenL rfl SliceT.u (E.l rfl)) rfl rfl rfl rfl ?_ | refine VP.v (x_fld rfl FieldT.h (E.l rfl)) rfl rfl rfl rfl ?_ | refine VP.v (x_idxAT rfl (E.l rfl) (E.l rfl) (by omega)) rfl rfl rfl rfl ?_ | refine VP.v (x_load rfl (E.l rfl) ScalarT.a (by first | assumption | exact (Own.cell (by assumption) _).trans rfl)) rfl rfl rfl rfl ?_ | refine VP.v (x_loadA rfl (E.l rfl) AggT.a AggT.z (by first | assumption | exact Own.loadAll (by assumption) rfl)) rfl rfl rfl rfl ?_ | refine VP.v (x_idxS rfl StringT.h (E.l rfl) (E.l rfl) (by assumption)) rfl rfl rfl rfl ?_ | refine VP.v (x_add rfl (E.l rfl) (E.l rfl) (by omega) (by omega)) rfl rfl rfl rfl ?_ | refine VP.v (x_sub rfl (E.l rfl) (E.l rfl) (by omega) (by omega)) rfl rfl rfl rfl ?_ | skip)
    | refine WP.nil ?_
    | refine V.not rfl rfl ?_
    | refine VP.not rfl rfl rfl ?_
    | ((first | refine V.split rfl rfl rfl rfl ?_ ?_ | refine VP.split hpk rfl rfl rfl rfl rfl ?_ ?_ | refine V.cond rfl ?_ ?_) <;> intro hB <;> (try simp only [ltB_eq, leB_eq, eqB_eq, seB_eq, decide_eq_true_eq, decide_eq_false_iff_not, Bool.not_eq_true', Bool.not_eq_false', Bool.not_eq_true, Bool.not_eq_false] at hB) <;> (try (exfalso; first | omega | exact hB trivial))))
        refine ih2 (j + 1) _ _ ?_ ?_ ?_
        · omega
        · exact ⟨by omega, by omega, rfl⟩
        refine ⟨rfl, rfl, ?_, rfl, trivial⟩
        rw [sumL_snoc l j x1 hx1]
        show some (Value.int .i64 _) = some (Value.int .i64 _)
        congr 2
        unfold Priv.len bl
        push_cast
        omega
      · have hfin2 : l.take j = l.take 60 := by
          by_cases q : j < 60
          · rw [List.take_of_length_le (by omega), List.take_of_length_le (by omega)]
          · rw [show j = 60 by omega]
        rw [hfin2] at hs2 h602 ⊢
        repeat' (first
    | refine V.ctl rfl ?_
    | (refine V.on rfl ?_; first | refine V.easy rfl rfl ?_ | refine V.val (x_lenS rfl StringT.h (E.l rfl)) rfl ?_ | refine V.val (x_lenL rfl SliceT.u (E.l rfl)) rfl ?_ | refine V.val (x_fld rfl FieldT.h (E.l rfl)) rfl ?_ | refine V.val (x_idxAT rfl (E.l rfl) (E.l rfl) (by omega)) rfl ?_ | refine V.val (x_load rfl (E.l rfl) ScalarT.a (by first | assumption | exact (Own.cell (by assumption) _).trans rfl)) rfl ?_ | refine V.val (x_loadA rfl (E.l rfl) AggT.a AggT.z (by first | assumption | exact Own.loadAll (by assumption) rfl)) rfl ?_ | refine V.val (x_idxS rfl StringT.h (E.l rfl) (E.l rfl) (by assumption)) rfl ?_ | refine V.val (x_add rfl (E.l rfl) (E.l rfl) (by omega) (by omega)) rfl ?_ | refine V.val (x_sub rfl (E.l rfl) (E.l rfl) (by omega) (by omega)) rfl ?_ | skip)
    | (refine VP.on rfl rfl ?_; first | refine VP.easy rfl rfl rfl rfl rfl ?_ | refine VP.v (x_lenS rfl StringT.h (E.l rfl)) rfl rfl rfl rfl ?_ | refine VP.v (x_lenL rfl SliceT.u (E.l rfl)) rfl rfl rfl rfl ?_ | refine VP.v (x_fld rfl FieldT.h (E.l rfl)) rfl rfl rfl rfl ?_ | refine VP.v (x_idxAT rfl (E.l rfl) (E.l rfl) (by omega)) rfl rfl rfl rfl ?_ | refine VP.v (x_load rfl (E.l rfl) ScalarT.a (by first | assumption | exact (Own.cell (by assumption) _).trans rfl)) rfl rfl rfl rfl ?_ | refine VP.v (x_loadA rfl (E.l rfl) AggT.a AggT.z (by first | assumption | exact Own.loadAll (by assumption) rfl)) rfl rfl rfl rfl ?_ | refine VP.v (x_idxS rfl StringT.h (E.l rfl) (E.l rfl) (by assumption)) rfl rfl rfl rfl ?_ | refine VP.v (x_add rfl (E.l rfl) (E.l rfl) (by omega) (by omega)) rfl rfl rfl rfl ?_ | refine VP.v (x_sub rfl (E.l rfl) (E.l rfl) (by omega) (by omega)) rfl rfl rfl rfl ?_ | skip)
    | refine WP.nil ?_
    | refine V.not rfl rfl ?_
    | refine VP.not rfl rfl rfl ?_
    | ((first | refine V.split rfl rfl rfl rfl ?_ ?_ | refine VP.split hpk rfl rfl rfl rfl rfl ?_ ?_ | refine V.cond rfl ?_ ?_) <;> intro hB <;> (try simp only [ltB_eq, leB_eq, eqB_eq, seB_eq, decide_eq_true_eq, decide_eq_false_iff_not, Bool.not_eq_true', Bool.not_eq_false', Bool.not_eq_true, Bool.not_eq_false] at hB) <;> (try (exfalso; first | omega | exact hB trivial))))
        all_goals refine V.ret hk FuncT.h rfl ⟨?_, rfl⟩
        all_goals clear hk ih2
        all_goals (rw [lightB_eq]; show Value.bool _ = Value.bool _; congr 1; (try simp only [leB_eq]); rw [Bool.eq_iff_iff]; simp only [Bool.and_eq_true, decide_eq_true_eq, Bool.false_eq_true, false_iff]; omega)
end Go.Proofs.YtladhpocefnkjaaGreatDoor
namespace Go.Proofs.YtladhpocefnkjaaGreatDoor
open Go Go.SX
theorem all_keys {l : List Priv} {d : Deed} {kv : Value} {K : List ByteArray} (hK : ∀ p, p ∈ l → hasB K p.key = true) : ixF (closedB { d with kv := kv, keys := K }) l 0 = -1 :=
  ixF_none fun p hp => by simp only [closedB, hK p hp, Bool.not_true, Bool.and_false]
theorem all_call {d : Deed} {kv : Value} {K : List ByteArray} (hc : callB d = true) (hn : K.length ≤ 20) (hv : ∀ x, x ∈ K → keyB (bl x) = true) : callB { d with kv := kv, keys := K } = true := by
  simp only [callB, Bool.and_eq_true, decide_eq_true_eq, Bool.not_eq_true', List.any_eq_false] at hc ⊢
  obtain ⟨⟨⟨⟨⟨⟨⟨w1, w2⟩, w3⟩, w4⟩, w5⟩, w6⟩, w7⟩, w8⟩ := hc
  refine ⟨⟨⟨⟨⟨⟨⟨w1, w2⟩, w3⟩, w4⟩, w5⟩, hn⟩, w7⟩, ?_⟩
  intro x hx
  simp [hv x hx]
theorem asked_keys {l : List Priv} (ha : askedB l = 0) : ∀ p, p ∈ l → keyB (bl p.key) = true := by
  intro p hp
  unfold askedB at ha
  by_cases h : (l.any fun x => !privB x) = true
  · rw [if_pos h] at ha; cases ha
  · have h2 : (l.any fun x => !privB x) = false := by simpa using h
    rw [List.any_eq_false] at h2
    have h3 := h2 p hp
    simp only [privB, Bool.not_eq_true, Bool.not_eq_false', Bool.and_eq_true] at h3
    exact h3.2
end Go.Proofs.YtladhpocefnkjaaGreatDoor
