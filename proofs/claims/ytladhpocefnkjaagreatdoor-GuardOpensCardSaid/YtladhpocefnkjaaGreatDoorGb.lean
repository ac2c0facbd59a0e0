/-
  Contracts of the guard's functions, first part; no condition.
-/
import Derived.Test.YtladhpocefnkjaaGreatDoorGa
namespace Go.Proofs.YtladhpocefnkjaaGreatDoor
open Go Go.SX
variable {P : Program} {e : E} [GEnv e]
theorem retB {a b : Bool} (h : a = b) : tup [.bool a] = .bool b := by rw [h]; rfl
def smallB (n : Nat) : Bool := decide (97 ≤ n) && decide (n ≤ 122)
theorem small_fn (n : Nat) (h : SX.H) : Gives P e 100 [.int .u8 n] h (fun v h' => v = .bool (smallB n) ∧ h' = h) := by
  refine V.body FuncT.h rfl ?_
  intro c x xs hk
  repeat' (first
    | refine V.ctl rfl ?_
    | (refine V.on rfl ?_; first | refine V.easy rfl rfl ?_ | refine V.val (x_lenS rfl StringT.h (E.l rfl)) rfl ?_ | refine V.val (x_lenL rfl SliceT.u (E.l rfl)) rfl ?_ | refine V.val (x_fld rfl FieldT.h (E.l rfl)) rfl ?_ | refine V.val (x_idxAT rfl (E.l rfl) (E.l rfl) (by omega)) rfl ?_ | refine V.val (x_load rfl (E.l rfl) ScalarT.a (by first | assumption | exact (Own.cell (by assumption) _).trans rfl)) rfl ?_ | refine V.val (x_loadA rfl (E.l rfl) AggT.a AggT.z (by first | assumption | exact Own.loadAll (by assumption) rfl)) rfl ?_ | refine V.val (x_idxS rfl StringT.h (E.l rfl) (E.l rfl) (by assumption)) rfl ?_ | refine V.val (x_add rfl (E.l rfl) (E.l rfl) (by omega) (by omega)) rfl ?_ | refine V.val (x_sub rfl (E.l rfl) (E.l rfl) (by omega) (by omega)) rfl ?_ | skip)
    | (refine VP.on rfl rfl ?_; first | refine VP.easy rfl rfl rfl rfl rfl ?_ | refine VP.v (x_lenS rfl StringT.h (E.l rfl)) rfl rfl rfl rfl ?_ | refine VP.v (x_lenL rfl SliceT.u (E.l rfl)) rfl rfl rfl rfl ?_ | refine VP.v (x_fld rfl FieldT.h (E.l rfl)) rfl rfl rfl rfl ?_ | refine VP.v (x_idxAT rfl (E.l rfl) (E.l rfl) (by omega)) rfl rfl rfl rfl ?_ | refine VP.v (x_load rfl (E.l rfl) ScalarT.a (by first | assumption | exact (Own.cell (by assumption) _).trans rfl)) rfl rfl rfl rfl ?_ | refine VP.v (x_loadA rfl (E.l rfl) AggT.a AggT.z (by first | assumption | exact Own.loadAll (by assumption) rfl)) rfl rfl rfl rfl ?_ | refine VP.v (x_idxS rfl StringT.h (E.l rfl) (E.l rfl) (by assumption)) rfl rfl rfl rfl ?_ | refine VP.v (x_add rfl (E.l rfl) (E.l rfl) (by omega) (by omega)) rfl rfl rfl rfl ?_ | refine VP.v (x_sub rfl (E.l rfl) (E.l rfl) (by omega) (by omega)) rfl rfl rfl rfl ?_ | skip)
    | refine WP.nil ?_
    | refine V.not rfl rfl ?_
    | refine VP.not rfl rfl rfl ?_
    | ((first | refine V.split rfl rfl rfl rfl ?_ ?_ | refine VP.split hpk rfl rfl rfl rfl rfl ?_ ?_ | refine V.cond rfl ?_ ?_) <;> intro hB <;> (try simp only [ltB_eq, leB_eq, eqB_eq, seB_eq, decide_eq_true_eq, decide_eq_false_iff_not, Bool.not_eq_true', Bool.not_eq_false', Bool.not_eq_true, Bool.not_eq_false] at hB) <;> (try (exfalso; first | omega | exact hB trivial))))
  all_goals refine V.ret hk FuncT.h rfl ⟨retB ?_, rfl⟩
  all_goals (clear hk; unfold smallB; (try simp only [leB_eq]); rw [Bool.eq_iff_iff]; simp only [Bool.and_eq_true, decide_eq_true_eq, Bool.false_eq_true, false_iff]; omega)
def innerB (n : Nat) : Bool := smallB n || (decide (48 ≤ n) && decide (n ≤ 57)) || decide (n = 95)
theorem inner_fn (n : Nat) (h : SX.H) : Gives P e 101 [.int .u8 n] h (fun v h' => v = .bool (innerB n) ∧ h' = h) := by
  refine V.body FuncT.h rfl ?_
  intro c x xs hk
  repeat' (first
    | refine V.ctl rfl ?_
    | (refine V.on rfl ?_; first | refine V.easy rfl rfl ?_ | refine V.val (x_lenS rfl StringT.h (E.l rfl)) rfl ?_ | refine V.val (x_lenL rfl SliceT.u (E.l rfl)) rfl ?_ | refine V.val (x_fld rfl FieldT.h (E.l rfl)) rfl ?_ | refine V.val (x_idxAT rfl (E.l rfl) (E.l rfl) (by omega)) rfl ?_ | refine V.val (x_load rfl (E.l rfl) ScalarT.a (by first | assumption | exact (Own.cell (by assumption) _).trans rfl)) rfl ?_ | refine V.val (x_loadA rfl (E.l rfl) AggT.a AggT.z (by first | assumption | exact Own.loadAll (by assumption) rfl)) rfl ?_ | refine V.val (x_idxS rfl StringT.h (E.l rfl) (E.l rfl) (by assumption)) rfl ?_ | refine V.val (x_add rfl (E.l rfl) (E.l rfl) (by omega) (by omega)) rfl ?_ | refine V.val (x_sub rfl (E.l rfl) (E.l rfl) (by omega) (by omega)) rfl ?_ | (refine V.call (x_call rfl FuncT.ok (E.s rfl)) rfl (small_fn _ _) ?_; rintro v h1 ⟨rfl, hh⟩; replace hh := hh.symm; subst hh) | skip)
    | (refine VP.on rfl rfl ?_; first | refine VP.easy rfl rfl rfl rfl rfl ?_ | refine VP.v (x_lenS rfl StringT.h (E.l rfl)) rfl rfl rfl rfl ?_ | refine VP.v (x_lenL rfl SliceT.u (E.l rfl)) rfl rfl rfl rfl ?_ | refine VP.v (x_fld rfl FieldT.h (E.l rfl)) rfl rfl rfl rfl ?_ | refine VP.v (x_idxAT rfl (E.l rfl) (E.l rfl) (by omega)) rfl rfl rfl rfl ?_ | refine VP.v (x_load rfl (E.l rfl) ScalarT.a (by first | assumption | exact (Own.cell (by assumption) _).trans rfl)) rfl rfl rfl rfl ?_ | refine VP.v (x_loadA rfl (E.l rfl) AggT.a AggT.z (by first | assumption | exact Own.loadAll (by assumption) rfl)) rfl rfl rfl rfl ?_ | refine VP.v (x_idxS rfl StringT.h (E.l rfl) (E.l rfl) (by assumption)) rfl rfl rfl rfl ?_ | refine VP.v (x_add rfl (E.l rfl) (E.l rfl) (by omega) (by omega)) rfl rfl rfl rfl ?_ | refine VP.v (x_sub rfl (E.l rfl) (E.l rfl) (by omega) (by omega)) rfl rfl rfl rfl ?_ | (refine V.call (x_call rfl FuncT.ok (E.s rfl)) rfl (small_fn _ _) ?_; rintro v h1 ⟨rfl, hh⟩; replace hh := hh.symm; subst hh) | skip)
    | refine WP.nil ?_
    | refine V.not rfl rfl ?_
    | refine VP.not rfl rfl rfl ?_
    | ((first | refine V.split rfl rfl rfl rfl ?_ ?_ | refine VP.split hpk rfl rfl rfl rfl rfl ?_ ?_ | refine V.cond rfl ?_ ?_) <;> intro hB <;> (try simp only [ltB_eq, leB_eq, eqB_eq, seB_eq, decide_eq_true_eq, decide_eq_false_iff_not, Bool.not_eq_true', Bool.not_eq_false', Bool.not_eq_true, Bool.not_eq_false] at hB) <;> (try (exfalso; first | omega | exact hB trivial))))
  all_goals refine V.ret hk FuncT.h rfl ⟨retB ?_, rfl⟩
  all_goals (clear hk; unfold innerB; (try simp only [eqB_eq]); (try simp only [*]); rw [Bool.eq_iff_iff]; simp only [Bool.or_eq_true, Bool.and_eq_true, decide_eq_true_eq, Bool.false_eq_true, false_iff, true_iff, true_or, false_or]; (try omega))
def keyB (s : List UInt8) : Bool := !decide (s = []) && decide (s.length ≤ 30)
theorem key_fn (s : ByteArray) (h : SX.H) : Gives P e 58 [.string s] h (fun v h' => v = .bool (keyB (bl s)) ∧ h' = h) := by
  refine V.body FuncT.h rfl ?_
  intro c x xs hk
  repeat' (first
    | refine V.ctl rfl ?_
    | (refine V.on rfl ?_; first | refine V.easy rfl rfl ?_ | refine V.val (x_lenS rfl StringT.h (E.l rfl)) rfl ?_ | refine V.val (x_lenL rfl SliceT.u (E.l rfl)) rfl ?_ | refine V.val (x_fld rfl FieldT.h (E.l rfl)) rfl ?_ | refine V.val (x_idxAT rfl (E.l rfl) (E.l rfl) (by omega)) rfl ?_ | refine V.val (x_load rfl (E.l rfl) ScalarT.a (by first | assumption | exact (Own.cell (by assumption) _).trans rfl)) rfl ?_ | refine V.val (x_loadA rfl (E.l rfl) AggT.a AggT.z (by first | assumption | exact Own.loadAll (by assumption) rfl)) rfl ?_ | refine V.val (x_idxS rfl StringT.h (E.l rfl) (E.l rfl) (by assumption)) rfl ?_ | refine V.val (x_add rfl (E.l rfl) (E.l rfl) (by omega) (by omega)) rfl ?_ | refine V.val (x_sub rfl (E.l rfl) (E.l rfl) (by omega) (by omega)) rfl ?_ | skip)
    | (refine VP.on rfl rfl ?_; first | refine VP.easy rfl rfl rfl rfl rfl ?_ | refine VP.v (x_lenS rfl StringT.h (E.l rfl)) rfl rfl rfl rfl ?_ | refine VP.v (x_lenL rfl SliceT.u (E.l rfl)) rfl rfl rfl rfl ?_ | refine VP.v (x_fld rfl FieldT.h (E.l rfl)) rfl rfl rfl rfl ?_ | refine VP.v (x_idxAT rfl (E.l rfl) (E.l rfl) (by omega)) rfl rfl rfl rfl ?_ | refine VP.v (x_load rfl (E.l rfl) ScalarT.a (by first | assumption | exact (Own.cell (by assumption) _).trans rfl)) rfl rfl rfl rfl ?_ | refine VP.v (x_loadA rfl (E.l rfl) AggT.a AggT.z (by first | assumption | exact Own.loadAll (by assumption) rfl)) rfl rfl rfl rfl ?_ | refine VP.v (x_idxS rfl StringT.h (E.l rfl) (E.l rfl) (by assumption)) rfl rfl rfl rfl ?_ | refine VP.v (x_add rfl (E.l rfl) (E.l rfl) (by omega) (by omega)) rfl rfl rfl rfl ?_ | refine VP.v (x_sub rfl (E.l rfl) (E.l rfl) (by omega) (by omega)) rfl rfl rfl rfl ?_ | skip)
    | refine WP.nil ?_
    | refine V.not rfl rfl ?_
    | refine VP.not rfl rfl rfl ?_
    | ((first | refine V.split rfl rfl rfl rfl ?_ ?_ | refine VP.split hpk rfl rfl rfl rfl rfl ?_ ?_ | refine V.cond rfl ?_ ?_) <;> intro hB <;> (try simp only [ltB_eq, leB_eq, eqB_eq, seB_eq, decide_eq_true_eq, decide_eq_false_iff_not, Bool.not_eq_true', Bool.not_eq_false', Bool.not_eq_true, Bool.not_eq_false] at hB) <;> (try (exfalso; first | omega | exact hB trivial))))
  all_goals refine V.ret hk FuncT.h rfl ⟨retB ?_, rfl⟩
  all_goals (clear hk; unfold keyB bl; (try simp only [leB_eq]); simp_all; try omega)
def verbB (n : Int) : Bool := decide (0 ≤ n) && decide (n ≤ 12)
theorem verb_fn (n : Int) (h : SX.H) : Gives P e 53 [.int .i64 n] h (fun v h' => v = .bool (verbB n) ∧ h' = h) := by
  refine V.body FuncT.h rfl ?_
  intro c x xs hk
  repeat' (first
    | refine V.ctl rfl ?_
    | (refine V.on rfl ?_; first | refine V.easy rfl rfl ?_ | refine V.val (x_lenS rfl StringT.h (E.l rfl)) rfl ?_ | refine V.val (x_lenL rfl SliceT.u (E.l rfl)) rfl ?_ | refine V.val (x_fld rfl FieldT.h (E.l rfl)) rfl ?_ | refine V.val (x_idxAT rfl (E.l rfl) (E.l rfl) (by omega)) rfl ?_ | refine V.val (x_load rfl (E.l rfl) ScalarT.a (by first | assumption | exact (Own.cell (by assumption) _).trans rfl)) rfl ?_ | refine V.val (x_loadA rfl (E.l rfl) AggT.a AggT.z (by first | assumption | exact Own.loadAll (by assumption) rfl)) rfl ?_ | refine V.val (x_idxS rfl StringT.h (E.l rfl) (E.l rfl) (by assumption)) rfl ?_ | refine V.val (x_add rfl (E.l rfl) (E.l rfl) (by omega) (by omega)) rfl ?_ | refine V.val (x_sub rfl (E.l rfl) (E.l rfl) (by omega) (by omega)) rfl ?_ | skip)
    | (refine VP.on rfl rfl ?_; first | refine VP.easy rfl rfl rfl rfl rfl ?_ | refine VP.v (x_lenS rfl StringT.h (E.l rfl)) rfl rfl rfl rfl ?_ | refine VP.v (x_lenL rfl SliceT.u (E.l rfl)) rfl rfl rfl rfl ?_ | refine VP.v (x_fld rfl FieldT.h (E.l rfl)) rfl rfl rfl rfl ?_ | refine VP.v (x_idxAT rfl (E.l rfl) (E.l rfl) (by omega)) rfl rfl rfl rfl ?_ | refine VP.v (x_load rfl (E.l rfl) ScalarT.a (by first | assumption | exact (Own.cell (by assumption) _).trans rfl)) rfl rfl rfl rfl ?_ | refine VP.v (x_loadA rfl (E.l rfl) AggT.a AggT.z (by first | assumption | exact Own.loadAll (by assumption) rfl)) rfl rfl rfl rfl ?_ | refine VP.v (x_idxS rfl StringT.h (E.l rfl) (E.l rfl) (by assumption)) rfl rfl rfl rfl ?_ | refine VP.v (x_add rfl (E.l rfl) (E.l rfl) (by omega) (by omega)) rfl rfl rfl rfl ?_ | refine VP.v (x_sub rfl (E.l rfl) (E.l rfl) (by omega) (by omega)) rfl rfl rfl rfl ?_ | skip)
    | refine WP.nil ?_
    | refine V.not rfl rfl ?_
    | refine VP.not rfl rfl rfl ?_
    | ((first | refine V.split rfl rfl rfl rfl ?_ ?_ | refine VP.split hpk rfl rfl rfl rfl rfl ?_ ?_ | refine V.cond rfl ?_ ?_) <;> intro hB <;> (try simp only [ltB_eq, leB_eq, eqB_eq, seB_eq, decide_eq_true_eq, decide_eq_false_iff_not, Bool.not_eq_true', Bool.not_eq_false', Bool.not_eq_true, Bool.not_eq_false] at hB) <;> (try (exfalso; first | omega | exact hB trivial))))
  all_goals refine V.ret hk FuncT.h rfl ⟨retB ?_, rfl⟩
  all_goals (clear hk; unfold verbB; (try simp only [leB_eq]); rw [Bool.eq_iff_iff]; simp only [Bool.and_eq_true, decide_eq_true_eq, Bool.false_eq_true, false_iff]; omega)
def nameB (s : List UInt8) : Bool := match s with
  | [] => false
  | c :: _ => decide (s.length ≤ 16) && smallB c.toNat && s.all fun c => innerB c.toNat
theorem name_fn (s : ByteArray) (hs : Fits s) (h : SX.H) : Gives P e 52 [.string s] h (fun v h' => v = .bool (nameB (bl s)) ∧ h' = h) := by
  unfold Fits at hs
  refine V.body FuncT.h rfl ?_
  intro c x xs hk
  cases hb : bl s with
  | nil =>
    have hb' : s.data.toList = [] := hb
    have hse : seB s.data.toList [] = true := by rw [seB_eq, hb']; rfl
    repeat' (first
    | refine V.ctl rfl ?_
    | (refine V.on rfl ?_; first | refine V.easy rfl rfl ?_ | refine V.val (x_lenS rfl StringT.h (E.l rfl)) rfl ?_ | refine V.val (x_lenL rfl SliceT.u (E.l rfl)) rfl ?_ | refine V.val (x_fld rfl FieldT.h (E.l rfl)) rfl ?_ | refine V.val (x_idxAT rfl (E.l rfl) (E.l rfl) (by omega)) rfl ?_ | refine V.val (x_load rfl (E.l rfl) ScalarT.a (by first | assumption | exact (Own.cell (by assumption) _).trans rfl)) rfl ?_ | refine V.val (x_loadA rfl (E.l rfl) AggT.a AggT.z (by first | assumption | exact Own.loadAll (by assumption) rfl)) rfl ?_ | refine V.val (x_idxS rfl StringT.h (E.l rfl) (E.l rfl) (by assumption)) rfl ?_ | refine V.val (x_add rfl (E.l rfl) (E.l rfl) (by omega) (by omega)) rfl ?_ | refine V.val (x_sub rfl (E.l rfl) (E.l rfl) (by omega) (by omega)) rfl ?_ | skip)
    | (refine VP.on rfl rfl ?_; first | refine VP.easy rfl rfl rfl rfl rfl ?_ | refine VP.v (x_lenS rfl StringT.h (E.l rfl)) rfl rfl rfl rfl ?_ | refine VP.v (x_lenL rfl SliceT.u (E.l rfl)) rfl rfl rfl rfl ?_ | refine VP.v (x_fld rfl FieldT.h (E.l rfl)) rfl rfl rfl rfl ?_ | refine VP.v (x_idxAT rfl (E.l rfl) (E.l rfl) (by omega)) rfl rfl rfl rfl ?_ | refine VP.v (x_load rfl (E.l rfl) ScalarT.a (by first | assumption | exact (Own.cell (by assumption) _).trans rfl)) rfl rfl rfl rfl ?_ | refine VP.v (x_loadA rfl (E.l rfl) AggT.a AggT.z (by first | assumption | exact Own.loadAll (by assumption) rfl)) rfl rfl rfl rfl ?_ | refine VP.v (x_idxS rfl StringT.h (E.l rfl) (E.l rfl) (by assumption)) rfl rfl rfl rfl ?_ | refine VP.v (x_add rfl (E.l rfl) (E.l rfl) (by omega) (by omega)) rfl rfl rfl rfl ?_ | refine VP.v (x_sub rfl (E.l rfl) (E.l rfl) (by omega) (by omega)) rfl rfl rfl rfl ?_ | skip)
    | refine WP.nil ?_
    | refine V.not rfl rfl ?_
    | refine VP.not rfl rfl rfl ?_
    | ((first | refine V.split rfl rfl rfl rfl ?_ ?_ | refine VP.split hpk rfl rfl rfl rfl rfl ?_ ?_ | refine V.cond rfl ?_ ?_) <;> intro hB <;> (try simp only [ltB_eq, leB_eq, eqB_eq, seB_eq, decide_eq_true_eq, decide_eq_false_iff_not, Bool.not_eq_true', Bool.not_eq_false', Bool.not_eq_true, Bool.not_eq_false] at hB) <;> (try (exfalso; first | omega | exact hB trivial))))
    · refine V.ret hk FuncT.h rfl ⟨retB ?_, rfl⟩
      rw [hb]; rfl
    all_goals exact absurd hb' (by assumption)
  | cons b t =>
    have hb' : s.data.toList = b :: t := hb
    have hb0 : s.data.toList[0]? = some b := by rw [hb']; rfl
    have hne : ¬ s.data.toList = [] := by rw [hb']; simp
    have hlen : s.data.toList.length = (b :: t).length := by rw [hb']
    repeat' (first
    | refine V.ctl rfl ?_
    | (refine V.on rfl ?_; first | refine V.easy rfl rfl ?_ | refine V.val (x_lenS rfl StringT.h (E.l rfl)) rfl ?_ | refine V.val (x_lenL rfl SliceT.u (E.l rfl)) rfl ?_ | refine V.val (x_fld rfl FieldT.h (E.l rfl)) rfl ?_ | refine V.val (x_idxAT rfl (E.l rfl) (E.l rfl) (by omega)) rfl ?_ | refine V.val (x_load rfl (E.l rfl) ScalarT.a (by first | assumption | exact (Own.cell (by assumption) _).trans rfl)) rfl ?_ | refine V.val (x_loadA rfl (E.l rfl) AggT.a AggT.z (by first | assumption | exact Own.loadAll (by assumption) rfl)) rfl ?_ | refine V.val (x_idxS rfl StringT.h (E.l rfl) (E.l rfl) (by assumption)) rfl ?_ | refine V.val (x_add rfl (E.l rfl) (E.l rfl) (by omega) (by omega)) rfl ?_ | refine V.val (x_sub rfl (E.l rfl) (E.l rfl) (by omega) (by omega)) rfl ?_ | (refine V.call (x_call rfl FuncT.ok (E.s rfl)) rfl (small_fn _ _) ?_; rintro v h1 ⟨rfl, hh⟩; replace hh := hh.symm; subst hh) | skip)
    | (refine VP.on rfl rfl ?_; first | refine VP.easy rfl rfl rfl rfl rfl ?_ | refine VP.v (x_lenS rfl StringT.h (E.l rfl)) rfl rfl rfl rfl ?_ | refine VP.v (x_lenL rfl SliceT.u (E.l rfl)) rfl rfl rfl rfl ?_ | refine VP.v (x_fld rfl FieldT.h (E.l rfl)) rfl rfl rfl rfl ?_ | refine VP.v (x_idxAT rfl (E.l rfl) (E.l rfl) (by omega)) rfl rfl rfl rfl ?_ | refine VP.v (x_load rfl (E.l rfl) ScalarT.a (by first | assumption | exact (Own.cell (by assumption) _).trans rfl)) rfl rfl rfl rfl ?_ | refine VP.v (x_loadA rfl (E.l rfl) AggT.a AggT.z (by first | assumption | exact Own.loadAll (by assumption) rfl)) rfl rfl rfl rfl ?_ | refine VP.v (x_idxS rfl StringT.h (E.l rfl) (E.l rfl) (by assumption)) rfl rfl rfl rfl ?_ | refine VP.v (x_add rfl (E.l rfl) (E.l rfl) (by omega) (by omega)) rfl rfl rfl rfl ?_ | refine VP.v (x_sub rfl (E.l rfl) (E.l rfl) (by omega) (by omega)) rfl rfl rfl rfl ?_ | (refine V.call (x_call rfl FuncT.ok (E.s rfl)) rfl (small_fn _ _) ?_; rintro v h1 ⟨rfl, hh⟩; replace hh := hh.symm; subst hh) | skip)
    | refine WP.nil ?_
    | refine V.not rfl rfl ?_
    | refine VP.not rfl rfl rfl ?_
    | ((first | refine V.split rfl rfl rfl rfl ?_ ?_ | refine VP.split hpk rfl rfl rfl rfl rfl ?_ ?_ | refine V.cond rfl ?_ ?_) <;> intro hB <;> (try simp only [ltB_eq, leB_eq, eqB_eq, seB_eq, decide_eq_true_eq, decide_eq_false_iff_not, Bool.not_eq_true', Bool.not_eq_false', Bool.not_eq_true, Bool.not_eq_false] at hB) <;> (try (exfalso; first | omega | exact hB trivial))))
    all_goals first | (exact absurd (by assumption) hne) | skip
    · refine V.ret hk FuncT.h rfl ⟨retB ?_, rfl⟩
      have : ¬ (b :: t).length ≤ 16 := by omega
      simp only [nameB, hb, this, decide_false, Bool.false_and]
    · refine V.ret hk FuncT.h rfl ⟨retB ?_, rfl⟩
      have : smallB b.toNat = false := by simpa using hB
      simp only [nameB, hb, this, Bool.and_false, Bool.false_and]
    have hsm : smallB b.toNat = true := by simpa using hB
    have h16 : (b :: t).length ≤ 16 := by omega
    have hnm : nameB (bl s) = (bl s).all fun c => innerB c.toNat := by
      simp only [nameB, hb, h16, decide_true, hsm, Bool.true_and]
    refine V.rounds (α := Nat) (fun i => 16 - i) (fun i => [(0, .string s), (18, .int .i64 (s.data.toList.length : Nat)), (19, .int .i64 (i : Nat))]) (fun i h' => i ≤ (bl s).length ∧ ((bl s).take i).all (fun c => innerB c.toNat) = true ∧ h' = h) 0 ⟨rfl, rfl, rfl, trivial⟩ ⟨by omega, by simp, rfl⟩ ?_
    rintro i h ⟨hi, hal, rfl⟩ ih
    by_cases hlt : i < (bl s).length
    · obtain ⟨b1, hb1⟩ : ∃ b1, (bl s)[i]? = some b1 := ⟨(bl s)[i], List.getElem?_eq_getElem hlt⟩
      have hb1' : s.data.toList[i]? = some b1 := hb1
      have hlt' : i < s.data.toList.length := hlt
      repeat' (first
    | refine V.ctl rfl ?_
    | (refine V.on rfl ?_; first | refine V.easy rfl rfl ?_ | refine V.val (x_lenS rfl StringT.h (E.l rfl)) rfl ?_ | refine V.val (x_lenL rfl SliceT.u (E.l rfl)) rfl ?_ | refine V.val (x_fld rfl FieldT.h (E.l rfl)) rfl ?_ | refine V.val (x_idxAT rfl (E.l rfl) (E.l rfl) (by omega)) rfl ?_ | refine V.val (x_load rfl (E.l rfl) ScalarT.a (by first | assumption | exact (Own.cell (by assumption) _).trans rfl)) rfl ?_ | refine V.val (x_loadA rfl (E.l rfl) AggT.a AggT.z (by first | assumption | exact Own.loadAll (by assumption) rfl)) rfl ?_ | refine V.val (x_idxS rfl StringT.h (E.l rfl) (E.l rfl) (by assumption)) rfl ?_ | refine V.val (x_add rfl (E.l rfl) (E.l rfl) (by omega) (by omega)) rfl ?_ | refine V.val (x_sub rfl (E.l rfl) (E.l rfl) (by omega) (by omega)) rfl ?_ | (refine V.call (x_call rfl FuncT.ok (E.s rfl)) rfl (inner_fn _ _) ?_; rintro v h1 ⟨rfl, hh⟩; replace hh := hh.symm; subst hh) | skip)
    | (refine VP.on rfl rfl ?_; first | refine VP.easy rfl rfl rfl rfl rfl ?_ | refine VP.v (x_lenS rfl StringT.h (E.l rfl)) rfl rfl rfl rfl ?_ | refine VP.v (x_lenL rfl SliceT.u (E.l rfl)) rfl rfl rfl rfl ?_ | refine VP.v (x_fld rfl FieldT.h (E.l rfl)) rfl rfl rfl rfl ?_ | refine VP.v (x_idxAT rfl (E.l rfl) (E.l rfl) (by omega)) rfl rfl rfl rfl ?_ | refine VP.v (x_load rfl (E.l rfl) ScalarT.a (by first | assumption | exact (Own.cell (by assumption) _).trans rfl)) rfl rfl rfl rfl ?_ | refine VP.v (x_loadA rfl (E.l rfl) AggT.a AggT.z (by first | assumption | exact Own.loadAll (by assumption) rfl)) rfl rfl rfl rfl ?_ | refine VP.v (x_idxS rfl StringT.h (E.l rfl) (E.l rfl) (by assumption)) rfl rfl rfl rfl ?_ | refine VP.v (x_add rfl (E.l rfl) (E.l rfl) (by omega) (by omega)) rfl rfl rfl rfl ?_ | refine VP.v (x_sub rfl (E.l rfl) (E.l rfl) (by omega) (by omega)) rfl rfl rfl rfl ?_ | (refine V.call (x_call rfl FuncT.ok (E.s rfl)) rfl (inner_fn _ _) ?_; rintro v h1 ⟨rfl, hh⟩; replace hh := hh.symm; subst hh) | skip)
    | refine WP.nil ?_
    | refine V.not rfl rfl ?_
    | refine VP.not rfl rfl rfl ?_
    | ((first | refine V.split rfl rfl rfl rfl ?_ ?_ | refine VP.split hpk rfl rfl rfl rfl rfl ?_ ?_ | refine V.cond rfl ?_ ?_) <;> intro hB <;> (try simp only [ltB_eq, leB_eq, eqB_eq, seB_eq, decide_eq_true_eq, decide_eq_false_iff_not, Bool.not_eq_true', Bool.not_eq_false', Bool.not_eq_true, Bool.not_eq_false] at hB) <;> (try (exfalso; first | omega | exact hB trivial))))
      · refine V.ret hk FuncT.h rfl ⟨retB ?_, rfl⟩
        rw [hnm]
        have : innerB b1.toNat = false := by simpa using hB
        symm
        rw [List.all_eq_false]
        exact ⟨b1, List.mem_of_getElem? hb1, by simp [this]⟩
      · refine ih (i + 1) _ _ ?_ ?_ ?_
        · have : (bl s).length ≤ 16 := by rw [hb]; exact h16
          omega
        · refine ⟨hlt, ?_, rfl⟩
          have hin : innerB b1.toNat = true := by simpa using hB
          rw [List.take_succ_eq_append_getElem hlt, List.all_append, hal]
          simp only [List.all_cons, List.all_nil, Bool.and_true, Bool.true_and]
          rw [(List.getElem?_eq_some_iff.1 hb1).2]; exact hin
        · exact ⟨rfl, rfl, rfl, trivial⟩
    · have hlt' : ¬ i < s.data.toList.length := hlt
      repeat' (first
    | refine V.ctl rfl ?_
    | (refine V.on rfl ?_; first | refine V.easy rfl rfl ?_ | refine V.val (x_lenS rfl StringT.h (E.l rfl)) rfl ?_ | refine V.val (x_lenL rfl SliceT.u (E.l rfl)) rfl ?_ | refine V.val (x_fld rfl FieldT.h (E.l rfl)) rfl ?_ | refine V.val (x_idxAT rfl (E.l rfl) (E.l rfl) (by omega)) rfl ?_ | refine V.val (x_load rfl (E.l rfl) ScalarT.a (by first | assumption | exact (Own.cell (by assumption) _).trans rfl)) rfl ?_ | refine V.val (x_loadA rfl (E.l rfl) AggT.a AggT.z (by first | assumption | exact Own.loadAll (by assumption) rfl)) rfl ?_ | refine V.val (x_idxS rfl StringT.h (E.l rfl) (E.l rfl) (by assumption)) rfl ?_ | refine V.val (x_add rfl (E.l rfl) (E.l rfl) (by omega) (by omega)) rfl ?_ | refine V.val (x_sub rfl (E.l rfl) (E.l rfl) (by omega) (by omega)) rfl ?_ | skip)
    | (refine VP.on rfl rfl ?_; first | refine VP.easy rfl rfl rfl rfl rfl ?_ | refine VP.v (x_lenS rfl StringT.h (E.l rfl)) rfl rfl rfl rfl ?_ | refine VP.v (x_lenL rfl SliceT.u (E.l rfl)) rfl rfl rfl rfl ?_ | refine VP.v (x_fld rfl FieldT.h (E.l rfl)) rfl rfl rfl rfl ?_ | refine VP.v (x_idxAT rfl (E.l rfl) (E.l rfl) (by omega)) rfl rfl rfl rfl ?_ | refine VP.v (x_load rfl (E.l rfl) ScalarT.a (by first | assumption | exact (Own.cell (by assumption) _).trans rfl)) rfl rfl rfl rfl ?_ | refine VP.v (x_loadA rfl (E.l rfl) AggT.a AggT.z (by first | assumption | exact Own.loadAll (by assumption) rfl)) rfl rfl rfl rfl ?_ | refine VP.v (x_idxS rfl StringT.h (E.l rfl) (E.l rfl) (by assumption)) rfl rfl rfl rfl ?_ | refine VP.v (x_add rfl (E.l rfl) (E.l rfl) (by omega) (by omega)) rfl rfl rfl rfl ?_ | refine VP.v (x_sub rfl (E.l rfl) (E.l rfl) (by omega) (by omega)) rfl rfl rfl rfl ?_ | skip)
    | refine WP.nil ?_
    | refine V.not rfl rfl ?_
    | refine VP.not rfl rfl rfl ?_
    | ((first | refine V.split rfl rfl rfl rfl ?_ ?_ | refine VP.split hpk rfl rfl rfl rfl rfl ?_ ?_ | refine V.cond rfl ?_ ?_) <;> intro hB <;> (try simp only [ltB_eq, leB_eq, eqB_eq, seB_eq, decide_eq_true_eq, decide_eq_false_iff_not, Bool.not_eq_true', Bool.not_eq_false', Bool.not_eq_true, Bool.not_eq_false] at hB) <;> (try (exfalso; first | omega | exact hB trivial))))
      refine V.ret hk FuncT.h rfl ⟨retB ?_, rfl⟩
      rw [hnm, ← hal, List.take_of_length_le (by omega)]
end Go.Proofs.YtladhpocefnkjaaGreatDoor
namespace Go.Proofs.YtladhpocefnkjaaGreatDoor
open Go Go.SX
variable {P : Program} {e : E} [GEnv e]
def onB (s : List UInt8) : Bool := decide (s = []) || (nameB s && !decide (s = [97, 110, 121]))
theorem on_fn (s : ByteArray) (hs : Fits s) (h : SX.H) : Gives P e 54 [.string s] h (fun v h' => v = .bool (onB (bl s)) ∧ h' = h) := by
  refine V.body FuncT.h rfl ?_
  intro c x xs hk
  repeat' (first
    | refine V.ctl rfl ?_
    | (refine V.on rfl ?_; first | refine V.easy rfl rfl ?_ | refine V.val (x_lenS rfl StringT.h (E.l rfl)) rfl ?_ | refine V.val (x_lenL rfl SliceT.u (E.l rfl)) rfl ?_ | refine V.val (x_fld rfl FieldT.h (E.l rfl)) rfl ?_ | refine V.val (x_idxAT rfl (E.l rfl) (E.l rfl) (by omega)) rfl ?_ | refine V.val (x_load rfl (E.l rfl) ScalarT.a (by first | assumption | exact (Own.cell (by assumption) _).trans rfl)) rfl ?_ | refine V.val (x_loadA rfl (E.l rfl) AggT.a AggT.z (by first | assumption | exact Own.loadAll (by assumption) rfl)) rfl ?_ | refine V.val (x_idxS rfl StringT.h (E.l rfl) (E.l rfl) (by assumption)) rfl ?_ | refine V.val (x_add rfl (E.l rfl) (E.l rfl) (by omega) (by omega)) rfl ?_ | refine V.val (x_sub rfl (E.l rfl) (E.l rfl) (by omega) (by omega)) rfl ?_ | (refine V.call (x_call rfl FuncT.ok (E.s rfl)) rfl (name_fn _ hs _) ?_; rintro v h1 ⟨rfl, hh⟩; replace hh := hh.symm; subst hh) | skip)
    | (refine VP.on rfl rfl ?_; first | refine VP.easy rfl rfl rfl rfl rfl ?_ | refine VP.v (x_lenS rfl StringT.h (E.l rfl)) rfl rfl rfl rfl ?_ | refine VP.v (x_lenL rfl SliceT.u (E.l rfl)) rfl rfl rfl rfl ?_ | refine VP.v (x_fld rfl FieldT.h (E.l rfl)) rfl rfl rfl rfl ?_ | refine VP.v (x_idxAT rfl (E.l rfl) (E.l rfl) (by omega)) rfl rfl rfl rfl ?_ | refine VP.v (x_load rfl (E.l rfl) ScalarT.a (by first | assumption | exact (Own.cell (by assumption) _).trans rfl)) rfl rfl rfl rfl ?_ | refine VP.v (x_loadA rfl (E.l rfl) AggT.a AggT.z (by first | assumption | exact Own.loadAll (by assumption) rfl)) rfl rfl rfl rfl ?_ | refine VP.v (x_idxS rfl StringT.h (E.l rfl) (E.l rfl) (by assumption)) rfl rfl rfl rfl ?_ | refine VP.v (x_add rfl (E.l rfl) (E.l rfl) (by omega) (by omega)) rfl rfl rfl rfl ?_ | refine VP.v (x_sub rfl (E.l rfl) (E.l rfl) (by omega) (by omega)) rfl rfl rfl rfl ?_ | (refine V.call (x_call rfl FuncT.ok (E.s rfl)) rfl (name_fn _ hs _) ?_; rintro v h1 ⟨rfl, hh⟩; replace hh := hh.symm; subst hh) | skip)
    | refine WP.nil ?_
    | refine V.not rfl rfl ?_
    | refine VP.not rfl rfl rfl ?_
    | ((first | refine V.split rfl rfl rfl rfl ?_ ?_ | refine VP.split hpk rfl rfl rfl rfl rfl ?_ ?_ | refine V.cond rfl ?_ ?_) <;> intro hB <;> (try simp only [ltB_eq, leB_eq, eqB_eq, seB_eq, decide_eq_true_eq, decide_eq_false_iff_not, Bool.not_eq_true', Bool.not_eq_false', Bool.not_eq_true, Bool.not_eq_false] at hB) <;> (try (exfalso; first | omega | exact hB trivial))))
  all_goals refine V.ret hk FuncT.h rfl ⟨retB ?_, rfl⟩
  all_goals (clear hk; unfold onB bl at *; (try simp only [seB_eq] at *); simp_all)
def withinB (a lo hi : Int) : Bool := decide (lo ≤ a) && decide (a ≤ hi)
theorem within_fn (a lo hi : Int) (h : SX.H) : Gives P e 139 [.int .i64 a, .int .i64 lo, .int .i64 hi] h (fun v h' => v = .bool (withinB a lo hi) ∧ h' = h) := by
  refine V.body FuncT.h rfl ?_
  intro c x xs hk
  repeat' (first
    | refine V.ctl rfl ?_
    | (refine V.on rfl ?_; first | refine V.easy rfl rfl ?_ | refine V.val (x_lenS rfl StringT.h (E.l rfl)) rfl ?_ | refine V.val (x_lenL rfl SliceT.u (E.l rfl)) rfl ?_ | refine V.val (x_fld rfl FieldT.h (E.l rfl)) rfl ?_ | refine V.val (x_idxAT rfl (E.l rfl) (E.l rfl) (by omega)) rfl ?_ | refine V.val (x_load rfl (E.l rfl) ScalarT.a (by first | assumption | exact (Own.cell (by assumption) _).trans rfl)) rfl ?_ | refine V.val (x_loadA rfl (E.l rfl) AggT.a AggT.z (by first | assumption | exact Own.loadAll (by assumption) rfl)) rfl ?_ | refine V.val (x_idxS rfl StringT.h (E.l rfl) (E.l rfl) (by assumption)) rfl ?_ | refine V.val (x_add rfl (E.l rfl) (E.l rfl) (by omega) (by omega)) rfl ?_ | refine V.val (x_sub rfl (E.l rfl) (E.l rfl) (by omega) (by omega)) rfl ?_ | skip)
    | (refine VP.on rfl rfl ?_; first | refine VP.easy rfl rfl rfl rfl rfl ?_ | refine VP.v (x_lenS rfl StringT.h (E.l rfl)) rfl rfl rfl rfl ?_ | refine VP.v (x_lenL rfl SliceT.u (E.l rfl)) rfl rfl rfl rfl ?_ | refine VP.v (x_fld rfl FieldT.h (E.l rfl)) rfl rfl rfl rfl ?_ | refine VP.v (x_idxAT rfl (E.l rfl) (E.l rfl) (by omega)) rfl rfl rfl rfl ?_ | refine VP.v (x_load rfl (E.l rfl) ScalarT.a (by first | assumption | exact (Own.cell (by assumption) _).trans rfl)) rfl rfl rfl rfl ?_ | refine VP.v (x_loadA rfl (E.l rfl) AggT.a AggT.z (by first | assumption | exact Own.loadAll (by assumption) rfl)) rfl rfl rfl rfl ?_ | refine VP.v (x_idxS rfl StringT.h (E.l rfl) (E.l rfl) (by assumption)) rfl rfl rfl rfl ?_ | refine VP.v (x_add rfl (E.l rfl) (E.l rfl) (by omega) (by omega)) rfl rfl rfl rfl ?_ | refine VP.v (x_sub rfl (E.l rfl) (E.l rfl) (by omega) (by omega)) rfl rfl rfl rfl ?_ | skip)
    | refine WP.nil ?_
    | refine V.not rfl rfl ?_
    | refine VP.not rfl rfl rfl ?_
    | ((first | refine V.split rfl rfl rfl rfl ?_ ?_ | refine VP.split hpk rfl rfl rfl rfl rfl ?_ ?_ | refine V.cond rfl ?_ ?_) <;> intro hB <;> (try simp only [ltB_eq, leB_eq, eqB_eq, seB_eq, decide_eq_true_eq, decide_eq_false_iff_not, Bool.not_eq_true', Bool.not_eq_false', Bool.not_eq_true, Bool.not_eq_false] at hB) <;> (try (exfalso; first | omega | exact hB trivial))))
  all_goals refine V.ret hk FuncT.h rfl ⟨retB ?_, rfl⟩
  all_goals (clear hk; unfold withinB; (try simp only [leB_eq]); rw [Bool.eq_iff_iff]; simp only [Bool.and_eq_true, decide_eq_true_eq, Bool.false_eq_true, false_iff]; omega)
structure Val where
  kind : Int
  num : Int
  text : ByteArray
def encVal (x : Val) : List Value := [.int .i64 x.kind, .int .i64 x.num, .string x.text]
theorem chk0 (x : Val) (h : SX.H) : Gives P e 166 [.agg ⟨encVal x⟩] h (fun v h' => v = .bool false ∧ HLe h h') := by
  refine V.body FuncT.h rfl ?_
  intro c x xs hk
  repeat' (first
    | refine V.ctl rfl ?_
    | (refine V.on rfl ?_; first | refine V.easy rfl rfl ?_ | refine V.val (x_lenS rfl StringT.h (E.l rfl)) rfl ?_ | refine V.val (x_lenL rfl SliceT.u (E.l rfl)) rfl ?_ | refine V.val (x_fld rfl FieldT.h (E.l rfl)) rfl ?_ | refine V.val (x_idxAT rfl (E.l rfl) (E.l rfl) (by omega)) rfl ?_ | refine V.val (x_load rfl (E.l rfl) ScalarT.a (by first | assumption | exact (Own.cell (by assumption) _).trans rfl)) rfl ?_ | refine V.val (x_loadA rfl (E.l rfl) AggT.a AggT.z (by first | assumption | exact Own.loadAll (by assumption) rfl)) rfl ?_ | refine V.val (x_idxS rfl StringT.h (E.l rfl) (E.l rfl) (by assumption)) rfl ?_ | refine V.val (x_add rfl (E.l rfl) (E.l rfl) (by omega) (by omega)) rfl ?_ | refine V.val (x_sub rfl (E.l rfl) (E.l rfl) (by omega) (by omega)) rfl ?_ | (refine V.box rfl rfl rfl ?_; intro r1 h1 hl1 ho1 hn1 hr1 hf1) | skip)
    | (refine VP.on rfl rfl ?_; first | refine VP.easy rfl rfl rfl rfl rfl ?_ | refine VP.v (x_lenS rfl StringT.h (E.l rfl)) rfl rfl rfl rfl ?_ | refine VP.v (x_lenL rfl SliceT.u (E.l rfl)) rfl rfl rfl rfl ?_ | refine VP.v (x_fld rfl FieldT.h (E.l rfl)) rfl rfl rfl rfl ?_ | refine VP.v (x_idxAT rfl (E.l rfl) (E.l rfl) (by omega)) rfl rfl rfl rfl ?_ | refine VP.v (x_load rfl (E.l rfl) ScalarT.a (by first | assumption | exact (Own.cell (by assumption) _).trans rfl)) rfl rfl rfl rfl ?_ | refine VP.v (x_loadA rfl (E.l rfl) AggT.a AggT.z (by first | assumption | exact Own.loadAll (by assumption) rfl)) rfl rfl rfl rfl ?_ | refine VP.v (x_idxS rfl StringT.h (E.l rfl) (E.l rfl) (by assumption)) rfl rfl rfl rfl ?_ | refine VP.v (x_add rfl (E.l rfl) (E.l rfl) (by omega) (by omega)) rfl rfl rfl rfl ?_ | refine VP.v (x_sub rfl (E.l rfl) (E.l rfl) (by omega) (by omega)) rfl rfl rfl rfl ?_ | (refine V.box rfl rfl rfl ?_; intro r1 h1 hl1 ho1 hn1 hr1 hf1) | skip)
    | refine WP.nil ?_
    | refine V.not rfl rfl ?_
    | refine VP.not rfl rfl rfl ?_
    | ((first | refine V.split rfl rfl rfl rfl ?_ ?_ | refine VP.split hpk rfl rfl rfl rfl rfl ?_ ?_ | refine V.cond rfl ?_ ?_) <;> intro hB <;> (try simp only [ltB_eq, leB_eq, eqB_eq, seB_eq, decide_eq_true_eq, decide_eq_false_iff_not, Bool.not_eq_true', Bool.not_eq_false', Bool.not_eq_true, Bool.not_eq_false] at hB) <;> (try (exfalso; first | omega | exact hB trivial))))
  refine V.ret hk FuncT.h rfl ⟨rfl, hl1⟩
def intB (x : Val) : Bool := decide (bl x.text = []) && withinB x.num (-1000000000) 1000000000
theorem chk1 (x : Val) (h : SX.H) : Gives P e 167 [.agg ⟨encVal x⟩] h (fun v h' => v = .bool (intB x) ∧ HLe h h') := by
  refine V.body FuncT.h rfl ?_
  intro c y xs hk
  repeat' (first
    | refine V.ctl rfl ?_
    | (refine V.on rfl ?_; first | refine V.easy rfl rfl ?_ | refine V.val (x_lenS rfl StringT.h (E.l rfl)) rfl ?_ | refine V.val (x_lenL rfl SliceT.u (E.l rfl)) rfl ?_ | refine V.val (x_fld rfl FieldT.h (E.l rfl)) rfl ?_ | refine V.val (x_idxAT rfl (E.l rfl) (E.l rfl) (by omega)) rfl ?_ | refine V.val (x_load rfl (E.l rfl) ScalarT.a (by first | assumption | exact (Own.cell (by assumption) _).trans rfl)) rfl ?_ | refine V.val (x_loadA rfl (E.l rfl) AggT.a AggT.z (by first | assumption | exact Own.loadAll (by assumption) rfl)) rfl ?_ | refine V.val (x_idxS rfl StringT.h (E.l rfl) (E.l rfl) (by assumption)) rfl ?_ | refine V.val (x_add rfl (E.l rfl) (E.l rfl) (by omega) (by omega)) rfl ?_ | refine V.val (x_sub rfl (E.l rfl) (E.l rfl) (by omega) (by omega)) rfl ?_ | (refine V.box rfl rfl rfl ?_; intro r1 h1 hl1 ho1 hn1 hr1 hf1) | (refine V.call (x_call rfl FuncT.ok (E.s rfl)) rfl (within_fn _ _ _ _) ?_; rintro v h1 ⟨rfl, hh⟩; replace hh := hh.symm; subst hh) | skip)
    | (refine VP.on rfl rfl ?_; first | refine VP.easy rfl rfl rfl rfl rfl ?_ | refine VP.v (x_lenS rfl StringT.h (E.l rfl)) rfl rfl rfl rfl ?_ | refine VP.v (x_lenL rfl SliceT.u (E.l rfl)) rfl rfl rfl rfl ?_ | refine VP.v (x_fld rfl FieldT.h (E.l rfl)) rfl rfl rfl rfl ?_ | refine VP.v (x_idxAT rfl (E.l rfl) (E.l rfl) (by omega)) rfl rfl rfl rfl ?_ | refine VP.v (x_load rfl (E.l rfl) ScalarT.a (by first | assumption | exact (Own.cell (by assumption) _).trans rfl)) rfl rfl rfl rfl ?_ | refine VP.v (x_loadA rfl (E.l rfl) AggT.a AggT.z (by first | assumption | exact Own.loadAll (by assumption) rfl)) rfl rfl rfl rfl ?_ | refine VP.v (x_idxS rfl StringT.h (E.l rfl) (E.l rfl) (by assumption)) rfl rfl rfl rfl ?_ | refine VP.v (x_add rfl (E.l rfl) (E.l rfl) (by omega) (by omega)) rfl rfl rfl rfl ?_ | refine VP.v (x_sub rfl (E.l rfl) (E.l rfl) (by omega) (by omega)) rfl rfl rfl rfl ?_ | (refine V.box rfl rfl rfl ?_; intro r1 h1 hl1 ho1 hn1 hr1 hf1) | (refine V.call (x_call rfl FuncT.ok (E.s rfl)) rfl (within_fn _ _ _ _) ?_; rintro v h1 ⟨rfl, hh⟩; replace hh := hh.symm; subst hh) | skip)
    | refine WP.nil ?_
    | refine V.not rfl rfl ?_
    | refine VP.not rfl rfl rfl ?_
    | ((first | refine V.split rfl rfl rfl rfl ?_ ?_ | refine VP.split hpk rfl rfl rfl rfl rfl ?_ ?_ | refine V.cond rfl ?_ ?_) <;> intro hB <;> (try simp only [ltB_eq, leB_eq, eqB_eq, seB_eq, decide_eq_true_eq, decide_eq_false_iff_not, Bool.not_eq_true', Bool.not_eq_false', Bool.not_eq_true, Bool.not_eq_false] at hB) <;> (try (exfalso; first | omega | exact hB trivial))))
  all_goals refine V.ret hk FuncT.h rfl ⟨retB ?_, hl1⟩
  all_goals (clear hk; unfold intB bl at *; (try simp only [seB_eq] at *); simp_all)
def textB (x : Val) : Bool := decide (x.num = 0) && decide ((bl x.text).length ≤ 40)
theorem chk2 (x : Val) (h : SX.H) : Gives P e 168 [.agg ⟨encVal x⟩] h (fun v h' => v = .bool (textB x) ∧ HLe h h') := by
  refine V.body FuncT.h rfl ?_
  intro c y xs hk
  repeat' (first
    | refine V.ctl rfl ?_
    | (refine V.on rfl ?_; first | refine V.easy rfl rfl ?_ | refine V.val (x_lenS rfl StringT.h (E.l rfl)) rfl ?_ | refine V.val (x_lenL rfl SliceT.u (E.l rfl)) rfl ?_ | refine V.val (x_fld rfl FieldT.h (E.l rfl)) rfl ?_ | refine V.val (x_idxAT rfl (E.l rfl) (E.l rfl) (by omega)) rfl ?_ | refine V.val (x_load rfl (E.l rfl) ScalarT.a (by first | assumption | exact (Own.cell (by assumption) _).trans rfl)) rfl ?_ | refine V.val (x_loadA rfl (E.l rfl) AggT.a AggT.z (by first | assumption | exact Own.loadAll (by assumption) rfl)) rfl ?_ | refine V.val (x_idxS rfl StringT.h (E.l rfl) (E.l rfl) (by assumption)) rfl ?_ | refine V.val (x_add rfl (E.l rfl) (E.l rfl) (by omega) (by omega)) rfl ?_ | refine V.val (x_sub rfl (E.l rfl) (E.l rfl) (by omega) (by omega)) rfl ?_ | (refine V.box rfl rfl rfl ?_; intro r1 h1 hl1 ho1 hn1 hr1 hf1) | skip)
    | (refine VP.on rfl rfl ?_; first | refine VP.easy rfl rfl rfl rfl rfl ?_ | refine VP.v (x_lenS rfl StringT.h (E.l rfl)) rfl rfl rfl rfl ?_ | refine VP.v (x_lenL rfl SliceT.u (E.l rfl)) rfl rfl rfl rfl ?_ | refine VP.v (x_fld rfl FieldT.h (E.l rfl)) rfl rfl rfl rfl ?_ | refine VP.v (x_idxAT rfl (E.l rfl) (E.l rfl) (by omega)) rfl rfl rfl rfl ?_ | refine VP.v (x_load rfl (E.l rfl) ScalarT.a (by first | assumption | exact (Own.cell (by assumption) _).trans rfl)) rfl rfl rfl rfl ?_ | refine VP.v (x_loadA rfl (E.l rfl) AggT.a AggT.z (by first | assumption | exact Own.loadAll (by assumption) rfl)) rfl rfl rfl rfl ?_ | refine VP.v (x_idxS rfl StringT.h (E.l rfl) (E.l rfl) (by assumption)) rfl rfl rfl rfl ?_ | refine VP.v (x_add rfl (E.l rfl) (E.l rfl) (by omega) (by omega)) rfl rfl rfl rfl ?_ | refine VP.v (x_sub rfl (E.l rfl) (E.l rfl) (by omega) (by omega)) rfl rfl rfl rfl ?_ | (refine V.box rfl rfl rfl ?_; intro r1 h1 hl1 ho1 hn1 hr1 hf1) | skip)
    | refine WP.nil ?_
    | refine V.not rfl rfl ?_
    | refine VP.not rfl rfl rfl ?_
    | ((first | refine V.split rfl rfl rfl rfl ?_ ?_ | refine VP.split hpk rfl rfl rfl rfl rfl ?_ ?_ | refine V.cond rfl ?_ ?_) <;> intro hB <;> (try simp only [ltB_eq, leB_eq, eqB_eq, seB_eq, decide_eq_true_eq, decide_eq_false_iff_not, Bool.not_eq_true', Bool.not_eq_false', Bool.not_eq_true, Bool.not_eq_false] at hB) <;> (try (exfalso; first | omega | exact hB trivial))))
  all_goals refine V.ret hk FuncT.h rfl ⟨retB ?_, hl1⟩
  all_goals (clear hk; unfold textB bl at *; (try simp only [eqB_eq, leB_eq] at *); rw [Bool.eq_iff_iff]; simp only [Bool.and_eq_true, decide_eq_true_eq, Bool.false_eq_true, false_iff]; omega)
end Go.Proofs.YtladhpocefnkjaaGreatDoor
namespace Go.Proofs.YtladhpocefnkjaaGreatDoor
open Go Go.SX
variable {P : Program} {e : E} [GEnv e]
abbrev fnv (f : Nat) : Value := .func (.func f) #[] #[]
theorem checks_fn (h : SX.H) : Gives P e 140 [] h (fun v h' => v = .agg ⟨[fnv 166, fnv 167, fnv 168]⟩ ∧ HLe h h') := by
  refine V.body FuncT.h rfl ?_
  intro c x xs hk
  refine W.fresh fun hf0 => ?_
  repeat' (first
    | refine V.ctl rfl ?_
    | (refine V.on rfl ?_; first | refine V.easy rfl rfl ?_ | refine V.val (x_lenS rfl StringT.h (E.l rfl)) rfl ?_ | refine V.val (x_lenL rfl SliceT.u (E.l rfl)) rfl ?_ | refine V.val (x_fld rfl FieldT.h (E.l rfl)) rfl ?_ | refine V.val (x_idxAT rfl (E.l rfl) (E.l rfl) (by omega)) rfl ?_ | refine V.val (x_load rfl (E.l rfl) ScalarT.a (by first | assumption | exact (Own.cell (by assumption) _).trans rfl)) rfl ?_ | refine V.val (x_loadA rfl (E.l rfl) AggT.a AggT.z (by first | assumption | exact Own.loadAll (by assumption) rfl)) rfl ?_ | refine V.val (x_idxS rfl StringT.h (E.l rfl) (E.l rfl) (by assumption)) rfl ?_ | refine V.val (x_add rfl (E.l rfl) (E.l rfl) (by omega) (by omega)) rfl ?_ | refine V.val (x_sub rfl (E.l rfl) (E.l rfl) (by omega) (by omega)) rfl ?_ | (refine V.alloc rfl rfl ?_; intro r1 h1 hl1 ho1 hn1 hr1 hf1) | (refine V.val (x_buildA rfl (E.p rfl) rfl) rfl ?_) | (refine V.store rfl rfl rfl AggT.z rfl ho1 (by decide) rfl rfl ?_; intro ho2) | skip)
    | (refine VP.on rfl rfl ?_; first | refine VP.easy rfl rfl rfl rfl rfl ?_ | refine VP.v (x_lenS rfl StringT.h (E.l rfl)) rfl rfl rfl rfl ?_ | refine VP.v (x_lenL rfl SliceT.u (E.l rfl)) rfl rfl rfl rfl ?_ | refine VP.v (x_fld rfl FieldT.h (E.l rfl)) rfl rfl rfl rfl ?_ | refine VP.v (x_idxAT rfl (E.l rfl) (E.l rfl) (by omega)) rfl rfl rfl rfl ?_ | refine VP.v (x_load rfl (E.l rfl) ScalarT.a (by first | assumption | exact (Own.cell (by assumption) _).trans rfl)) rfl rfl rfl rfl ?_ | refine VP.v (x_loadA rfl (E.l rfl) AggT.a AggT.z (by first | assumption | exact Own.loadAll (by assumption) rfl)) rfl rfl rfl rfl ?_ | refine VP.v (x_idxS rfl StringT.h (E.l rfl) (E.l rfl) (by assumption)) rfl rfl rfl rfl ?_ | refine VP.v (x_add rfl (E.l rfl) (E.l rfl) (by omega) (by omega)) rfl rfl rfl rfl ?_ | refine VP.v (x_sub rfl (E.l rfl) (E.l rfl) (by omega) (by omega)) rfl rfl rfl rfl ?_ | (refine V.alloc rfl rfl ?_; intro r1 h1 hl1 ho1 hn1 hr1 hf1) | (refine V.val (x_buildA rfl (E.p rfl) rfl) rfl ?_) | (refine V.store rfl rfl rfl AggT.z rfl ho1 (by decide) rfl rfl ?_; intro ho2) | skip)
    | refine WP.nil ?_
    | refine V.not rfl rfl ?_
    | refine VP.not rfl rfl rfl ?_
    | ((first | refine V.split rfl rfl rfl rfl ?_ ?_ | refine VP.split hpk rfl rfl rfl rfl rfl ?_ ?_ | refine V.cond rfl ?_ ?_) <;> intro hB <;> (try simp only [ltB_eq, leB_eq, eqB_eq, seB_eq, decide_eq_true_eq, decide_eq_false_iff_not, Bool.not_eq_true', Bool.not_eq_false', Bool.not_eq_true, Bool.not_eq_false] at hB) <;> (try (exfalso; first | omega | exact hB trivial))))
  refine V.retCell hk FuncT.h rfl rfl (v := .agg ⟨[fnv 166, fnv 167, fnv 168]⟩) ?_ ⟨rfl, HLe.upd (cs := []) hl1 hn1 hf0⟩
  have hh := Own.loadAll (n := 3) ho2 rfl
  simp only [Go.SX.loadVar, AggT.a (e := e) (t := 179), AggT.z (e := e) (t := 179)]
  rw [hh]; rfl
def valB (x : Val) : Bool := withinB x.kind 0 2 && (if x.kind = 0 then false else if x.kind = 1 then intB x else textB x)
theorem value_fn (x : Val) (h : SX.H) : Gives P e 107 [.agg ⟨encVal x⟩] h (fun v h' => v = .bool (valB x) ∧ HLe h h') := by
  refine V.body FuncT.h rfl ?_
  intro c y xs hk
  repeat' (first
    | refine V.ctl rfl ?_
    | (refine V.on rfl ?_; first | refine V.easy rfl rfl ?_ | refine V.val (x_lenS rfl StringT.h (E.l rfl)) rfl ?_ | refine V.val (x_lenL rfl SliceT.u (E.l rfl)) rfl ?_ | refine V.val (x_fld rfl FieldT.h (E.l rfl)) rfl ?_ | refine V.val (x_idxAT rfl (E.l rfl) (E.l rfl) (by omega)) rfl ?_ | refine V.val (x_load rfl (E.l rfl) ScalarT.a (by first | assumption | exact (Own.cell (by assumption) _).trans rfl)) rfl ?_ | refine V.val (x_loadA rfl (E.l rfl) AggT.a AggT.z (by first | assumption | exact Own.loadAll (by assumption) rfl)) rfl ?_ | refine V.val (x_idxS rfl StringT.h (E.l rfl) (E.l rfl) (by assumption)) rfl ?_ | refine V.val (x_add rfl (E.l rfl) (E.l rfl) (by omega) (by omega)) rfl ?_ | refine V.val (x_sub rfl (E.l rfl) (E.l rfl) (by omega) (by omega)) rfl ?_ | (refine V.box rfl rfl rfl ?_; intro r1 h1 hl1 ho1 hn1 hr1 hf1) | skip)
    | (refine VP.on rfl rfl ?_; first | refine VP.easy rfl rfl rfl rfl rfl ?_ | refine VP.v (x_lenS rfl StringT.h (E.l rfl)) rfl rfl rfl rfl ?_ | refine VP.v (x_lenL rfl SliceT.u (E.l rfl)) rfl rfl rfl rfl ?_ | refine VP.v (x_fld rfl FieldT.h (E.l rfl)) rfl rfl rfl rfl ?_ | refine VP.v (x_idxAT rfl (E.l rfl) (E.l rfl) (by omega)) rfl rfl rfl rfl ?_ | refine VP.v (x_load rfl (E.l rfl) ScalarT.a (by first | assumption | exact (Own.cell (by assumption) _).trans rfl)) rfl rfl rfl rfl ?_ | refine VP.v (x_loadA rfl (E.l rfl) AggT.a AggT.z (by first | assumption | exact Own.loadAll (by assumption) rfl)) rfl rfl rfl rfl ?_ | refine VP.v (x_idxS rfl StringT.h (E.l rfl) (E.l rfl) (by assumption)) rfl rfl rfl rfl ?_ | refine VP.v (x_add rfl (E.l rfl) (E.l rfl) (by omega) (by omega)) rfl rfl rfl rfl ?_ | refine VP.v (x_sub rfl (E.l rfl) (E.l rfl) (by omega) (by omega)) rfl rfl rfl rfl ?_ | (refine V.box rfl rfl rfl ?_; intro r1 h1 hl1 ho1 hn1 hr1 hf1) | skip)
    | refine WP.nil ?_
    | refine V.not rfl rfl ?_
    | refine VP.not rfl rfl rfl ?_
    | ((first | refine V.split rfl rfl rfl rfl ?_ ?_ | refine VP.split hpk rfl rfl rfl rfl rfl ?_ ?_ | refine V.cond rfl ?_ ?_) <;> intro hB <;> (try simp only [ltB_eq, leB_eq, eqB_eq, seB_eq, decide_eq_true_eq, decide_eq_false_iff_not, Bool.not_eq_true', Bool.not_eq_false', Bool.not_eq_true, Bool.not_eq_false] at hB) <;> (try (exfalso; first | omega | exact hB trivial))))
  (refine W.draw (pl := [.e 0, .e 1, .x 2 false, .e 3, .e 5, .e 6, .e 8, .x 4 true, .e 7, .x 9 false, .e 10, .e 11]) (by kernel_rfl) (by kernel_rfl) ?_; intro hpk)
  repeat' (first
    | refine V.ctl rfl ?_
    | (refine V.on rfl ?_; first | refine V.easy rfl rfl ?_ | refine V.val (x_lenS rfl StringT.h (E.l rfl)) rfl ?_ | refine V.val (x_lenL rfl SliceT.u (E.l rfl)) rfl ?_ | refine V.val (x_fld rfl FieldT.h (E.l rfl)) rfl ?_ | refine V.val (x_idxAT rfl (E.l rfl) (E.l rfl) (by omega)) rfl ?_ | refine V.val (x_load rfl (E.l rfl) ScalarT.a (by first | assumption | exact (Own.cell (by assumption) _).trans rfl)) rfl ?_ | refine V.val (x_loadA rfl (E.l rfl) AggT.a AggT.z (by first | assumption | exact Own.loadAll (by assumption) rfl)) rfl ?_ | refine V.val (x_idxS rfl StringT.h (E.l rfl) (E.l rfl) (by assumption)) rfl ?_ | refine V.val (x_add rfl (E.l rfl) (E.l rfl) (by omega) (by omega)) rfl ?_ | refine V.val (x_sub rfl (E.l rfl) (E.l rfl) (by omega) (by omega)) rfl ?_ | (refine VP.callX (x_call rfl FuncT.ok (E.s rfl)) rfl rfl (within_fn _ _ _ _) (fun v h2 q => by rw [q.2]; exact ⟨Nat.le_refl _, fun _ => HLe.refl _⟩) ?_; rintro v h1 ⟨rfl, hh⟩; replace hh := hh.symm; subst hh) | skip)
    | (refine VP.on rfl rfl ?_; first | refine VP.easy rfl rfl rfl rfl rfl ?_ | refine VP.v (x_lenS rfl StringT.h (E.l rfl)) rfl rfl rfl rfl ?_ | refine VP.v (x_lenL rfl SliceT.u (E.l rfl)) rfl rfl rfl rfl ?_ | refine VP.v (x_fld rfl FieldT.h (E.l rfl)) rfl rfl rfl rfl ?_ | refine VP.v (x_idxAT rfl (E.l rfl) (E.l rfl) (by omega)) rfl rfl rfl rfl ?_ | refine VP.v (x_load rfl (E.l rfl) ScalarT.a (by first | assumption | exact (Own.cell (by assumption) _).trans rfl)) rfl rfl rfl rfl ?_ | refine VP.v (x_loadA rfl (E.l rfl) AggT.a AggT.z (by first | assumption | exact Own.loadAll (by assumption) rfl)) rfl rfl rfl rfl ?_ | refine VP.v (x_idxS rfl StringT.h (E.l rfl) (E.l rfl) (by assumption)) rfl rfl rfl rfl ?_ | refine VP.v (x_add rfl (E.l rfl) (E.l rfl) (by omega) (by omega)) rfl rfl rfl rfl ?_ | refine VP.v (x_sub rfl (E.l rfl) (E.l rfl) (by omega) (by omega)) rfl rfl rfl rfl ?_ | (refine VP.callX (x_call rfl FuncT.ok (E.s rfl)) rfl rfl (within_fn _ _ _ _) (fun v h2 q => by rw [q.2]; exact ⟨Nat.le_refl _, fun _ => HLe.refl _⟩) ?_; rintro v h1 ⟨rfl, hh⟩; replace hh := hh.symm; subst hh) | skip)
    | refine WP.nil ?_
    | refine V.not rfl rfl ?_
    | refine VP.not rfl rfl rfl ?_
    | ((first | refine V.split rfl rfl rfl rfl ?_ ?_ | refine VP.split hpk rfl rfl rfl rfl rfl ?_ ?_ | refine V.cond rfl ?_ ?_) <;> intro hB <;> (try simp only [ltB_eq, leB_eq, eqB_eq, seB_eq, decide_eq_true_eq, decide_eq_false_iff_not, Bool.not_eq_true', Bool.not_eq_false', Bool.not_eq_true, Bool.not_eq_false] at hB) <;> (try (exfalso; first | omega | exact hB trivial))))
  · have hk3 : x.kind = 0 ∨ x.kind = 1 ∨ x.kind = 2 := by simp only [withinB, Bool.and_eq_true, decide_eq_true_eq] at hB; omega
    obtain ⟨kind, num, text⟩ := x
    simp only at hk3
    rcases hk3 with rfl | rfl | rfl
    · (refine VP.callX (x_call rfl FuncT.ok (E.s rfl)) rfl rfl (checks_fn _) (fun v h2 q => ⟨q.2.n, fun _ => q.2⟩) ?_; rintro v h2 ⟨rfl, hl2⟩)
      repeat' (first
    | refine V.ctl rfl ?_
    | (refine V.on rfl ?_; first | refine V.easy rfl rfl ?_ | refine V.val (x_lenS rfl StringT.h (E.l rfl)) rfl ?_ | refine V.val (x_lenL rfl SliceT.u (E.l rfl)) rfl ?_ | refine V.val (x_fld rfl FieldT.h (E.l rfl)) rfl ?_ | refine V.val (x_idxAT rfl (E.l rfl) (E.l rfl) (by omega)) rfl ?_ | refine V.val (x_load rfl (E.l rfl) ScalarT.a (by first | assumption | exact (Own.cell (by assumption) _).trans rfl)) rfl ?_ | refine V.val (x_loadA rfl (E.l rfl) AggT.a AggT.z (by first | assumption | exact Own.loadAll (by assumption) rfl)) rfl ?_ | refine V.val (x_idxS rfl StringT.h (E.l rfl) (E.l rfl) (by assumption)) rfl ?_ | refine V.val (x_add rfl (E.l rfl) (E.l rfl) (by omega) (by omega)) rfl ?_ | refine V.val (x_sub rfl (E.l rfl) (E.l rfl) (by omega) (by omega)) rfl ?_ | (refine VP.val (x_idxG rfl UnderT.h ScalarT.z ScalarT.a (E.l rfl) (E.l rfl) (j := 0) (by decide) rfl) rfl rfl rfl rfl rfl ?_) | (refine VP.callX (x_callV rfl (E.l rfl) FuncT.ok (E.s rfl)) rfl rfl (chk0 ⟨0, num, text⟩ _) (fun v h3 q => ⟨q.2.n, fun _ => q.2⟩) ?_; rintro v h3 ⟨rfl, hl3⟩) | skip)
    | (refine VP.on rfl rfl ?_; first | refine VP.easy rfl rfl rfl rfl rfl ?_ | refine VP.v (x_lenS rfl StringT.h (E.l rfl)) rfl rfl rfl rfl ?_ | refine VP.v (x_lenL rfl SliceT.u (E.l rfl)) rfl rfl rfl rfl ?_ | refine VP.v (x_fld rfl FieldT.h (E.l rfl)) rfl rfl rfl rfl ?_ | refine VP.v (x_idxAT rfl (E.l rfl) (E.l rfl) (by omega)) rfl rfl rfl rfl ?_ | refine VP.v (x_load rfl (E.l rfl) ScalarT.a (by first | assumption | exact (Own.cell (by assumption) _).trans rfl)) rfl rfl rfl rfl ?_ | refine VP.v (x_loadA rfl (E.l rfl) AggT.a AggT.z (by first | assumption | exact Own.loadAll (by assumption) rfl)) rfl rfl rfl rfl ?_ | refine VP.v (x_idxS rfl StringT.h (E.l rfl) (E.l rfl) (by assumption)) rfl rfl rfl rfl ?_ | refine VP.v (x_add rfl (E.l rfl) (E.l rfl) (by omega) (by omega)) rfl rfl rfl rfl ?_ | refine VP.v (x_sub rfl (E.l rfl) (E.l rfl) (by omega) (by omega)) rfl rfl rfl rfl ?_ | (refine VP.val (x_idxG rfl UnderT.h ScalarT.z ScalarT.a (E.l rfl) (E.l rfl) (j := 0) (by decide) rfl) rfl rfl rfl rfl rfl ?_) | (refine VP.callX (x_callV rfl (E.l rfl) FuncT.ok (E.s rfl)) rfl rfl (chk0 ⟨0, num, text⟩ _) (fun v h3 q => ⟨q.2.n, fun _ => q.2⟩) ?_; rintro v h3 ⟨rfl, hl3⟩) | skip)
    | refine WP.nil ?_
    | refine V.not rfl rfl ?_
    | refine VP.not rfl rfl rfl ?_
    | ((first | refine V.split rfl rfl rfl rfl ?_ ?_ | refine VP.split hpk rfl rfl rfl rfl rfl ?_ ?_ | refine V.cond rfl ?_ ?_) <;> intro hB <;> (try simp only [ltB_eq, leB_eq, eqB_eq, seB_eq, decide_eq_true_eq, decide_eq_false_iff_not, Bool.not_eq_true', Bool.not_eq_false', Bool.not_eq_true, Bool.not_eq_false] at hB) <;> (try (exfalso; first | omega | exact hB trivial))))
      exact V.ret hk FuncT.h rfl ⟨rfl, (hl1.trans hl2).trans hl3⟩
    · (refine VP.callX (x_call rfl FuncT.ok (E.s rfl)) rfl rfl (checks_fn _) (fun v h2 q => ⟨q.2.n, fun _ => q.2⟩) ?_; rintro v h2 ⟨rfl, hl2⟩)
      repeat' (first
    | refine V.ctl rfl ?_
    | (refine V.on rfl ?_; first | refine V.easy rfl rfl ?_ | refine V.val (x_lenS rfl StringT.h (E.l rfl)) rfl ?_ | refine V.val (x_lenL rfl SliceT.u (E.l rfl)) rfl ?_ | refine V.val (x_fld rfl FieldT.h (E.l rfl)) rfl ?_ | refine V.val (x_idxAT rfl (E.l rfl) (E.l rfl) (by omega)) rfl ?_ | refine V.val (x_load rfl (E.l rfl) ScalarT.a (by first | assumption | exact (Own.cell (by assumption) _).trans rfl)) rfl ?_ | refine V.val (x_loadA rfl (E.l rfl) AggT.a AggT.z (by first | assumption | exact Own.loadAll (by assumption) rfl)) rfl ?_ | refine V.val (x_idxS rfl StringT.h (E.l rfl) (E.l rfl) (by assumption)) rfl ?_ | refine V.val (x_add rfl (E.l rfl) (E.l rfl) (by omega) (by omega)) rfl ?_ | refine V.val (x_sub rfl (E.l rfl) (E.l rfl) (by omega) (by omega)) rfl ?_ | (refine VP.val (x_idxG rfl UnderT.h ScalarT.z ScalarT.a (E.l rfl) (E.l rfl) (j := 1) (by decide) rfl) rfl rfl rfl rfl rfl ?_) | (refine VP.callX (x_callV rfl (E.l rfl) FuncT.ok (E.s rfl)) rfl rfl (chk1 ⟨1, num, text⟩ _) (fun v h3 q => ⟨q.2.n, fun _ => q.2⟩) ?_; rintro v h3 ⟨rfl, hl3⟩) | skip)
    | (refine VP.on rfl rfl ?_; first | refine VP.easy rfl rfl rfl rfl rfl ?_ | refine VP.v (x_lenS rfl StringT.h (E.l rfl)) rfl rfl rfl rfl ?_ | refine VP.v (x_lenL rfl SliceT.u (E.l rfl)) rfl rfl rfl rfl ?_ | refine VP.v (x_fld rfl FieldT.h (E.l rfl)) rfl rfl rfl rfl ?_ | refine VP.v (x_idxAT rfl (E.l rfl) (E.l rfl) (by omega)) rfl rfl rfl rfl ?_ | refine VP.v (x_load rfl (E.l rfl) ScalarT.a (by first | assumption | exact (Own.cell (by assumption) _).trans rfl)) rfl rfl rfl rfl ?_ | refine VP.v (x_loadA rfl (E.l rfl) AggT.a AggT.z (by first | assumption | exact Own.loadAll (by assumption) rfl)) rfl rfl rfl rfl ?_ | refine VP.v (x_idxS rfl StringT.h (E.l rfl) (E.l rfl) (by assumption)) rfl rfl rfl rfl ?_ | refine VP.v (x_add rfl (E.l rfl) (E.l rfl) (by omega) (by omega)) rfl rfl rfl rfl ?_ | refine VP.v (x_sub rfl (E.l rfl) (E.l rfl) (by omega) (by omega)) rfl rfl rfl rfl ?_ | (refine VP.val (x_idxG rfl UnderT.h ScalarT.z ScalarT.a (E.l rfl) (E.l rfl) (j := 1) (by decide) rfl) rfl rfl rfl rfl rfl ?_) | (refine VP.callX (x_callV rfl (E.l rfl) FuncT.ok (E.s rfl)) rfl rfl (chk1 ⟨1, num, text⟩ _) (fun v h3 q => ⟨q.2.n, fun _ => q.2⟩) ?_; rintro v h3 ⟨rfl, hl3⟩) | skip)
    | refine WP.nil ?_
    | refine V.not rfl rfl ?_
    | refine VP.not rfl rfl rfl ?_
    | ((first | refine V.split rfl rfl rfl rfl ?_ ?_ | refine VP.split hpk rfl rfl rfl rfl rfl ?_ ?_ | refine V.cond rfl ?_ ?_) <;> intro hB <;> (try simp only [ltB_eq, leB_eq, eqB_eq, seB_eq, decide_eq_true_eq, decide_eq_false_iff_not, Bool.not_eq_true', Bool.not_eq_false', Bool.not_eq_true, Bool.not_eq_false] at hB) <;> (try (exfalso; first | omega | exact hB trivial))))
      exact V.ret hk FuncT.h rfl ⟨rfl, (hl1.trans hl2).trans hl3⟩
    · (refine VP.callX (x_call rfl FuncT.ok (E.s rfl)) rfl rfl (checks_fn _) (fun v h2 q => ⟨q.2.n, fun _ => q.2⟩) ?_; rintro v h2 ⟨rfl, hl2⟩)
      repeat' (first
    | refine V.ctl rfl ?_
    | (refine V.on rfl ?_; first | refine V.easy rfl rfl ?_ | refine V.val (x_lenS rfl StringT.h (E.l rfl)) rfl ?_ | refine V.val (x_lenL rfl SliceT.u (E.l rfl)) rfl ?_ | refine V.val (x_fld rfl FieldT.h (E.l rfl)) rfl ?_ | refine V.val (x_idxAT rfl (E.l rfl) (E.l rfl) (by omega)) rfl ?_ | refine V.val (x_load rfl (E.l rfl) ScalarT.a (by first | assumption | exact (Own.cell (by assumption) _).trans rfl)) rfl ?_ | refine V.val (x_loadA rfl (E.l rfl) AggT.a AggT.z (by first | assumption | exact Own.loadAll (by assumption) rfl)) rfl ?_ | refine V.val (x_idxS rfl StringT.h (E.l rfl) (E.l rfl) (by assumption)) rfl ?_ | refine V.val (x_add rfl (E.l rfl) (E.l rfl) (by omega) (by omega)) rfl ?_ | refine V.val (x_sub rfl (E.l rfl) (E.l rfl) (by omega) (by omega)) rfl ?_ | (refine VP.val (x_idxG rfl UnderT.h ScalarT.z ScalarT.a (E.l rfl) (E.l rfl) (j := 2) (by decide) rfl) rfl rfl rfl rfl rfl ?_) | (refine VP.callX (x_callV rfl (E.l rfl) FuncT.ok (E.s rfl)) rfl rfl (chk2 ⟨2, num, text⟩ _) (fun v h3 q => ⟨q.2.n, fun _ => q.2⟩) ?_; rintro v h3 ⟨rfl, hl3⟩) | skip)
    | (refine VP.on rfl rfl ?_; first | refine VP.easy rfl rfl rfl rfl rfl ?_ | refine VP.v (x_lenS rfl StringT.h (E.l rfl)) rfl rfl rfl rfl ?_ | refine VP.v (x_lenL rfl SliceT.u (E.l rfl)) rfl rfl rfl rfl ?_ | refine VP.v (x_fld rfl FieldT.h (E.l rfl)) rfl rfl rfl rfl ?_ | refine VP.v (x_idxAT rfl (E.l rfl) (E.l rfl) (by omega)) rfl rfl rfl rfl ?_ | refine VP.v (x_load rfl (E.l rfl) ScalarT.a (by first | assumption | exact (Own.cell (by assumption) _).trans rfl)) rfl rfl rfl rfl ?_ | refine VP.v (x_loadA rfl (E.l rfl) AggT.a AggT.z (by first | assumption | exact Own.loadAll (by assumption) rfl)) rfl rfl rfl rfl ?_ | refine VP.v (x_idxS rfl StringT.h (E.l rfl) (E.l rfl) (by assumption)) rfl rfl rfl rfl ?_ | refine VP.v (x_add rfl (E.l rfl) (E.l rfl) (by omega) (by omega)) rfl rfl rfl rfl ?_ | refine VP.v (x_sub rfl (E.l rfl) (E.l rfl) (by omega) (by omega)) rfl rfl rfl rfl ?_ | (refine VP.val (x_idxG rfl UnderT.h ScalarT.z ScalarT.a (E.l rfl) (E.l rfl) (j := 2) (by decide) rfl) rfl rfl rfl rfl rfl ?_) | (refine VP.callX (x_callV rfl (E.l rfl) FuncT.ok (E.s rfl)) rfl rfl (chk2 ⟨2, num, text⟩ _) (fun v h3 q => ⟨q.2.n, fun _ => q.2⟩) ?_; rintro v h3 ⟨rfl, hl3⟩) | skip)
    | refine WP.nil ?_
    | refine V.not rfl rfl ?_
    | refine VP.not rfl rfl rfl ?_
    | ((first | refine V.split rfl rfl rfl rfl ?_ ?_ | refine VP.split hpk rfl rfl rfl rfl rfl ?_ ?_ | refine V.cond rfl ?_ ?_) <;> intro hB <;> (try simp only [ltB_eq, leB_eq, eqB_eq, seB_eq, decide_eq_true_eq, decide_eq_false_iff_not, Bool.not_eq_true', Bool.not_eq_false', Bool.not_eq_true, Bool.not_eq_false] at hB) <;> (try (exfalso; first | omega | exact hB trivial))))
      exact V.ret hk FuncT.h rfl ⟨rfl, (hl1.trans hl2).trans hl3⟩
  · refine V.ret hk FuncT.h rfl ⟨retB ?_, hl1⟩
    simp only [valB, hB, Bool.false_and]
theorem value_not (x : Val) (h : SX.H) : Gives P e 106 [.agg ⟨encVal x⟩] h (fun v h' => v = .bool (!valB x) ∧ HLe h h') := by
  refine V.body FuncT.h rfl ?_
  intro c y xs hk
  repeat' (first
    | refine V.ctl rfl ?_
    | (refine V.on rfl ?_; first | refine V.easy rfl rfl ?_ | refine V.val (x_lenS rfl StringT.h (E.l rfl)) rfl ?_ | refine V.val (x_lenL rfl SliceT.u (E.l rfl)) rfl ?_ | refine V.val (x_fld rfl FieldT.h (E.l rfl)) rfl ?_ | refine V.val (x_idxAT rfl (E.l rfl) (E.l rfl) (by omega)) rfl ?_ | refine V.val (x_load rfl (E.l rfl) ScalarT.a (by first | assumption | exact (Own.cell (by assumption) _).trans rfl)) rfl ?_ | refine V.val (x_loadA rfl (E.l rfl) AggT.a AggT.z (by first | assumption | exact Own.loadAll (by assumption) rfl)) rfl ?_ | refine V.val (x_idxS rfl StringT.h (E.l rfl) (E.l rfl) (by assumption)) rfl ?_ | refine V.val (x_add rfl (E.l rfl) (E.l rfl) (by omega) (by omega)) rfl ?_ | refine V.val (x_sub rfl (E.l rfl) (E.l rfl) (by omega) (by omega)) rfl ?_ | (refine V.box rfl rfl rfl ?_; intro r1 h1 hl1 ho1 hn1 hr1 hf1) | (refine V.call (x_call rfl FuncT.ok (E.s rfl)) rfl (value_fn x _) ?_; rintro v h2 ⟨rfl, hl2⟩) | skip)
    | (refine VP.on rfl rfl ?_; first | refine VP.easy rfl rfl rfl rfl rfl ?_ | refine VP.v (x_lenS rfl StringT.h (E.l rfl)) rfl rfl rfl rfl ?_ | refine VP.v (x_lenL rfl SliceT.u (E.l rfl)) rfl rfl rfl rfl ?_ | refine VP.v (x_fld rfl FieldT.h (E.l rfl)) rfl rfl rfl rfl ?_ | refine VP.v (x_idxAT rfl (E.l rfl) (E.l rfl) (by omega)) rfl rfl rfl rfl ?_ | refine VP.v (x_load rfl (E.l rfl) ScalarT.a (by first | assumption | exact (Own.cell (by assumption) _).trans rfl)) rfl rfl rfl rfl ?_ | refine VP.v (x_loadA rfl (E.l rfl) AggT.a AggT.z (by first | assumption | exact Own.loadAll (by assumption) rfl)) rfl rfl rfl rfl ?_ | refine VP.v (x_idxS rfl StringT.h (E.l rfl) (E.l rfl) (by assumption)) rfl rfl rfl rfl ?_ | refine VP.v (x_add rfl (E.l rfl) (E.l rfl) (by omega) (by omega)) rfl rfl rfl rfl ?_ | refine VP.v (x_sub rfl (E.l rfl) (E.l rfl) (by omega) (by omega)) rfl rfl rfl rfl ?_ | (refine V.box rfl rfl rfl ?_; intro r1 h1 hl1 ho1 hn1 hr1 hf1) | (refine V.call (x_call rfl FuncT.ok (E.s rfl)) rfl (value_fn x _) ?_; rintro v h2 ⟨rfl, hl2⟩) | skip)
    | refine WP.nil ?_
    | refine V.not rfl rfl ?_
    | refine VP.not rfl rfl rfl ?_
    | ((first | refine V.split rfl rfl rfl rfl ?_ ?_ | refine VP.split hpk rfl rfl rfl rfl rfl ?_ ?_ | refine V.cond rfl ?_ ?_) <;> intro hB <;> (try simp only [ltB_eq, leB_eq, eqB_eq, seB_eq, decide_eq_true_eq, decide_eq_false_iff_not, Bool.not_eq_true', Bool.not_eq_false', Bool.not_eq_true, Bool.not_eq_false] at hB) <;> (try (exfalso; first | omega | exact hB trivial))))
  exact V.ret hk FuncT.h rfl ⟨rfl, hl1.trans hl2⟩
end Go.Proofs.YtladhpocefnkjaaGreatDoor
namespace Go.Proofs.YtladhpocefnkjaaGreatDoor
open Go Go.SX
variable {P : Program} {e : E} [GEnv e]
def ixF {α : Type} (p : α → Bool) : List α → Nat → Int
  | [], _ => -1
  | x :: l, n => if p x then (n : Nat) else ixF p l (n + 1)
theorem ixF_gen {α : Type} {p : α → Bool} : ∀ {l : List α} {i n : Nat} {x : α}, (∀ y, y ∈ l.take i → p y = false) → l[i]? = some x → p x = true → ixF p l n = ((n + i : Nat) : Int)
  | [], i, n, x, _, h2, _ => by simp at h2
  | y :: l, 0, n, x, _, h2, h3 => by
    simp only [List.getElem?_cons_zero, Option.some.injEq] at h2; subst h2
    simp only [ixF, h3, if_true, Nat.add_zero]
  | y :: l, i + 1, n, x, h1, h2, h3 => by
    have hy := h1 y (by simp)
    simp only [ixF, hy, Bool.false_eq_true, if_false]
    rw [ixF_gen (i := i) (fun w hw => h1 w (by simp [hw])) (by simpa using h2) h3, show n + 1 + i = n + (i + 1) by omega]
theorem ixF_at {α : Type} {p : α → Bool} {l : List α} {i : Nat} {x : α} (h1 : ∀ y, y ∈ l.take i → p y = false) (h2 : l[i]? = some x) (h3 : p x = true) : ixF p l 0 = (i : Nat) := by
  rw [ixF_gen h1 h2 h3, Nat.zero_add]
theorem ixF_none {α : Type} {p : α → Bool} : ∀ {l : List α} {n : Nat}, (∀ y, y ∈ l → p y = false) → ixF p l n = -1
  | [], _, _ => rfl
  | y :: l, n, h => by simp only [ixF, h y (List.mem_cons_self ..), Bool.false_eq_true, if_false]; exact ixF_none fun w hw => h w (List.mem_cons_of_mem _ hw)
theorem ixF_any {α : Type} {p : α → Bool} : ∀ {l : List α} {n : Nat}, decide ((0 : Int) ≤ ixF p l n) = l.any p
  | [], _ => rfl
  | y :: l, n => by
    simp only [ixF, List.any_cons]
    by_cases hp : p y = true
    · simp [hp]
    · have hp' : p y = false := by simpa using hp
      simp only [hp', Bool.false_eq_true, if_false, Bool.false_or]; exact ixF_any
abbrev encS (s : ByteArray) : List Value := [.string s]
theorem val_ix (l : List Val) (sv : Value) (f : Nat) (cap : List Value) (p : Val → Bool) (h : SX.H) (sl : Sl h encVal 3 sv l) (nl : l.length ≤ 140737488351232) (hf : fnOk e f = true)
    (hp : ∀ x, x ∈ l → ∀ h1, HLe h h1 → Gives P e f (.agg ⟨encVal x⟩ :: cap) h1 (fun v h2 => v = .bool (p x) ∧ HLe h1 h2)) :
    Gives P e 138 [sv, .func (.func f) ⟨[]⟩ ⟨cap⟩] h (fun v h' => v = .int .i64 (ixF p l 0) ∧ HLe h h') := by
  obtain ⟨sa, sc, rfl, hsv⟩ := sl.view
  refine V.body FuncT.h rfl ?_
  intro c y xs hk
  repeat' (first
    | refine V.ctl rfl ?_
    | (refine V.on rfl ?_; first | refine V.easy rfl rfl ?_ | refine V.val (x_lenS rfl StringT.h (E.l rfl)) rfl ?_ | refine V.val (x_lenL rfl SliceT.u (E.l rfl)) rfl ?_ | refine V.val (x_fld rfl FieldT.h (E.l rfl)) rfl ?_ | refine V.val (x_idxAT rfl (E.l rfl) (E.l rfl) (by omega)) rfl ?_ | refine V.val (x_load rfl (E.l rfl) ScalarT.a (by first | assumption | exact (Own.cell (by assumption) _).trans rfl)) rfl ?_ | refine V.val (x_loadA rfl (E.l rfl) AggT.a AggT.z (by first | assumption | exact Own.loadAll (by assumption) rfl)) rfl ?_ | refine V.val (x_idxS rfl StringT.h (E.l rfl) (E.l rfl) (by assumption)) rfl ?_ | refine V.val (x_add rfl (E.l rfl) (E.l rfl) (by omega) (by omega)) rfl ?_ | refine V.val (x_sub rfl (E.l rfl) (E.l rfl) (by omega) (by omega)) rfl ?_ | skip)
    | (refine VP.on rfl rfl ?_; first | refine VP.easy rfl rfl rfl rfl rfl ?_ | refine VP.v (x_lenS rfl StringT.h (E.l rfl)) rfl rfl rfl rfl ?_ | refine VP.v (x_lenL rfl SliceT.u (E.l rfl)) rfl rfl rfl rfl ?_ | refine VP.v (x_fld rfl FieldT.h (E.l rfl)) rfl rfl rfl rfl ?_ | refine VP.v (x_idxAT rfl (E.l rfl) (E.l rfl) (by omega)) rfl rfl rfl rfl ?_ | refine VP.v (x_load rfl (E.l rfl) ScalarT.a (by first | assumption | exact (Own.cell (by assumption) _).trans rfl)) rfl rfl rfl rfl ?_ | refine VP.v (x_loadA rfl (E.l rfl) AggT.a AggT.z (by first | assumption | exact Own.loadAll (by assumption) rfl)) rfl rfl rfl rfl ?_ | refine VP.v (x_idxS rfl StringT.h (E.l rfl) (E.l rfl) (by assumption)) rfl rfl rfl rfl ?_ | refine VP.v (x_add rfl (E.l rfl) (E.l rfl) (by omega) (by omega)) rfl rfl rfl rfl ?_ | refine VP.v (x_sub rfl (E.l rfl) (E.l rfl) (by omega) (by omega)) rfl rfl rfl rfl ?_ | skip)
    | refine WP.nil ?_
    | refine V.not rfl rfl ?_
    | refine VP.not rfl rfl rfl ?_
    | ((first | refine V.split rfl rfl rfl rfl ?_ ?_ | refine VP.split hpk rfl rfl rfl rfl rfl ?_ ?_ | refine V.cond rfl ?_ ?_) <;> intro hB <;> (try simp only [ltB_eq, leB_eq, eqB_eq, seB_eq, decide_eq_true_eq, decide_eq_false_iff_not, Bool.not_eq_true', Bool.not_eq_false', Bool.not_eq_true, Bool.not_eq_false] at hB) <;> (try (exfalso; first | omega | exact hB trivial))))
  refine V.rounds (α := Nat) (fun i => l.length - i) (fun i => [(0, .slice sa l.length sc), (1, .func (.func f) ⟨[]⟩ ⟨cap⟩), (7, .int .i64 (l.length : Nat)), (8, .int .i64 (i : Nat))]) (fun i h' => i ≤ l.length ∧ (∀ w, w ∈ l.take i → p w = false) ∧ HLe h h') 0 ⟨rfl, rfl, rfl, rfl, trivial⟩ ⟨by omega, by simp, HLe.refl _⟩ ?_
  rintro i h1 ⟨hi, hal, hl1⟩ ih
  by_cases hlt : i < l.length
  · obtain ⟨x, hx⟩ : ∃ x, l[i]? = some x := ⟨l[i], List.getElem?_eq_getElem hlt⟩
    obtain ⟨r, off, rfl, hld0, hr⟩ := hsv i x hx
    have hld := hl1.loadAt hld0
    have hld2 := hld
    repeat' (first
    | refine V.ctl rfl ?_
    | (refine V.on rfl ?_; first | refine V.easy rfl rfl ?_ | refine V.val (x_lenS rfl StringT.h (E.l rfl)) rfl ?_ | refine V.val (x_lenL rfl SliceT.u (E.l rfl)) rfl ?_ | refine V.val (x_fld rfl FieldT.h (E.l rfl)) rfl ?_ | refine V.val (x_idxAT rfl (E.l rfl) (E.l rfl) (by omega)) rfl ?_ | refine V.val (x_load rfl (E.l rfl) ScalarT.a (by first | assumption | exact (Own.cell (by assumption) _).trans rfl)) rfl ?_ | refine V.val (x_loadA rfl (E.l rfl) AggT.a AggT.z (by first | assumption | exact Own.loadAll (by assumption) rfl)) rfl ?_ | refine V.val (x_idxS rfl StringT.h (E.l rfl) (E.l rfl) (by assumption)) rfl ?_ | refine V.val (x_add rfl (E.l rfl) (E.l rfl) (by omega) (by omega)) rfl ?_ | refine V.val (x_sub rfl (E.l rfl) (E.l rfl) (by omega) (by omega)) rfl ?_ | (refine V.call (x_callV rfl (E.l rfl) hf (E.s rfl)) rfl (hp x (List.mem_of_getElem? hx) _ hl1) ?_; rintro v h2 ⟨rfl, hl2⟩) | skip)
    | (refine VP.on rfl rfl ?_; first | refine VP.easy rfl rfl rfl rfl rfl ?_ | refine VP.v (x_lenS rfl StringT.h (E.l rfl)) rfl rfl rfl rfl ?_ | refine VP.v (x_lenL rfl SliceT.u (E.l rfl)) rfl rfl rfl rfl ?_ | refine VP.v (x_fld rfl FieldT.h (E.l rfl)) rfl rfl rfl rfl ?_ | refine VP.v (x_idxAT rfl (E.l rfl) (E.l rfl) (by omega)) rfl rfl rfl rfl ?_ | refine VP.v (x_load rfl (E.l rfl) ScalarT.a (by first | assumption | exact (Own.cell (by assumption) _).trans rfl)) rfl rfl rfl rfl ?_ | refine VP.v (x_loadA rfl (E.l rfl) AggT.a AggT.z (by first | assumption | exact Own.loadAll (by assumption) rfl)) rfl rfl rfl rfl ?_ | refine VP.v (x_idxS rfl StringT.h (E.l rfl) (E.l rfl) (by assumption)) rfl rfl rfl rfl ?_ | refine VP.v (x_add rfl (E.l rfl) (E.l rfl) (by omega) (by omega)) rfl rfl rfl rfl ?_ | refine VP.v (x_sub rfl (E.l rfl) (E.l rfl) (by omega) (by omega)) rfl rfl rfl rfl ?_ | (refine V.call (x_callV rfl (E.l rfl) hf (E.s rfl)) rfl (hp x (List.mem_of_getElem? hx) _ hl1) ?_; rintro v h2 ⟨rfl, hl2⟩) | skip)
    | refine WP.nil ?_
    | refine V.not rfl rfl ?_
    | refine VP.not rfl rfl rfl ?_
    | ((first | refine V.split rfl rfl rfl rfl ?_ ?_ | refine VP.split hpk rfl rfl rfl rfl rfl ?_ ?_ | refine V.cond rfl ?_ ?_) <;> intro hB <;> (try simp only [ltB_eq, leB_eq, eqB_eq, seB_eq, decide_eq_true_eq, decide_eq_false_iff_not, Bool.not_eq_true', Bool.not_eq_false', Bool.not_eq_true, Bool.not_eq_false] at hB) <;> (try (exfalso; first | omega | exact hB trivial))))
    · refine V.ret hk FuncT.h rfl ⟨?_, hl1.trans hl2⟩
      rw [ixF_at hal hx hB]; simp [tup]
    · refine ih (i + 1) _ _ ?_ ?_ ?_
      · omega
      · refine ⟨hlt, ?_, hl1.trans hl2⟩
        intro w hw
        rw [List.take_succ_eq_append_getElem hlt] at hw
        rcases List.mem_append.1 hw with q | q
        · exact hal w q
        · simp only [List.mem_singleton] at q; subst q
          rw [(List.getElem?_eq_some_iff.1 hx).2]; exact hB
      · exact ⟨rfl, rfl, rfl, rfl, trivial⟩
  · repeat' (first
    | refine V.ctl rfl ?_
    | (refine V.on rfl ?_; first | refine V.easy rfl rfl ?_ | refine V.val (x_lenS rfl StringT.h (E.l rfl)) rfl ?_ | refine V.val (x_lenL rfl SliceT.u (E.l rfl)) rfl ?_ | refine V.val (x_fld rfl FieldT.h (E.l rfl)) rfl ?_ | refine V.val (x_idxAT rfl (E.l rfl) (E.l rfl) (by omega)) rfl ?_ | refine V.val (x_load rfl (E.l rfl) ScalarT.a (by first | assumption | exact (Own.cell (by assumption) _).trans rfl)) rfl ?_ | refine V.val (x_loadA rfl (E.l rfl) AggT.a AggT.z (by first | assumption | exact Own.loadAll (by assumption) rfl)) rfl ?_ | refine V.val (x_idxS rfl StringT.h (E.l rfl) (E.l rfl) (by assumption)) rfl ?_ | refine V.val (x_add rfl (E.l rfl) (E.l rfl) (by omega) (by omega)) rfl ?_ | refine V.val (x_sub rfl (E.l rfl) (E.l rfl) (by omega) (by omega)) rfl ?_ | skip)
    | (refine VP.on rfl rfl ?_; first | refine VP.easy rfl rfl rfl rfl rfl ?_ | refine VP.v (x_lenS rfl StringT.h (E.l rfl)) rfl rfl rfl rfl ?_ | refine VP.v (x_lenL rfl SliceT.u (E.l rfl)) rfl rfl rfl rfl ?_ | refine VP.v (x_fld rfl FieldT.h (E.l rfl)) rfl rfl rfl rfl ?_ | refine VP.v (x_idxAT rfl (E.l rfl) (E.l rfl) (by omega)) rfl rfl rfl rfl ?_ | refine VP.v (x_load rfl (E.l rfl) ScalarT.a (by first | assumption | exact (Own.cell (by assumption) _).trans rfl)) rfl rfl rfl rfl ?_ | refine VP.v (x_loadA rfl (E.l rfl) AggT.a AggT.z (by first | assumption | exact Own.loadAll (by assumption) rfl)) rfl rfl rfl rfl ?_ | refine VP.v (x_idxS rfl StringT.h (E.l rfl) (E.l rfl) (by assumption)) rfl rfl rfl rfl ?_ | refine VP.v (x_add rfl (E.l rfl) (E.l rfl) (by omega) (by omega)) rfl rfl rfl rfl ?_ | refine VP.v (x_sub rfl (E.l rfl) (E.l rfl) (by omega) (by omega)) rfl rfl rfl rfl ?_ | skip)
    | refine WP.nil ?_
    | refine V.not rfl rfl ?_
    | refine VP.not rfl rfl rfl ?_
    | ((first | refine V.split rfl rfl rfl rfl ?_ ?_ | refine VP.split hpk rfl rfl rfl rfl rfl ?_ ?_ | refine V.cond rfl ?_ ?_) <;> intro hB <;> (try simp only [ltB_eq, leB_eq, eqB_eq, seB_eq, decide_eq_true_eq, decide_eq_false_iff_not, Bool.not_eq_true', Bool.not_eq_false', Bool.not_eq_true, Bool.not_eq_false] at hB) <;> (try (exfalso; first | omega | exact hB trivial))))
    refine V.ret hk FuncT.h rfl ⟨?_, hl1⟩
    rw [ixF_none fun w hw => hal w (by rw [List.take_of_length_le (by omega)]; exact hw)]; rfl
theorem val_any (l : List Val) (sv : Value) (f : Nat) (cap : List Value) (p : Val → Bool) (h : SX.H) (sl : Sl h encVal 3 sv l) (nl : l.length ≤ 140737488351232) (hf : fnOk e f = true)
    (hp : ∀ x, x ∈ l → ∀ h1, HLe h h1 → Gives P e f (.agg ⟨encVal x⟩ :: cap) h1 (fun v h2 => v = .bool (p x) ∧ HLe h1 h2)) :
    Gives P e 105 [sv, .func (.func f) ⟨[]⟩ ⟨cap⟩] h (fun v h' => v = .bool (l.any p) ∧ HLe h h') := by
  refine V.body FuncT.h rfl ?_
  intro c y xs hk
  repeat' (first
    | refine V.ctl rfl ?_
    | (refine V.on rfl ?_; first | refine V.easy rfl rfl ?_ | refine V.val (x_lenS rfl StringT.h (E.l rfl)) rfl ?_ | refine V.val (x_lenL rfl SliceT.u (E.l rfl)) rfl ?_ | refine V.val (x_fld rfl FieldT.h (E.l rfl)) rfl ?_ | refine V.val (x_idxAT rfl (E.l rfl) (E.l rfl) (by omega)) rfl ?_ | refine V.val (x_load rfl (E.l rfl) ScalarT.a (by first | assumption | exact (Own.cell (by assumption) _).trans rfl)) rfl ?_ | refine V.val (x_loadA rfl (E.l rfl) AggT.a AggT.z (by first | assumption | exact Own.loadAll (by assumption) rfl)) rfl ?_ | refine V.val (x_idxS rfl StringT.h (E.l rfl) (E.l rfl) (by assumption)) rfl ?_ | refine V.val (x_add rfl (E.l rfl) (E.l rfl) (by omega) (by omega)) rfl ?_ | refine V.val (x_sub rfl (E.l rfl) (E.l rfl) (by omega) (by omega)) rfl ?_ | (refine V.call (x_call rfl FuncT.ok (E.s rfl)) rfl (val_ix l _ _ _ p _ sl nl hf hp) ?_; rintro v h2 ⟨rfl, hl2⟩) | skip)
    | (refine VP.on rfl rfl ?_; first | refine VP.easy rfl rfl rfl rfl rfl ?_ | refine VP.v (x_lenS rfl StringT.h (E.l rfl)) rfl rfl rfl rfl ?_ | refine VP.v (x_lenL rfl SliceT.u (E.l rfl)) rfl rfl rfl rfl ?_ | refine VP.v (x_fld rfl FieldT.h (E.l rfl)) rfl rfl rfl rfl ?_ | refine VP.v (x_idxAT rfl (E.l rfl) (E.l rfl) (by omega)) rfl rfl rfl rfl ?_ | refine VP.v (x_load rfl (E.l rfl) ScalarT.a (by first | assumption | exact (Own.cell (by assumption) _).trans rfl)) rfl rfl rfl rfl ?_ | refine VP.v (x_loadA rfl (E.l rfl) AggT.a AggT.z (by first | assumption | exact Own.loadAll (by assumption) rfl)) rfl rfl rfl rfl ?_ | refine VP.v (x_idxS rfl StringT.h (E.l rfl) (E.l rfl) (by assumption)) rfl rfl rfl rfl ?_ | refine VP.v (x_add rfl (E.l rfl) (E.l rfl) (by omega) (by omega)) rfl rfl rfl rfl ?_ | refine VP.v (x_sub rfl (E.l rfl) (E.l rfl) (by omega) (by omega)) rfl rfl rfl rfl ?_ | (refine V.call (x_call rfl FuncT.ok (E.s rfl)) rfl (val_ix l _ _ _ p _ sl nl hf hp) ?_; rintro v h2 ⟨rfl, hl2⟩) | skip)
    | refine WP.nil ?_
    | refine V.not rfl rfl ?_
    | refine VP.not rfl rfl rfl ?_
    | ((first | refine V.split rfl rfl rfl rfl ?_ ?_ | refine VP.split hpk rfl rfl rfl rfl rfl ?_ ?_ | refine V.cond rfl ?_ ?_) <;> intro hB <;> (try simp only [ltB_eq, leB_eq, eqB_eq, seB_eq, decide_eq_true_eq, decide_eq_false_iff_not, Bool.not_eq_true', Bool.not_eq_false', Bool.not_eq_true, Bool.not_eq_false] at hB) <;> (try (exfalso; first | omega | exact hB trivial))))
  refine V.ret hk FuncT.h rfl ⟨retB ?_, hl2⟩
  rw [leB_eq, ixF_any]
theorem priv_ix (l : List Priv) (sv : Value) (f : Nat) (cap : List Value) (p : Priv → Bool) (h : SX.H) (sl : Sl h encPriv 3 sv l) (nl : l.length ≤ 140737488351232) (hf : fnOk e f = true)
    (hp : ∀ x, x ∈ l → ∀ h1, HLe h h1 → Gives P e f (.agg ⟨encPriv x⟩ :: cap) h1 (fun v h2 => v = .bool (p x) ∧ HLe h1 h2)) :
    Gives P e 97 [sv, .func (.func f) ⟨[]⟩ ⟨cap⟩] h (fun v h' => v = .int .i64 (ixF p l 0) ∧ HLe h h') := by
  obtain ⟨sa, sc, rfl, hsv⟩ := sl.view
  refine V.body FuncT.h rfl ?_
  intro c y xs hk
  repeat' (first
    | refine V.ctl rfl ?_
    | (refine V.on rfl ?_; first | refine V.easy rfl rfl ?_ | refine V.val (x_lenS rfl StringT.h (E.l rfl)) rfl ?_ | refine V.val (x_lenL rfl SliceT.u (E.l rfl)) rfl ?_ | refine V.val (x_fld rfl FieldT.h (E.l rfl)) rfl ?_ | refine V.val (x_idxAT rfl (E.l rfl) (E.l rfl) (by omega)) rfl ?_ | refine V.val (x_load rfl (E.l rfl) ScalarT.a (by first | assumption | exact (Own.cell (by assumption) _).trans rfl)) rfl ?_ | refine V.val (x_loadA rfl (E.l rfl) AggT.a AggT.z (by first | assumption | exact Own.loadAll (by assumption) rfl)) rfl ?_ | refine V.val (x_idxS rfl StringT.h (E.l rfl) (E.l rfl) (by assumption)) rfl ?_ | refine V.val (x_add rfl (E.l rfl) (E.l rfl) (by omega) (by omega)) rfl ?_ | refine V.val (x_sub rfl (E.l rfl) (E.l rfl) (by omega) (by omega)) rfl ?_ | skip)
    | (refine VP.on rfl rfl ?_; first | refine VP.easy rfl rfl rfl rfl rfl ?_ | refine VP.v (x_lenS rfl StringT.h (E.l rfl)) rfl rfl rfl rfl ?_ | refine VP.v (x_lenL rfl SliceT.u (E.l rfl)) rfl rfl rfl rfl ?_ | refine VP.v (x_fld rfl FieldT.h (E.l rfl)) rfl rfl rfl rfl ?_ | refine VP.v (x_idxAT rfl (E.l rfl) (E.l rfl) (by omega)) rfl rfl rfl rfl ?_ | refine VP.v (x_load rfl (E.l rfl) ScalarT.a (by first | assumption | exact (Own.cell (by assumption) _).trans rfl)) rfl rfl rfl rfl ?_ | refine VP.v (x_loadA rfl (E.l rfl) AggT.a AggT.z (by first | assumption | exact Own.loadAll (by assumption) rfl)) rfl rfl rfl rfl ?_ | refine VP.v (x_idxS rfl StringT.h (E.l rfl) (E.l rfl) (by assumption)) rfl rfl rfl rfl ?_ | refine VP.v (x_add rfl (E.l rfl) (E.l rfl) (by omega) (by omega)) rfl rfl rfl rfl ?_ | refine VP.v (x_sub rfl (E.l rfl) (E.l rfl) (by omega) (by omega)) rfl rfl rfl rfl ?_ | skip)
    | refine WP.nil ?_
    | refine V.not rfl rfl ?_
    | refine VP.not rfl rfl rfl ?_
    | ((first | refine V.split rfl rfl rfl rfl ?_ ?_ | refine VP.split hpk rfl rfl rfl rfl rfl ?_ ?_ | refine V.cond rfl ?_ ?_) <;> intro hB <;> (try simp only [ltB_eq, leB_eq, eqB_eq, seB_eq, decide_eq_true_eq, decide_eq_false_iff_not, Bool.not_eq_true', Bool.not_eq_false', Bool.not_eq_true, Bool.not_eq_false] at hB) <;> (try (exfalso; first | omega | exact hB trivial))))
  refine V.rounds (α := Nat) (fun i => l.length - i) (fun i => [(0, .slice sa l.length sc), (1, .func (.func f) ⟨[]⟩ ⟨cap⟩), (7, .int .i64 (l.length : Nat)), (8, .int .i64 (i : Nat))]) (fun i h' => i ≤ l.length ∧ (∀ w, w ∈ l.take i → p w = false) ∧ HLe h h') 0 ⟨rfl, rfl, rfl, rfl, trivial⟩ ⟨by omega, by simp, HLe.refl _⟩ ?_
  rintro i h1 ⟨hi, hal, hl1⟩ ih
  by_cases hlt : i < l.length
  · obtain ⟨x, hx⟩ : ∃ x, l[i]? = some x := ⟨l[i], List.getElem?_eq_getElem hlt⟩
    obtain ⟨r, off, rfl, hld0, hr⟩ := hsv i x hx
    have hld := hl1.loadAt hld0
    have hld2 := hld
    repeat' (first
    | refine V.ctl rfl ?_
    | (refine V.on rfl ?_; first | refine V.easy rfl rfl ?_ | refine V.val (x_lenS rfl StringT.h (E.l rfl)) rfl ?_ | refine V.val (x_lenL rfl SliceT.u (E.l rfl)) rfl ?_ | refine V.val (x_fld rfl FieldT.h (E.l rfl)) rfl ?_ | refine V.val (x_idxAT rfl (E.l rfl) (E.l rfl) (by omega)) rfl ?_ | refine V.val (x_load rfl (E.l rfl) ScalarT.a (by first | assumption | exact (Own.cell (by assumption) _).trans rfl)) rfl ?_ | refine V.val (x_loadA rfl (E.l rfl) AggT.a AggT.z (by first | assumption | exact Own.loadAll (by assumption) rfl)) rfl ?_ | refine V.val (x_idxS rfl StringT.h (E.l rfl) (E.l rfl) (by assumption)) rfl ?_ | refine V.val (x_add rfl (E.l rfl) (E.l rfl) (by omega) (by omega)) rfl ?_ | refine V.val (x_sub rfl (E.l rfl) (E.l rfl) (by omega) (by omega)) rfl ?_ | (refine V.call (x_callV rfl (E.l rfl) hf (E.s rfl)) rfl (hp x (List.mem_of_getElem? hx) _ hl1) ?_; rintro v h2 ⟨rfl, hl2⟩) | skip)
    | (refine VP.on rfl rfl ?_; first | refine VP.easy rfl rfl rfl rfl rfl ?_ | refine VP.v (x_lenS rfl StringT.h (E.l rfl)) rfl rfl rfl rfl ?_ | refine VP.v (x_lenL rfl SliceT.u (E.l rfl)) rfl rfl rfl rfl ?_ | refine VP.v (x_fld rfl FieldT.h (E.l rfl)) rfl rfl rfl rfl ?_ | refine VP.v (x_idxAT rfl (E.l rfl) (E.l rfl) (by omega)) rfl rfl rfl rfl ?_ | refine VP.v (x_load rfl (E.l rfl) ScalarT.a (by first | assumption | exact (Own.cell (by assumption) _).trans rfl)) rfl rfl rfl rfl ?_ | refine VP.v (x_loadA rfl (E.l rfl) AggT.a AggT.z (by first | assumption | exact Own.loadAll (by assumption) rfl)) rfl rfl rfl rfl ?_ | refine VP.v (x_idxS rfl StringT.h (E.l rfl) (E.l rfl) (by assumption)) rfl rfl rfl rfl ?_ | refine VP.v (x_add rfl (E.l rfl) (E.l rfl) (by omega) (by omega)) rfl rfl rfl rfl ?_ | refine VP.v (x_sub rfl (E.l rfl) (E.l rfl) (by omega) (by omega)) rfl rfl rfl rfl ?_ | (refine V.call (x_callV rfl (E.l rfl) hf (E.s rfl)) rfl (hp x (List.mem_of_getElem? hx) _ hl1) ?_; rintro v h2 ⟨rfl, hl2⟩) | skip)
    | refine WP.nil ?_
    | refine V.not rfl rfl ?_
    | refine VP.not rfl rfl rfl ?_
    | ((first | refine V.split rfl rfl rfl rfl ?_ ?_ | refine VP.split hpk rfl rfl rfl rfl rfl ?_ ?_ | refine V.cond rfl ?_ ?_) <;> intro hB <;> (try simp only [ltB_eq, leB_eq, eqB_eq, seB_eq, decide_eq_true_eq, decide_eq_false_iff_not, Bool.not_eq_true', Bool.not_eq_false', Bool.not_eq_true, Bool.not_eq_false] at hB) <;> (try (exfalso; first | omega | exact hB trivial))))
    · refine V.ret hk FuncT.h rfl ⟨?_, hl1.trans hl2⟩
      rw [ixF_at hal hx hB]; simp [tup]
    · refine ih (i + 1) _ _ ?_ ?_ ?_
      · omega
      · refine ⟨hlt, ?_, hl1.trans hl2⟩
        intro w hw
        rw [List.take_succ_eq_append_getElem hlt] at hw
        rcases List.mem_append.1 hw with q | q
        · exact hal w q
        · simp only [List.mem_singleton] at q; subst q
          rw [(List.getElem?_eq_some_iff.1 hx).2]; exact hB
      · exact ⟨rfl, rfl, rfl, rfl, trivial⟩
  · repeat' (first
    | refine V.ctl rfl ?_
    | (refine V.on rfl ?_; first | refine V.easy rfl rfl ?_ | refine V.val (x_lenS rfl StringT.h (E.l rfl)) rfl ?_ | refine V.val (x_lenL rfl SliceT.u (E.l rfl)) rfl ?_ | refine V.val (x_fld rfl FieldT.h (E.l rfl)) rfl ?_ | refine V.val (x_idxAT rfl (E.l rfl) (E.l rfl) (by omega)) rfl ?_ | refine V.val (x_load rfl (E.l rfl) ScalarT.a (by first | assumption | exact (Own.cell (by assumption) _).trans rfl)) rfl ?_ | refine V.val (x_loadA rfl (E.l rfl) AggT.a AggT.z (by first | assumption | exact Own.loadAll (by assumption) rfl)) rfl ?_ | refine V.val (x_idxS rfl StringT.h (E.l rfl) (E.l rfl) (by assumption)) rfl ?_ | refine V.val (x_add rfl (E.l rfl) (E.l rfl) (by omega) (by omega)) rfl ?_ | refine V.val (x_sub rfl (E.l rfl) (E.l rfl) (by omega) (by omega)) rfl ?_ | skip)
    | (refine VP.on rfl rfl ?_; first | refine VP.easy rfl rfl rfl rfl rfl ?_ | refine VP.v (x_lenS rfl StringT.h (E.l rfl)) rfl rfl rfl rfl ?_ | refine VP.v (x_lenL rfl SliceT.u (E.l rfl)) rfl rfl rfl rfl ?_ | refine VP.v (x_fld rfl FieldT.h (E.l rfl)) rfl rfl rfl rfl ?_ | refine VP.v (x_idxAT rfl (E.l rfl) (E.l rfl) (by omega)) rfl rfl rfl rfl ?_ | refine VP.v (x_load rfl (E.l rfl) ScalarT.a (by first | assumption | exact (Own.cell (by assumption) _).trans rfl)) rfl rfl rfl rfl ?_ | refine VP.v (x_loadA rfl (E.l rfl) AggT.a AggT.z (by first | assumption | exact Own.loadAll (by assumption) rfl)) rfl rfl rfl rfl ?_ | refine VP.v (x_idxS rfl StringT.h (E.l rfl) (E.l rfl) (by assumption)) rfl rfl rfl rfl ?_ | refine VP.v (x_add rfl (E.l rfl) (E.l rfl) (by omega) (by omega)) rfl rfl rfl rfl ?_ | refine VP.v (x_sub rfl (E.l rfl) (E.l rfl) (by omega) (by omega)) rfl rfl rfl rfl ?_ | skip)
    | refine WP.nil ?_
    | refine V.not rfl rfl ?_
    | refine VP.not rfl rfl rfl ?_
    | ((first | refine V.split rfl rfl rfl rfl ?_ ?_ | refine VP.split hpk rfl rfl rfl rfl rfl ?_ ?_ | refine V.cond rfl ?_ ?_) <;> intro hB <;> (try simp only [ltB_eq, leB_eq, eqB_eq, seB_eq, decide_eq_true_eq, decide_eq_false_iff_not, Bool.not_eq_true', Bool.not_eq_false', Bool.not_eq_true, Bool.not_eq_false] at hB) <;> (try (exfalso; first | omega | exact hB trivial))))
    refine V.ret hk FuncT.h rfl ⟨?_, hl1⟩
    rw [ixF_none fun w hw => hal w (by rw [List.take_of_length_le (by omega)]; exact hw)]; rfl
theorem priv_any (l : List Priv) (sv : Value) (f : Nat) (cap : List Value) (p : Priv → Bool) (h : SX.H) (sl : Sl h encPriv 3 sv l) (nl : l.length ≤ 140737488351232) (hf : fnOk e f = true)
    (hp : ∀ x, x ∈ l → ∀ h1, HLe h h1 → Gives P e f (.agg ⟨encPriv x⟩ :: cap) h1 (fun v h2 => v = .bool (p x) ∧ HLe h1 h2)) :
    Gives P e 95 [sv, .func (.func f) ⟨[]⟩ ⟨cap⟩] h (fun v h' => v = .bool (l.any p) ∧ HLe h h') := by
  refine V.body FuncT.h rfl ?_
  intro c y xs hk
  repeat' (first
    | refine V.ctl rfl ?_
    | (refine V.on rfl ?_; first | refine V.easy rfl rfl ?_ | refine V.val (x_lenS rfl StringT.h (E.l rfl)) rfl ?_ | refine V.val (x_lenL rfl SliceT.u (E.l rfl)) rfl ?_ | refine V.val (x_fld rfl FieldT.h (E.l rfl)) rfl ?_ | refine V.val (x_idxAT rfl (E.l rfl) (E.l rfl) (by omega)) rfl ?_ | refine V.val (x_load rfl (E.l rfl) ScalarT.a (by first | assumption | exact (Own.cell (by assumption) _).trans rfl)) rfl ?_ | refine V.val (x_loadA rfl (E.l rfl) AggT.a AggT.z (by first | assumption | exact Own.loadAll (by assumption) rfl)) rfl ?_ | refine V.val (x_idxS rfl StringT.h (E.l rfl) (E.l rfl) (by assumption)) rfl ?_ | refine V.val (x_add rfl (E.l rfl) (E.l rfl) (by omega) (by omega)) rfl ?_ | refine V.val (x_sub rfl (E.l rfl) (E.l rfl) (by omega) (by omega)) rfl ?_ | (refine V.call (x_call rfl FuncT.ok (E.s rfl)) rfl (priv_ix l _ _ _ p _ sl nl hf hp) ?_; rintro v h2 ⟨rfl, hl2⟩) | skip)
    | (refine VP.on rfl rfl ?_; first | refine VP.easy rfl rfl rfl rfl rfl ?_ | refine VP.v (x_lenS rfl StringT.h (E.l rfl)) rfl rfl rfl rfl ?_ | refine VP.v (x_lenL rfl SliceT.u (E.l rfl)) rfl rfl rfl rfl ?_ | refine VP.v (x_fld rfl FieldT.h (E.l rfl)) rfl rfl rfl rfl ?_ | refine VP.v (x_idxAT rfl (E.l rfl) (E.l rfl) (by omega)) rfl rfl rfl rfl ?_ | refine VP.v (x_load rfl (E.l rfl) ScalarT.a (by first | assumption | exact (Own.cell (by assumption) _).trans rfl)) rfl rfl rfl rfl ?_ | refine VP.v (x_loadA rfl (E.l rfl) AggT.a AggT.z (by first | assumption | exact Own.loadAll (by assumption) rfl)) rfl rfl rfl rfl ?_ | refine VP.v (x_idxS rfl StringT.h (E.l rfl) (E.l rfl) (by assumption)) rfl rfl rfl rfl ?_ | refine VP.v (x_add rfl (E.l rfl) (E.l rfl) (by omega) (by omega)) rfl rfl rfl rfl ?_ | refine VP.v (x_sub rfl (E.l rfl) (E.l rfl) (by omega) (by omega)) rfl rfl rfl rfl ?_ | (refine V.call (x_call rfl FuncT.ok (E.s rfl)) rfl (priv_ix l _ _ _ p _ sl nl hf hp) ?_; rintro v h2 ⟨rfl, hl2⟩) | skip)
    | refine WP.nil ?_
    | refine V.not rfl rfl ?_
    | refine VP.not rfl rfl rfl ?_
    | ((first | refine V.split rfl rfl rfl rfl ?_ ?_ | refine VP.split hpk rfl rfl rfl rfl rfl ?_ ?_ | refine V.cond rfl ?_ ?_) <;> intro hB <;> (try simp only [ltB_eq, leB_eq, eqB_eq, seB_eq, decide_eq_true_eq, decide_eq_false_iff_not, Bool.not_eq_true', Bool.not_eq_false', Bool.not_eq_true, Bool.not_eq_false] at hB) <;> (try (exfalso; first | omega | exact hB trivial))))
  refine V.ret hk FuncT.h rfl ⟨retB ?_, hl2⟩
  rw [leB_eq, ixF_any]
theorem str_ix (l : List ByteArray) (sv : Value) (f : Nat) (cap : List Value) (p : ByteArray → Bool) (h : SX.H) (sl : Sl h encS 1 sv l) (nl : l.length ≤ 140737488351232) (hf : fnOk e f = true)
    (hp : ∀ x, x ∈ l → ∀ h1, HLe h h1 → Gives P e f (.string x :: cap) h1 (fun v h2 => v = .bool (p x) ∧ HLe h1 h2)) :
    Gives P e 109 [sv, .func (.func f) ⟨[]⟩ ⟨cap⟩] h (fun v h' => v = .int .i64 (ixF p l 0) ∧ HLe h h') := by
  obtain ⟨sa, sc, rfl, hsv⟩ := sl.view
  refine V.body FuncT.h rfl ?_
  intro c y xs hk
  repeat' (first
    | refine V.ctl rfl ?_
    | (refine V.on rfl ?_; first | refine V.easy rfl rfl ?_ | refine V.val (x_lenS rfl StringT.h (E.l rfl)) rfl ?_ | refine V.val (x_lenL rfl SliceT.u (E.l rfl)) rfl ?_ | refine V.val (x_fld rfl FieldT.h (E.l rfl)) rfl ?_ | refine V.val (x_idxAT rfl (E.l rfl) (E.l rfl) (by omega)) rfl ?_ | refine V.val (x_load rfl (E.l rfl) ScalarT.a (by first | assumption | exact (Own.cell (by assumption) _).trans rfl)) rfl ?_ | refine V.val (x_loadA rfl (E.l rfl) AggT.a AggT.z (by first | assumption | exact Own.loadAll (by assumption) rfl)) rfl ?_ | refine V.val (x_idxS rfl StringT.h (E.l rfl) (E.l rfl) (by assumption)) rfl ?_ | refine V.val (x_add rfl (E.l rfl) (E.l rfl) (by omega) (by omega)) rfl ?_ | refine V.val (x_sub rfl (E.l rfl) (E.l rfl) (by omega) (by omega)) rfl ?_ | skip)
    | (refine VP.on rfl rfl ?_; first | refine VP.easy rfl rfl rfl rfl rfl ?_ | refine VP.v (x_lenS rfl StringT.h (E.l rfl)) rfl rfl rfl rfl ?_ | refine VP.v (x_lenL rfl SliceT.u (E.l rfl)) rfl rfl rfl rfl ?_ | refine VP.v (x_fld rfl FieldT.h (E.l rfl)) rfl rfl rfl rfl ?_ | refine VP.v (x_idxAT rfl (E.l rfl) (E.l rfl) (by omega)) rfl rfl rfl rfl ?_ | refine VP.v (x_load rfl (E.l rfl) ScalarT.a (by first | assumption | exact (Own.cell (by assumption) _).trans rfl)) rfl rfl rfl rfl ?_ | refine VP.v (x_loadA rfl (E.l rfl) AggT.a AggT.z (by first | assumption | exact Own.loadAll (by assumption) rfl)) rfl rfl rfl rfl ?_ | refine VP.v (x_idxS rfl StringT.h (E.l rfl) (E.l rfl) (by assumption)) rfl rfl rfl rfl ?_ | refine VP.v (x_add rfl (E.l rfl) (E.l rfl) (by omega) (by omega)) rfl rfl rfl rfl ?_ | refine VP.v (x_sub rfl (E.l rfl) (E.l rfl) (by omega) (by omega)) rfl rfl rfl rfl ?_ | skip)
    | refine WP.nil ?_
    | refine V.not rfl rfl ?_
    | refine VP.not rfl rfl rfl ?_
    | ((first | refine V.split rfl rfl rfl rfl ?_ ?_ | refine VP.split hpk rfl rfl rfl rfl rfl ?_ ?_ | refine V.cond rfl ?_ ?_) <;> intro hB <;> (try simp only [ltB_eq, leB_eq, eqB_eq, seB_eq, decide_eq_true_eq, decide_eq_false_iff_not, Bool.not_eq_true', Bool.not_eq_false', Bool.not_eq_true, Bool.not_eq_false] at hB) <;> (try (exfalso; first | omega | exact hB trivial))))
  refine V.rounds (α := Nat) (fun i => l.length - i) (fun i => [(0, .slice sa l.length sc), (1, .func (.func f) ⟨[]⟩ ⟨cap⟩), (7, .int .i64 (l.length : Nat)), (8, .int .i64 (i : Nat))]) (fun i h' => i ≤ l.length ∧ (∀ w, w ∈ l.take i → p w = false) ∧ HLe h h') 0 ⟨rfl, rfl, rfl, rfl, trivial⟩ ⟨by omega, by simp, HLe.refl _⟩ ?_
  rintro i h1 ⟨hi, hal, hl1⟩ ih
  by_cases hlt : i < l.length
  · obtain ⟨x, hx⟩ : ∃ x, l[i]? = some x := ⟨l[i], List.getElem?_eq_getElem hlt⟩
    obtain ⟨r, off, rfl, hld0, hr⟩ := hsv i x hx
    have hld := hl1.loadAt hld0
    have c0 := loadAt_cell hld (j := 0) rfl
    repeat' (first
    | refine V.ctl rfl ?_
    | (refine V.on rfl ?_; first | refine V.easy rfl rfl ?_ | refine V.val (x_lenS rfl StringT.h (E.l rfl)) rfl ?_ | refine V.val (x_lenL rfl SliceT.u (E.l rfl)) rfl ?_ | refine V.val (x_fld rfl FieldT.h (E.l rfl)) rfl ?_ | refine V.val (x_idxAT rfl (E.l rfl) (E.l rfl) (by omega)) rfl ?_ | refine V.val (x_load rfl (E.l rfl) ScalarT.a (by first | assumption | exact (Own.cell (by assumption) _).trans rfl)) rfl ?_ | refine V.val (x_loadA rfl (E.l rfl) AggT.a AggT.z (by first | assumption | exact Own.loadAll (by assumption) rfl)) rfl ?_ | refine V.val (x_idxS rfl StringT.h (E.l rfl) (E.l rfl) (by assumption)) rfl ?_ | refine V.val (x_add rfl (E.l rfl) (E.l rfl) (by omega) (by omega)) rfl ?_ | refine V.val (x_sub rfl (E.l rfl) (E.l rfl) (by omega) (by omega)) rfl ?_ | (refine V.call (x_callV rfl (E.l rfl) hf (E.s rfl)) rfl (hp x (List.mem_of_getElem? hx) _ hl1) ?_; rintro v h2 ⟨rfl, hl2⟩) | skip)
    | (refine VP.on rfl rfl ?_; first | refine VP.easy rfl rfl rfl rfl rfl ?_ | refine VP.v (x_lenS rfl StringT.h (E.l rfl)) rfl rfl rfl rfl ?_ | refine VP.v (x_lenL rfl SliceT.u (E.l rfl)) rfl rfl rfl rfl ?_ | refine VP.v (x_fld rfl FieldT.h (E.l rfl)) rfl rfl rfl rfl ?_ | refine VP.v (x_idxAT rfl (E.l rfl) (E.l rfl) (by omega)) rfl rfl rfl rfl ?_ | refine VP.v (x_load rfl (E.l rfl) ScalarT.a (by first | assumption | exact (Own.cell (by assumption) _).trans rfl)) rfl rfl rfl rfl ?_ | refine VP.v (x_loadA rfl (E.l rfl) AggT.a AggT.z (by first | assumption | exact Own.loadAll (by assumption) rfl)) rfl rfl rfl rfl ?_ | refine VP.v (x_idxS rfl StringT.h (E.l rfl) (E.l rfl) (by assumption)) rfl rfl rfl rfl ?_ | refine VP.v (x_add rfl (E.l rfl) (E.l rfl) (by omega) (by omega)) rfl rfl rfl rfl ?_ | refine VP.v (x_sub rfl (E.l rfl) (E.l rfl) (by omega) (by omega)) rfl rfl rfl rfl ?_ | (refine V.call (x_callV rfl (E.l rfl) hf (E.s rfl)) rfl (hp x (List.mem_of_getElem? hx) _ hl1) ?_; rintro v h2 ⟨rfl, hl2⟩) | skip)
    | refine WP.nil ?_
    | refine V.not rfl rfl ?_
    | refine VP.not rfl rfl rfl ?_
    | ((first | refine V.split rfl rfl rfl rfl ?_ ?_ | refine VP.split hpk rfl rfl rfl rfl rfl ?_ ?_ | refine V.cond rfl ?_ ?_) <;> intro hB <;> (try simp only [ltB_eq, leB_eq, eqB_eq, seB_eq, decide_eq_true_eq, decide_eq_false_iff_not, Bool.not_eq_true', Bool.not_eq_false', Bool.not_eq_true, Bool.not_eq_false] at hB) <;> (try (exfalso; first | omega | exact hB trivial))))
    · refine V.ret hk FuncT.h rfl ⟨?_, hl1.trans hl2⟩
      rw [ixF_at hal hx hB]; simp [tup]
    · refine ih (i + 1) _ _ ?_ ?_ ?_
      · omega
      · refine ⟨hlt, ?_, hl1.trans hl2⟩
        intro w hw
        rw [List.take_succ_eq_append_getElem hlt] at hw
        rcases List.mem_append.1 hw with q | q
        · exact hal w q
        · simp only [List.mem_singleton] at q; subst q
          rw [(List.getElem?_eq_some_iff.1 hx).2]; exact hB
      · exact ⟨rfl, rfl, rfl, rfl, trivial⟩
  · repeat' (first
    | refine V.ctl rfl ?_
    | (refine V.on rfl ?_; first | refine V.easy rfl rfl ?_ | refine V.val (x_lenS rfl StringT.h (E.l rfl)) rfl ?_ | refine V.val (x_lenL rfl SliceT.u (E.l rfl)) rfl ?_ | refine V.val (x_fld rfl FieldT.h (E.l rfl)) rfl ?_ | refine V.val (x_idxAT rfl (E.l rfl) (E.l rfl) (by omega)) rfl ?_ | refine V.val (x_load rfl (E.l rfl) ScalarT.a (by first | assumption | exact (Own.cell (by assumption) _).trans rfl)) rfl ?_ | refine V.val (x_loadA rfl (E.l rfl) AggT.a AggT.z (by first | assumption | exact Own.loadAll (by assumption) rfl)) rfl ?_ | refine V.val (x_idxS rfl StringT.h (E.l rfl) (E.l rfl) (by assumption)) rfl ?_ | refine V.val (x_add rfl (E.l rfl) (E.l rfl) (by omega) (by omega)) rfl ?_ | refine V.val (x_sub rfl (E.l rfl) (E.l rfl) (by omega) (by omega)) rfl ?_ | skip)
    | (refine VP.on rfl rfl ?_; first | refine VP.easy rfl rfl rfl rfl rfl ?_ | refine VP.v (x_lenS rfl StringT.h (E.l rfl)) rfl rfl rfl rfl ?_ | refine VP.v (x_lenL rfl SliceT.u (E.l rfl)) rfl rfl rfl rfl ?_ | refine VP.v (x_fld rfl FieldT.h (E.l rfl)) rfl rfl rfl rfl ?_ | refine VP.v (x_idxAT rfl (E.l rfl) (E.l rfl) (by omega)) rfl rfl rfl rfl ?_ | refine VP.v (x_load rfl (E.l rfl) ScalarT.a (by first | assumption | exact (Own.cell (by assumption) _).trans rfl)) rfl rfl rfl rfl ?_ | refine VP.v (x_loadA rfl (E.l rfl) AggT.a AggT.z (by first | assumption | exact Own.loadAll (by assumption) rfl)) rfl rfl rfl rfl ?_ | refine VP.v (x_idxS rfl StringT.h (E.l rfl) (E.l rfl) (by assumption)) rfl rfl rfl rfl ?_ | refine VP.v (x_add rfl (E.l rfl) (E.l rfl) (by omega) (by omega)) rfl rfl rfl rfl ?_ | refine VP.v (x_sub rfl (E.l rfl) (E.l rfl) (by omega) (by omega)) rfl rfl rfl rfl ?_ | skip)
    | refine WP.nil ?_
    | refine V.not rfl rfl ?_
    | refine VP.not rfl rfl rfl ?_
    | ((first | refine V.split rfl rfl rfl rfl ?_ ?_ | refine VP.split hpk rfl rfl rfl rfl rfl ?_ ?_ | refine V.cond rfl ?_ ?_) <;> intro hB <;> (try simp only [ltB_eq, leB_eq, eqB_eq, seB_eq, decide_eq_true_eq, decide_eq_false_iff_not, Bool.not_eq_true', Bool.not_eq_false', Bool.not_eq_true, Bool.not_eq_false] at hB) <;> (try (exfalso; first | omega | exact hB trivial))))
    refine V.ret hk FuncT.h rfl ⟨?_, hl1⟩
    rw [ixF_none fun w hw => hal w (by rw [List.take_of_length_le (by omega)]; exact hw)]; rfl
theorem str_any (l : List ByteArray) (sv : Value) (f : Nat) (cap : List Value) (p : ByteArray → Bool) (h : SX.H) (sl : Sl h encS 1 sv l) (nl : l.length ≤ 140737488351232) (hf : fnOk e f = true)
    (hp : ∀ x, x ∈ l → ∀ h1, HLe h h1 → Gives P e f (.string x :: cap) h1 (fun v h2 => v = .bool (p x) ∧ HLe h1 h2)) :
    Gives P e 62 [sv, .func (.func f) ⟨[]⟩ ⟨cap⟩] h (fun v h' => v = .bool (l.any p) ∧ HLe h h') := by
  refine V.body FuncT.h rfl ?_
  intro c y xs hk
  repeat' (first
    | refine V.ctl rfl ?_
    | (refine V.on rfl ?_; first | refine V.easy rfl rfl ?_ | refine V.val (x_lenS rfl StringT.h (E.l rfl)) rfl ?_ | refine V.val (x_lenL rfl SliceT.u (E.l rfl)) rfl ?_ | refine V.val (x_fld rfl FieldT.h (E.l rfl)) rfl ?_ | refine V.val (x_idxAT rfl (E.l rfl) (E.l rfl) (by omega)) rfl ?_ | refine V.val (x_load rfl (E.l rfl) ScalarT.a (by first | assumption | exact (Own.cell (by assumption) _).trans rfl)) rfl ?_ | refine V.val (x_loadA rfl (E.l rfl) AggT.a AggT.z (by first | assumption | exact Own.loadAll (by assumption) rfl)) rfl ?_ | refine V.val (x_idxS rfl StringT.h (E.l rfl) (E.l rfl) (by assumption)) rfl ?_ | refine V.val (x_add rfl (E.l rfl) (E.l rfl) (by omega) (by omega)) rfl ?_ | refine V.val (x_sub rfl (E.l rfl) (E.l rfl) (by omega) (by omega)) rfl ?_ | (refine V.call (x_call rfl FuncT.ok (E.s rfl)) rfl (str_ix l _ _ _ p _ sl nl hf hp) ?_; rintro v h2 ⟨rfl, hl2⟩) | skip)
    | (refine VP.on rfl rfl ?_; first | refine VP.easy rfl rfl rfl rfl rfl ?_ | refine VP.v (x_lenS rfl StringT.h (E.l rfl)) rfl rfl rfl rfl ?_ | refine VP.v (x_lenL rfl SliceT.u (E.l rfl)) rfl rfl rfl rfl ?_ | refine VP.v (x_fld rfl FieldT.h (E.l rfl)) rfl rfl rfl rfl ?_ | refine VP.v (x_idxAT rfl (E.l rfl) (E.l rfl) (by omega)) rfl rfl rfl rfl ?_ | refine VP.v (x_load rfl (E.l rfl) ScalarT.a (by first | assumption | exact (Own.cell (by assumption) _).trans rfl)) rfl rfl rfl rfl ?_ | refine VP.v (x_loadA rfl (E.l rfl) AggT.a AggT.z (by first | assumption | exact Own.loadAll (by assumption) rfl)) rfl rfl rfl rfl ?_ | refine VP.v (x_idxS rfl StringT.h (E.l rfl) (E.l rfl) (by assumption)) rfl rfl rfl rfl ?_ | refine VP.v (x_add rfl (E.l rfl) (E.l rfl) (by omega) (by omega)) rfl rfl rfl rfl ?_ | refine VP.v (x_sub rfl (E.l rfl) (E.l rfl) (by omega) (by omega)) rfl rfl rfl rfl ?_ | (refine V.call (x_call rfl FuncT.ok (E.s rfl)) rfl (str_ix l _ _ _ p _ sl nl hf hp) ?_; rintro v h2 ⟨rfl, hl2⟩) | skip)
    | refine WP.nil ?_
    | refine V.not rfl rfl ?_
    | refine VP.not rfl rfl rfl ?_
    | ((first | refine V.split rfl rfl rfl rfl ?_ ?_ | refine VP.split hpk rfl rfl rfl rfl rfl ?_ ?_ | refine V.cond rfl ?_ ?_) <;> intro hB <;> (try simp only [ltB_eq, leB_eq, eqB_eq, seB_eq, decide_eq_true_eq, decide_eq_false_iff_not, Bool.not_eq_true', Bool.not_eq_false', Bool.not_eq_true, Bool.not_eq_false] at hB) <;> (try (exfalso; first | omega | exact hB trivial))))
  refine V.ret hk FuncT.h rfl ⟨retB ?_, hl2⟩
  rw [leB_eq, ixF_any]
end Go.Proofs.YtladhpocefnkjaaGreatDoor
namespace Go.Proofs.YtladhpocefnkjaaGreatDoor
open Go Go.SX
variable {P : Program} {e : E} [GEnv e]
def rowB (l : List Val) : Bool := decide (l.length ≤ 8) && !l.any (fun x => !valB x)
theorem row_fn (l : List Val) (sv : Value) (h : SX.H) (sl : Sl h encVal 3 sv l) (nl : l.length ≤ 140737488351232) : Gives P e 60 [sv] h (fun v h' => v = .bool (rowB l) ∧ HLe h h') := by
  obtain ⟨sa, sc, rfl, hsv⟩ := sl.view
  refine V.body FuncT.h rfl ?_
  intro c y xs hk
  repeat' (first
    | refine V.ctl rfl ?_
    | (refine V.on rfl ?_; first | refine V.easy rfl rfl ?_ | refine V.val (x_lenS rfl StringT.h (E.l rfl)) rfl ?_ | refine V.val (x_lenL rfl SliceT.u (E.l rfl)) rfl ?_ | refine V.val (x_fld rfl FieldT.h (E.l rfl)) rfl ?_ | refine V.val (x_idxAT rfl (E.l rfl) (E.l rfl) (by omega)) rfl ?_ | refine V.val (x_load rfl (E.l rfl) ScalarT.a (by first | assumption | exact (Own.cell (by assumption) _).trans rfl)) rfl ?_ | refine V.val (x_loadA rfl (E.l rfl) AggT.a AggT.z (by first | assumption | exact Own.loadAll (by assumption) rfl)) rfl ?_ | refine V.val (x_idxS rfl StringT.h (E.l rfl) (E.l rfl) (by assumption)) rfl ?_ | refine V.val (x_add rfl (E.l rfl) (E.l rfl) (by omega) (by omega)) rfl ?_ | refine V.val (x_sub rfl (E.l rfl) (E.l rfl) (by omega) (by omega)) rfl ?_ | (refine V.call (x_call rfl FuncT.ok (E.s rfl)) rfl (val_any l _ 106 [] (fun x => !valB x) _ sl nl FuncT.ok (fun x _ h1 _ => value_not x h1)) ?_; rintro v h2 ⟨rfl, hl2⟩) | skip)
    | (refine VP.on rfl rfl ?_; first | refine VP.easy rfl rfl rfl rfl rfl ?_ | refine VP.v (x_lenS rfl StringT.h (E.l rfl)) rfl rfl rfl rfl ?_ | refine VP.v (x_lenL rfl SliceT.u (E.l rfl)) rfl rfl rfl rfl ?_ | refine VP.v (x_fld rfl FieldT.h (E.l rfl)) rfl rfl rfl rfl ?_ | refine VP.v (x_idxAT rfl (E.l rfl) (E.l rfl) (by omega)) rfl rfl rfl rfl ?_ | refine VP.v (x_load rfl (E.l rfl) ScalarT.a (by first | assumption | exact (Own.cell (by assumption) _).trans rfl)) rfl rfl rfl rfl ?_ | refine VP.v (x_loadA rfl (E.l rfl) AggT.a AggT.z (by first | assumption | exact Own.loadAll (by assumption) rfl)) rfl rfl rfl rfl ?_ | refine VP.v (x_idxS rfl StringT.h (E.l rfl) (E.l rfl) (by assumption)) rfl rfl rfl rfl ?_ | refine VP.v (x_add rfl (E.l rfl) (E.l rfl) (by omega) (by omega)) rfl rfl rfl rfl ?_ | refine VP.v (x_sub rfl (E.l rfl) (E.l rfl) (by omega) (by omega)) rfl rfl rfl rfl ?_ | (refine V.call (x_call rfl FuncT.ok (E.s rfl)) rfl (val_any l _ 106 [] (fun x => !valB x) _ sl nl FuncT.ok (fun x _ h1 _ => value_not x h1)) ?_; rintro v h2 ⟨rfl, hl2⟩) | skip)
    | refine WP.nil ?_
    | refine V.not rfl rfl ?_
    | refine VP.not rfl rfl rfl ?_
    | ((first | refine V.split rfl rfl rfl rfl ?_ ?_ | refine VP.split hpk rfl rfl rfl rfl rfl ?_ ?_ | refine V.cond rfl ?_ ?_) <;> intro hB <;> (try simp only [ltB_eq, leB_eq, eqB_eq, seB_eq, decide_eq_true_eq, decide_eq_false_iff_not, Bool.not_eq_true', Bool.not_eq_false', Bool.not_eq_true, Bool.not_eq_false] at hB) <;> (try (exfalso; first | omega | exact hB trivial))))
  · refine V.ret hk FuncT.h rfl ⟨retB ?_, hl2⟩
    simp only [rowB, show l.length ≤ 8 by omega, decide_true, Bool.true_and]
  · refine V.ret hk FuncT.h rfl ⟨retB ?_, HLe.refl _⟩
    simp only [rowB, show ¬ l.length ≤ 8 by omega, decide_false, Bool.false_and]
theorem keyNot_fn (s : ByteArray) (h : SX.H) : Gives P e 63 [.string s] h (fun v h' => v = .bool (!keyB (bl s)) ∧ HLe h h') := by
  refine V.body FuncT.h rfl ?_
  intro c x xs hk
  repeat' (first
    | refine V.ctl rfl ?_
    | (refine V.on rfl ?_; first | refine V.easy rfl rfl ?_ | refine V.val (x_lenS rfl StringT.h (E.l rfl)) rfl ?_ | refine V.val (x_lenL rfl SliceT.u (E.l rfl)) rfl ?_ | refine V.val (x_fld rfl FieldT.h (E.l rfl)) rfl ?_ | refine V.val (x_idxAT rfl (E.l rfl) (E.l rfl) (by omega)) rfl ?_ | refine V.val (x_load rfl (E.l rfl) ScalarT.a (by first | assumption | exact (Own.cell (by assumption) _).trans rfl)) rfl ?_ | refine V.val (x_loadA rfl (E.l rfl) AggT.a AggT.z (by first | assumption | exact Own.loadAll (by assumption) rfl)) rfl ?_ | refine V.val (x_idxS rfl StringT.h (E.l rfl) (E.l rfl) (by assumption)) rfl ?_ | refine V.val (x_add rfl (E.l rfl) (E.l rfl) (by omega) (by omega)) rfl ?_ | refine V.val (x_sub rfl (E.l rfl) (E.l rfl) (by omega) (by omega)) rfl ?_ | (refine V.call (x_call rfl FuncT.ok (E.s rfl)) rfl (key_fn _ _) ?_; rintro v h1 ⟨rfl, hh⟩; replace hh := hh.symm; subst hh) | skip)
    | (refine VP.on rfl rfl ?_; first | refine VP.easy rfl rfl rfl rfl rfl ?_ | refine VP.v (x_lenS rfl StringT.h (E.l rfl)) rfl rfl rfl rfl ?_ | refine VP.v (x_lenL rfl SliceT.u (E.l rfl)) rfl rfl rfl rfl ?_ | refine VP.v (x_fld rfl FieldT.h (E.l rfl)) rfl rfl rfl rfl ?_ | refine VP.v (x_idxAT rfl (E.l rfl) (E.l rfl) (by omega)) rfl rfl rfl rfl ?_ | refine VP.v (x_load rfl (E.l rfl) ScalarT.a (by first | assumption | exact (Own.cell (by assumption) _).trans rfl)) rfl rfl rfl rfl ?_ | refine VP.v (x_loadA rfl (E.l rfl) AggT.a AggT.z (by first | assumption | exact Own.loadAll (by assumption) rfl)) rfl rfl rfl rfl ?_ | refine VP.v (x_idxS rfl StringT.h (E.l rfl) (E.l rfl) (by assumption)) rfl rfl rfl rfl ?_ | refine VP.v (x_add rfl (E.l rfl) (E.l rfl) (by omega) (by omega)) rfl rfl rfl rfl ?_ | refine VP.v (x_sub rfl (E.l rfl) (E.l rfl) (by omega) (by omega)) rfl rfl rfl rfl ?_ | (refine V.call (x_call rfl FuncT.ok (E.s rfl)) rfl (key_fn _ _) ?_; rintro v h1 ⟨rfl, hh⟩; replace hh := hh.symm; subst hh) | skip)
    | refine WP.nil ?_
    | refine V.not rfl rfl ?_
    | refine VP.not rfl rfl rfl ?_
    | ((first | refine V.split rfl rfl rfl rfl ?_ ?_ | refine VP.split hpk rfl rfl rfl rfl rfl ?_ ?_ | refine V.cond rfl ?_ ?_) <;> intro hB <;> (try simp only [ltB_eq, leB_eq, eqB_eq, seB_eq, decide_eq_true_eq, decide_eq_false_iff_not, Bool.not_eq_true', Bool.not_eq_false', Bool.not_eq_true, Bool.not_eq_false] at hB) <;> (try (exfalso; first | omega | exact hB trivial))))
  exact V.ret hk FuncT.h rfl ⟨rfl, HLe.refl _⟩
theorem index_fn (l : List ByteArray) (sv : Value) (s : ByteArray) (h : SX.H) (sl : Sl h encS 1 sv l) (nl : l.length ≤ 140737488351232) :
    Gives P e 108 [sv, .string s] h (fun v h' => v = .int .i64 (ixF (fun x => decide (bl x = bl s)) l 0) ∧ h' = h) := by
  obtain ⟨sa, sc, rfl, hsv⟩ := sl.view
  refine V.body FuncT.h rfl ?_
  intro c y xs hk
  repeat' (first
    | refine V.ctl rfl ?_
    | (refine V.on rfl ?_; first | refine V.easy rfl rfl ?_ | refine V.val (x_lenS rfl StringT.h (E.l rfl)) rfl ?_ | refine V.val (x_lenL rfl SliceT.u (E.l rfl)) rfl ?_ | refine V.val (x_fld rfl FieldT.h (E.l rfl)) rfl ?_ | refine V.val (x_idxAT rfl (E.l rfl) (E.l rfl) (by omega)) rfl ?_ | refine V.val (x_load rfl (E.l rfl) ScalarT.a (by first | assumption | exact (Own.cell (by assumption) _).trans rfl)) rfl ?_ | refine V.val (x_loadA rfl (E.l rfl) AggT.a AggT.z (by first | assumption | exact Own.loadAll (by assumption) rfl)) rfl ?_ | refine V.val (x_idxS rfl StringT.h (E.l rfl) (E.l rfl) (by assumption)) rfl ?_ | refine V.val (x_add rfl (E.l rfl) (E.l rfl) (by omega) (by omega)) rfl ?_ | refine V.val (x_sub rfl (E.l rfl) (E.l rfl) (by omega) (by omega)) rfl ?_ | skip)
    | (refine VP.on rfl rfl ?_; first | refine VP.easy rfl rfl rfl rfl rfl ?_ | refine VP.v (x_lenS rfl StringT.h (E.l rfl)) rfl rfl rfl rfl ?_ | refine VP.v (x_lenL rfl SliceT.u (E.l rfl)) rfl rfl rfl rfl ?_ | refine VP.v (x_fld rfl FieldT.h (E.l rfl)) rfl rfl rfl rfl ?_ | refine VP.v (x_idxAT rfl (E.l rfl) (E.l rfl) (by omega)) rfl rfl rfl rfl ?_ | refine VP.v (x_load rfl (E.l rfl) ScalarT.a (by first | assumption | exact (Own.cell (by assumption) _).trans rfl)) rfl rfl rfl rfl ?_ | refine VP.v (x_loadA rfl (E.l rfl) AggT.a AggT.z (by first | assumption | exact Own.loadAll (by assumption) rfl)) rfl rfl rfl rfl ?_ | refine VP.v (x_idxS rfl StringT.h (E.l rfl) (E.l rfl) (by assumption)) rfl rfl rfl rfl ?_ | refine VP.v (x_add rfl (E.l rfl) (E.l rfl) (by omega) (by omega)) rfl rfl rfl rfl ?_ | refine VP.v (x_sub rfl (E.l rfl) (E.l rfl) (by omega) (by omega)) rfl rfl rfl rfl ?_ | skip)
    | refine WP.nil ?_
    | refine V.not rfl rfl ?_
    | refine VP.not rfl rfl rfl ?_
    | ((first | refine V.split rfl rfl rfl rfl ?_ ?_ | refine VP.split hpk rfl rfl rfl rfl rfl ?_ ?_ | refine V.cond rfl ?_ ?_) <;> intro hB <;> (try simp only [ltB_eq, leB_eq, eqB_eq, seB_eq, decide_eq_true_eq, decide_eq_false_iff_not, Bool.not_eq_true', Bool.not_eq_false', Bool.not_eq_true, Bool.not_eq_false] at hB) <;> (try (exfalso; first | omega | exact hB trivial))))
  refine V.rounds (α := Nat) (fun i => l.length - i) (fun i => [(0, .slice sa l.length sc), (1, .string s), (7, .int .i64 (l.length : Nat)), (8, .int .i64 (i : Nat))]) (fun i h' => i ≤ l.length ∧ (∀ w, w ∈ l.take i → decide (bl w = bl s) = false) ∧ h' = h) 0 ⟨rfl, rfl, rfl, rfl, trivial⟩ ⟨by omega, by simp, rfl⟩ ?_
  rintro i h ⟨hi, hal, rfl⟩ ih
  by_cases hlt : i < l.length
  · obtain ⟨x, hx⟩ : ∃ x, l[i]? = some x := ⟨l[i], List.getElem?_eq_getElem hlt⟩
    obtain ⟨r, off, rfl, hld, hr⟩ := hsv i x hx
    have c0 := loadAt_cell hld (j := 0) rfl
    repeat' (first
    | refine V.ctl rfl ?_
    | (refine V.on rfl ?_; first | refine V.easy rfl rfl ?_ | refine V.val (x_lenS rfl StringT.h (E.l rfl)) rfl ?_ | refine V.val (x_lenL rfl SliceT.u (E.l rfl)) rfl ?_ | refine V.val (x_fld rfl FieldT.h (E.l rfl)) rfl ?_ | refine V.val (x_idxAT rfl (E.l rfl) (E.l rfl) (by omega)) rfl ?_ | refine V.val (x_load rfl (E.l rfl) ScalarT.a (by first | assumption | exact (Own.cell (by assumption) _).trans rfl)) rfl ?_ | refine V.val (x_loadA rfl (E.l rfl) AggT.a AggT.z (by first | assumption | exact Own.loadAll (by assumption) rfl)) rfl ?_ | refine V.val (x_idxS rfl StringT.h (E.l rfl) (E.l rfl) (by assumption)) rfl ?_ | refine V.val (x_add rfl (E.l rfl) (E.l rfl) (by omega) (by omega)) rfl ?_ | refine V.val (x_sub rfl (E.l rfl) (E.l rfl) (by omega) (by omega)) rfl ?_ | skip)
    | (refine VP.on rfl rfl ?_; first | refine VP.easy rfl rfl rfl rfl rfl ?_ | refine VP.v (x_lenS rfl StringT.h (E.l rfl)) rfl rfl rfl rfl ?_ | refine VP.v (x_lenL rfl SliceT.u (E.l rfl)) rfl rfl rfl rfl ?_ | refine VP.v (x_fld rfl FieldT.h (E.l rfl)) rfl rfl rfl rfl ?_ | refine VP.v (x_idxAT rfl (E.l rfl) (E.l rfl) (by omega)) rfl rfl rfl rfl ?_ | refine VP.v (x_load rfl (E.l rfl) ScalarT.a (by first | assumption | exact (Own.cell (by assumption) _).trans rfl)) rfl rfl rfl rfl ?_ | refine VP.v (x_loadA rfl (E.l rfl) AggT.a AggT.z (by first | assumption | exact Own.loadAll (by assumption) rfl)) rfl rfl rfl rfl ?_ | refine VP.v (x_idxS rfl StringT.h (E.l rfl) (E.l rfl) (by assumption)) rfl rfl rfl rfl ?_ | refine VP.v (x_add rfl (E.l rfl) (E.l rfl) (by omega) (by omega)) rfl rfl rfl rfl ?_ | refine VP.v (x_sub rfl (E.l rfl) (E.l rfl) (by omega) (by omega)) rfl rfl rfl rfl ?_ | skip)
    | refine WP.nil ?_
    | refine V.not rfl rfl ?_
    | refine VP.not rfl rfl rfl ?_
    | ((first | refine V.split rfl rfl rfl rfl ?_ ?_ | refine VP.split hpk rfl rfl rfl rfl rfl ?_ ?_ | refine V.cond rfl ?_ ?_) <;> intro hB <;> (try simp only [ltB_eq, leB_eq, eqB_eq, seB_eq, decide_eq_true_eq, decide_eq_false_iff_not, Bool.not_eq_true', Bool.not_eq_false', Bool.not_eq_true, Bool.not_eq_false] at hB) <;> (try (exfalso; first | omega | exact hB trivial))))
    · refine V.ret hk FuncT.h rfl ⟨?_, rfl⟩
      rw [ixF_at (p := fun x => decide (bl x = bl s)) hal hx (by simpa using hB.symm)]; simp [tup]
    · refine ih (i + 1) _ _ ?_ ?_ ?_
      · omega
      · refine ⟨hlt, ?_, rfl⟩
        intro w hw
        rw [List.take_succ_eq_append_getElem hlt] at hw
        rcases List.mem_append.1 hw with q | q
        · exact hal w q
        · simp only [List.mem_singleton] at q; subst q
          rw [(List.getElem?_eq_some_iff.1 hx).2]; exact decide_eq_false fun q => hB q.symm
      · exact ⟨rfl, rfl, rfl, rfl, trivial⟩
  · repeat' (first
    | refine V.ctl rfl ?_
    | (refine V.on rfl ?_; first | refine V.easy rfl rfl ?_ | refine V.val (x_lenS rfl StringT.h (E.l rfl)) rfl ?_ | refine V.val (x_lenL rfl SliceT.u (E.l rfl)) rfl ?_ | refine V.val (x_fld rfl FieldT.h (E.l rfl)) rfl ?_ | refine V.val (x_idxAT rfl (E.l rfl) (E.l rfl) (by omega)) rfl ?_ | refine V.val (x_load rfl (E.l rfl) ScalarT.a (by first | assumption | exact (Own.cell (by assumption) _).trans rfl)) rfl ?_ | refine V.val (x_loadA rfl (E.l rfl) AggT.a AggT.z (by first | assumption | exact Own.loadAll (by assumption) rfl)) rfl ?_ | refine V.val (x_idxS rfl StringT.h (E.l rfl) (E.l rfl) (by assumption)) rfl ?_ | refine V.val (x_add rfl (E.l rfl) (E.l rfl) (by omega) (by omega)) rfl ?_ | refine V.val (x_sub rfl (E.l rfl) (E.l rfl) (by omega) (by omega)) rfl ?_ | skip)
    | (refine VP.on rfl rfl ?_; first | refine VP.easy rfl rfl rfl rfl rfl ?_ | refine VP.v (x_lenS rfl StringT.h (E.l rfl)) rfl rfl rfl rfl ?_ | refine VP.v (x_lenL rfl SliceT.u (E.l rfl)) rfl rfl rfl rfl ?_ | refine VP.v (x_fld rfl FieldT.h (E.l rfl)) rfl rfl rfl rfl ?_ | refine VP.v (x_idxAT rfl (E.l rfl) (E.l rfl) (by omega)) rfl rfl rfl rfl ?_ | refine VP.v (x_load rfl (E.l rfl) ScalarT.a (by first | assumption | exact (Own.cell (by assumption) _).trans rfl)) rfl rfl rfl rfl ?_ | refine VP.v (x_loadA rfl (E.l rfl) AggT.a AggT.z (by first | assumption | exact Own.loadAll (by assumption) rfl)) rfl rfl rfl rfl ?_ | refine VP.v (x_idxS rfl StringT.h (E.l rfl) (E.l rfl) (by assumption)) rfl rfl rfl rfl ?_ | refine VP.v (x_add rfl (E.l rfl) (E.l rfl) (by omega) (by omega)) rfl rfl rfl rfl ?_ | refine VP.v (x_sub rfl (E.l rfl) (E.l rfl) (by omega) (by omega)) rfl rfl rfl rfl ?_ | skip)
    | refine WP.nil ?_
    | refine V.not rfl rfl ?_
    | refine VP.not rfl rfl rfl ?_
    | ((first | refine V.split rfl rfl rfl rfl ?_ ?_ | refine VP.split hpk rfl rfl rfl rfl rfl ?_ ?_ | refine V.cond rfl ?_ ?_) <;> intro hB <;> (try simp only [ltB_eq, leB_eq, eqB_eq, seB_eq, decide_eq_true_eq, decide_eq_false_iff_not, Bool.not_eq_true', Bool.not_eq_false', Bool.not_eq_true, Bool.not_eq_false] at hB) <;> (try (exfalso; first | omega | exact hB trivial))))
    refine V.ret hk FuncT.h rfl ⟨?_, rfl⟩
    rw [ixF_none fun w hw => hal w (by rw [List.take_of_length_le (by omega)]; exact hw)]; rfl
def hasB (l : List ByteArray) (s : ByteArray) : Bool := l.any fun x => decide (bl x = bl s)
theorem contains_fn (l : List ByteArray) (sv : Value) (s : ByteArray) (h : SX.H) (sl : Sl h encS 1 sv l) (nl : l.length ≤ 140737488351232) :
    Gives P e 61 [sv, .string s] h (fun v h' => v = .bool (hasB l s) ∧ h' = h) := by
  refine V.body FuncT.h rfl ?_
  intro c y xs hk
  repeat' (first
    | refine V.ctl rfl ?_
    | (refine V.on rfl ?_; first | refine V.easy rfl rfl ?_ | refine V.val (x_lenS rfl StringT.h (E.l rfl)) rfl ?_ | refine V.val (x_lenL rfl SliceT.u (E.l rfl)) rfl ?_ | refine V.val (x_fld rfl FieldT.h (E.l rfl)) rfl ?_ | refine V.val (x_idxAT rfl (E.l rfl) (E.l rfl) (by omega)) rfl ?_ | refine V.val (x_load rfl (E.l rfl) ScalarT.a (by first | assumption | exact (Own.cell (by assumption) _).trans rfl)) rfl ?_ | refine V.val (x_loadA rfl (E.l rfl) AggT.a AggT.z (by first | assumption | exact Own.loadAll (by assumption) rfl)) rfl ?_ | refine V.val (x_idxS rfl StringT.h (E.l rfl) (E.l rfl) (by assumption)) rfl ?_ | refine V.val (x_add rfl (E.l rfl) (E.l rfl) (by omega) (by omega)) rfl ?_ | refine V.val (x_sub rfl (E.l rfl) (E.l rfl) (by omega) (by omega)) rfl ?_ | (refine V.call (x_call rfl FuncT.ok (E.s rfl)) rfl (index_fn l _ s _ sl nl) ?_; rintro v h1 ⟨rfl, hh⟩; replace hh := hh.symm; subst hh) | skip)
    | (refine VP.on rfl rfl ?_; first | refine VP.easy rfl rfl rfl rfl rfl ?_ | refine VP.v (x_lenS rfl StringT.h (E.l rfl)) rfl rfl rfl rfl ?_ | refine VP.v (x_lenL rfl SliceT.u (E.l rfl)) rfl rfl rfl rfl ?_ | refine VP.v (x_fld rfl FieldT.h (E.l rfl)) rfl rfl rfl rfl ?_ | refine VP.v (x_idxAT rfl (E.l rfl) (E.l rfl) (by omega)) rfl rfl rfl rfl ?_ | refine VP.v (x_load rfl (E.l rfl) ScalarT.a (by first | assumption | exact (Own.cell (by assumption) _).trans rfl)) rfl rfl rfl rfl ?_ | refine VP.v (x_loadA rfl (E.l rfl) AggT.a AggT.z (by first | assumption | exact Own.loadAll (by assumption) rfl)) rfl rfl rfl rfl ?_ | refine VP.v (x_idxS rfl StringT.h (E.l rfl) (E.l rfl) (by assumption)) rfl rfl rfl rfl ?_ | refine VP.v (x_add rfl (E.l rfl) (E.l rfl) (by omega) (by omega)) rfl rfl rfl rfl ?_ | refine VP.v (x_sub rfl (E.l rfl) (E.l rfl) (by omega) (by omega)) rfl rfl rfl rfl ?_ | (refine V.call (x_call rfl FuncT.ok (E.s rfl)) rfl (index_fn l _ s _ sl nl) ?_; rintro v h1 ⟨rfl, hh⟩; replace hh := hh.symm; subst hh) | skip)
    | refine WP.nil ?_
    | refine V.not rfl rfl ?_
    | refine VP.not rfl rfl rfl ?_
    | ((first | refine V.split rfl rfl rfl rfl ?_ ?_ | refine VP.split hpk rfl rfl rfl rfl rfl ?_ ?_ | refine V.cond rfl ?_ ?_) <;> intro hB <;> (try simp only [ltB_eq, leB_eq, eqB_eq, seB_eq, decide_eq_true_eq, decide_eq_false_iff_not, Bool.not_eq_true', Bool.not_eq_false', Bool.not_eq_true, Bool.not_eq_false] at hB) <;> (try (exfalso; first | omega | exact hB trivial))))
  refine V.ret hk FuncT.h rfl ⟨retB ?_, rfl⟩
  rw [leB_eq, ixF_any]; rfl
theorem index3_fn (l : List ByteArray) (sv : Value) (s : ByteArray) (h : SX.H) (sl : Sl h encS 1 sv l) (nl : l.length ≤ 140737488351232) :
    Gives P e 51 [sv, .string s] h (fun v h' => v = .int .i64 (ixF (fun x => decide (bl x = bl s)) l 0) ∧ h' = h) := by
  obtain ⟨sa, sc, rfl, hsv⟩ := sl.view
  refine V.body FuncT.h rfl ?_
  intro c y xs hk
  repeat' (first
    | refine V.ctl rfl ?_
    | (refine V.on rfl ?_; first | refine V.easy rfl rfl ?_ | refine V.val (x_lenS rfl StringT.h (E.l rfl)) rfl ?_ | refine V.val (x_lenL rfl SliceT.u (E.l rfl)) rfl ?_ | refine V.val (x_fld rfl FieldT.h (E.l rfl)) rfl ?_ | refine V.val (x_idxAT rfl (E.l rfl) (E.l rfl) (by omega)) rfl ?_ | refine V.val (x_load rfl (E.l rfl) ScalarT.a (by first | assumption | exact (Own.cell (by assumption) _).trans rfl)) rfl ?_ | refine V.val (x_loadA rfl (E.l rfl) AggT.a AggT.z (by first | assumption | exact Own.loadAll (by assumption) rfl)) rfl ?_ | refine V.val (x_idxS rfl StringT.h (E.l rfl) (E.l rfl) (by assumption)) rfl ?_ | refine V.val (x_add rfl (E.l rfl) (E.l rfl) (by omega) (by omega)) rfl ?_ | refine V.val (x_sub rfl (E.l rfl) (E.l rfl) (by omega) (by omega)) rfl ?_ | skip)
    | (refine VP.on rfl rfl ?_; first | refine VP.easy rfl rfl rfl rfl rfl ?_ | refine VP.v (x_lenS rfl StringT.h (E.l rfl)) rfl rfl rfl rfl ?_ | refine VP.v (x_lenL rfl SliceT.u (E.l rfl)) rfl rfl rfl rfl ?_ | refine VP.v (x_fld rfl FieldT.h (E.l rfl)) rfl rfl rfl rfl ?_ | refine VP.v (x_idxAT rfl (E.l rfl) (E.l rfl) (by omega)) rfl rfl rfl rfl ?_ | refine VP.v (x_load rfl (E.l rfl) ScalarT.a (by first | assumption | exact (Own.cell (by assumption) _).trans rfl)) rfl rfl rfl rfl ?_ | refine VP.v (x_loadA rfl (E.l rfl) AggT.a AggT.z (by first | assumption | exact Own.loadAll (by assumption) rfl)) rfl rfl rfl rfl ?_ | refine VP.v (x_idxS rfl StringT.h (E.l rfl) (E.l rfl) (by assumption)) rfl rfl rfl rfl ?_ | refine VP.v (x_add rfl (E.l rfl) (E.l rfl) (by omega) (by omega)) rfl rfl rfl rfl ?_ | refine VP.v (x_sub rfl (E.l rfl) (E.l rfl) (by omega) (by omega)) rfl rfl rfl rfl ?_ | skip)
    | refine WP.nil ?_
    | refine V.not rfl rfl ?_
    | refine VP.not rfl rfl rfl ?_
    | ((first | refine V.split rfl rfl rfl rfl ?_ ?_ | refine VP.split hpk rfl rfl rfl rfl rfl ?_ ?_ | refine V.cond rfl ?_ ?_) <;> intro hB <;> (try simp only [ltB_eq, leB_eq, eqB_eq, seB_eq, decide_eq_true_eq, decide_eq_false_iff_not, Bool.not_eq_true', Bool.not_eq_false', Bool.not_eq_true, Bool.not_eq_false] at hB) <;> (try (exfalso; first | omega | exact hB trivial))))
  refine V.rounds (α := Nat) (fun i => l.length - i) (fun i => [(0, .slice sa l.length sc), (1, .string s), (5, .int .i64 (i : Nat))]) (fun i h' => i ≤ l.length ∧ (∀ w, w ∈ l.take i → decide (bl w = bl s) = false) ∧ h' = h) 0 ⟨rfl, rfl, rfl, trivial⟩ ⟨by omega, by simp, rfl⟩ ?_
  rintro i h ⟨hi, hal, rfl⟩ ih
  by_cases hlt : i < l.length
  · obtain ⟨x, hx⟩ : ∃ x, l[i]? = some x := ⟨l[i], List.getElem?_eq_getElem hlt⟩
    obtain ⟨r, off, rfl, hld, hr⟩ := hsv i x hx
    have c0 := loadAt_cell hld (j := 0) rfl
    repeat' (first
    | refine V.ctl rfl ?_
    | (refine V.on rfl ?_; first | refine V.easy rfl rfl ?_ | refine V.val (x_lenS rfl StringT.h (E.l rfl)) rfl ?_ | refine V.val (x_lenL rfl SliceT.u (E.l rfl)) rfl ?_ | refine V.val (x_fld rfl FieldT.h (E.l rfl)) rfl ?_ | refine V.val (x_idxAT rfl (E.l rfl) (E.l rfl) (by omega)) rfl ?_ | refine V.val (x_load rfl (E.l rfl) ScalarT.a (by first | assumption | exact (Own.cell (by assumption) _).trans rfl)) rfl ?_ | refine V.val (x_loadA rfl (E.l rfl) AggT.a AggT.z (by first | assumption | exact Own.loadAll (by assumption) rfl)) rfl ?_ | refine V.val (x_idxS rfl StringT.h (E.l rfl) (E.l rfl) (by assumption)) rfl ?_ | refine V.val (x_add rfl (E.l rfl) (E.l rfl) (by omega) (by omega)) rfl ?_ | refine V.val (x_sub rfl (E.l rfl) (E.l rfl) (by omega) (by omega)) rfl ?_ | skip)
    | (refine VP.on rfl rfl ?_; first | refine VP.easy rfl rfl rfl rfl rfl ?_ | refine VP.v (x_lenS rfl StringT.h (E.l rfl)) rfl rfl rfl rfl ?_ | refine VP.v (x_lenL rfl SliceT.u (E.l rfl)) rfl rfl rfl rfl ?_ | refine VP.v (x_fld rfl FieldT.h (E.l rfl)) rfl rfl rfl rfl ?_ | refine VP.v (x_idxAT rfl (E.l rfl) (E.l rfl) (by omega)) rfl rfl rfl rfl ?_ | refine VP.v (x_load rfl (E.l rfl) ScalarT.a (by first | assumption | exact (Own.cell (by assumption) _).trans rfl)) rfl rfl rfl rfl ?_ | refine VP.v (x_loadA rfl (E.l rfl) AggT.a AggT.z (by first | assumption | exact Own.loadAll (by assumption) rfl)) rfl rfl rfl rfl ?_ | refine VP.v (x_idxS rfl StringT.h (E.l rfl) (E.l rfl) (by assumption)) rfl rfl rfl rfl ?_ | refine VP.v (x_add rfl (E.l rfl) (E.l rfl) (by omega) (by omega)) rfl rfl rfl rfl ?_ | refine VP.v (x_sub rfl (E.l rfl) (E.l rfl) (by omega) (by omega)) rfl rfl rfl rfl ?_ | skip)
    | refine WP.nil ?_
    | refine V.not rfl rfl ?_
    | refine VP.not rfl rfl rfl ?_
    | ((first | refine V.split rfl rfl rfl rfl ?_ ?_ | refine VP.split hpk rfl rfl rfl rfl rfl ?_ ?_ | refine V.cond rfl ?_ ?_) <;> intro hB <;> (try simp only [ltB_eq, leB_eq, eqB_eq, seB_eq, decide_eq_true_eq, decide_eq_false_iff_not, Bool.not_eq_true', Bool.not_eq_false', Bool.not_eq_true, Bool.not_eq_false] at hB) <;> (try (exfalso; first | omega | exact hB trivial))))
    · refine V.ret hk FuncT.h rfl ⟨?_, rfl⟩
      rw [ixF_at (p := fun x => decide (bl x = bl s)) hal hx (by simpa using hB)]; simp [tup]
    · refine ih (i + 1) _ _ ?_ ?_ ?_
      · omega
      · refine ⟨hlt, ?_, rfl⟩
        intro w hw
        rw [List.take_succ_eq_append_getElem hlt] at hw
        rcases List.mem_append.1 hw with q | q
        · exact hal w q
        · simp only [List.mem_singleton] at q; subst q
          rw [(List.getElem?_eq_some_iff.1 hx).2]; simpa using hB
      · exact ⟨rfl, rfl, rfl, trivial⟩
  · repeat' (first
    | refine V.ctl rfl ?_
    | (refine V.on rfl ?_; first | refine V.easy rfl rfl ?_ | refine V.val (x_lenS rfl StringT.h (E.l rfl)) rfl ?_ | refine V.val (x_lenL rfl SliceT.u (E.l rfl)) rfl ?_ | refine V.val (x_fld rfl FieldT.h (E.l rfl)) rfl ?_ | refine V.val (x_idxAT rfl (E.l rfl) (E.l rfl) (by omega)) rfl ?_ | refine V.val (x_load rfl (E.l rfl) ScalarT.a (by first | assumption | exact (Own.cell (by assumption) _).trans rfl)) rfl ?_ | refine V.val (x_loadA rfl (E.l rfl) AggT.a AggT.z (by first | assumption | exact Own.loadAll (by assumption) rfl)) rfl ?_ | refine V.val (x_idxS rfl StringT.h (E.l rfl) (E.l rfl) (by assumption)) rfl ?_ | refine V.val (x_add rfl (E.l rfl) (E.l rfl) (by omega) (by omega)) rfl ?_ | refine V.val (x_sub rfl (E.l rfl) (E.l rfl) (by omega) (by omega)) rfl ?_ | skip)
    | (refine VP.on rfl rfl ?_; first | refine VP.easy rfl rfl rfl rfl rfl ?_ | refine VP.v (x_lenS rfl StringT.h (E.l rfl)) rfl rfl rfl rfl ?_ | refine VP.v (x_lenL rfl SliceT.u (E.l rfl)) rfl rfl rfl rfl ?_ | refine VP.v (x_fld rfl FieldT.h (E.l rfl)) rfl rfl rfl rfl ?_ | refine VP.v (x_idxAT rfl (E.l rfl) (E.l rfl) (by omega)) rfl rfl rfl rfl ?_ | refine VP.v (x_load rfl (E.l rfl) ScalarT.a (by first | assumption | exact (Own.cell (by assumption) _).trans rfl)) rfl rfl rfl rfl ?_ | refine VP.v (x_loadA rfl (E.l rfl) AggT.a AggT.z (by first | assumption | exact Own.loadAll (by assumption) rfl)) rfl rfl rfl rfl ?_ | refine VP.v (x_idxS rfl StringT.h (E.l rfl) (E.l rfl) (by assumption)) rfl rfl rfl rfl ?_ | refine VP.v (x_add rfl (E.l rfl) (E.l rfl) (by omega) (by omega)) rfl rfl rfl rfl ?_ | refine VP.v (x_sub rfl (E.l rfl) (E.l rfl) (by omega) (by omega)) rfl rfl rfl rfl ?_ | skip)
    | refine WP.nil ?_
    | refine V.not rfl rfl ?_
    | refine VP.not rfl rfl rfl ?_
    | ((first | refine V.split rfl rfl rfl rfl ?_ ?_ | refine VP.split hpk rfl rfl rfl rfl rfl ?_ ?_ | refine V.cond rfl ?_ ?_) <;> intro hB <;> (try simp only [ltB_eq, leB_eq, eqB_eq, seB_eq, decide_eq_true_eq, decide_eq_false_iff_not, Bool.not_eq_true', Bool.not_eq_false', Bool.not_eq_true, Bool.not_eq_false] at hB) <;> (try (exfalso; first | omega | exact hB trivial))))
    refine V.ret hk FuncT.h rfl ⟨?_, rfl⟩
    rw [ixF_none fun w hw => hal w (by rw [List.take_of_length_le (by omega)]; exact hw)]; rfl
theorem has_fn (l : List ByteArray) (sv : Value) (s : ByteArray) (h : SX.H) (sl : Sl h encS 1 sv l) (nl : l.length ≤ 140737488351232) :
    Gives P e 13 [sv, .string s] h (fun v h' => v = .bool (hasB l s) ∧ h' = h) := by
  refine V.body FuncT.h rfl ?_
  intro c y xs hk
  repeat' (first
    | refine V.ctl rfl ?_
    | (refine V.on rfl ?_; first | refine V.easy rfl rfl ?_ | refine V.val (x_lenS rfl StringT.h (E.l rfl)) rfl ?_ | refine V.val (x_lenL rfl SliceT.u (E.l rfl)) rfl ?_ | refine V.val (x_fld rfl FieldT.h (E.l rfl)) rfl ?_ | refine V.val (x_idxAT rfl (E.l rfl) (E.l rfl) (by omega)) rfl ?_ | refine V.val (x_load rfl (E.l rfl) ScalarT.a (by first | assumption | exact (Own.cell (by assumption) _).trans rfl)) rfl ?_ | refine V.val (x_loadA rfl (E.l rfl) AggT.a AggT.z (by first | assumption | exact Own.loadAll (by assumption) rfl)) rfl ?_ | refine V.val (x_idxS rfl StringT.h (E.l rfl) (E.l rfl) (by assumption)) rfl ?_ | refine V.val (x_add rfl (E.l rfl) (E.l rfl) (by omega) (by omega)) rfl ?_ | refine V.val (x_sub rfl (E.l rfl) (E.l rfl) (by omega) (by omega)) rfl ?_ | (refine V.call (x_call rfl FuncT.ok (E.s rfl)) rfl (index3_fn l _ s _ sl nl) ?_; rintro v h1 ⟨rfl, hh⟩; replace hh := hh.symm; subst hh) | skip)
    | (refine VP.on rfl rfl ?_; first | refine VP.easy rfl rfl rfl rfl rfl ?_ | refine VP.v (x_lenS rfl StringT.h (E.l rfl)) rfl rfl rfl rfl ?_ | refine VP.v (x_lenL rfl SliceT.u (E.l rfl)) rfl rfl rfl rfl ?_ | refine VP.v (x_fld rfl FieldT.h (E.l rfl)) rfl rfl rfl rfl ?_ | refine VP.v (x_idxAT rfl (E.l rfl) (E.l rfl) (by omega)) rfl rfl rfl rfl ?_ | refine VP.v (x_load rfl (E.l rfl) ScalarT.a (by first | assumption | exact (Own.cell (by assumption) _).trans rfl)) rfl rfl rfl rfl ?_ | refine VP.v (x_loadA rfl (E.l rfl) AggT.a AggT.z (by first | assumption | exact Own.loadAll (by assumption) rfl)) rfl rfl rfl rfl ?_ | refine VP.v (x_idxS rfl StringT.h (E.l rfl) (E.l rfl) (by assumption)) rfl rfl rfl rfl ?_ | refine VP.v (x_add rfl (E.l rfl) (E.l rfl) (by omega) (by omega)) rfl rfl rfl rfl ?_ | refine VP.v (x_sub rfl (E.l rfl) (E.l rfl) (by omega) (by omega)) rfl rfl rfl rfl ?_ | (refine V.call (x_call rfl FuncT.ok (E.s rfl)) rfl (index3_fn l _ s _ sl nl) ?_; rintro v h1 ⟨rfl, hh⟩; replace hh := hh.symm; subst hh) | skip)
    | refine WP.nil ?_
    | refine V.not rfl rfl ?_
    | refine VP.not rfl rfl rfl ?_
    | ((first | refine V.split rfl rfl rfl rfl ?_ ?_ | refine VP.split hpk rfl rfl rfl rfl rfl ?_ ?_ | refine V.cond rfl ?_ ?_) <;> intro hB <;> (try simp only [ltB_eq, leB_eq, eqB_eq, seB_eq, decide_eq_true_eq, decide_eq_false_iff_not, Bool.not_eq_true', Bool.not_eq_false', Bool.not_eq_true, Bool.not_eq_false] at hB) <;> (try (exfalso; first | omega | exact hB trivial))))
  refine V.ret hk FuncT.h rfl ⟨retB ?_, rfl⟩
  rw [leB_eq, ixF_any]; rfl
end Go.Proofs.YtladhpocefnkjaaGreatDoor
namespace Go.Proofs.YtladhpocefnkjaaGreatDoor
open Go Go.SX
variable {P : Program} {e : E} [GEnv e]
structure Deed where
  verb : Int
  on : ByteArray
  nv : Value
  rv : Value
  kv : Value
  names : List ByteArray
  row : List Val
  keys : List ByteArray
def encDeed (d : Deed) : List Value := [.int .i64 d.verb, .string d.on, d.nv, d.rv, d.kv]
structure DeedIn (h : SX.H) (d : Deed) : Prop where
  names : Sl h encS 1 d.nv d.names
  row : Sl h encVal 3 d.rv d.row
  keys : Sl h encS 1 d.kv d.keys
  nn : d.names.length ≤ 140737488351232
  nr : d.row.length ≤ 140737488351232
  nk : d.keys.length ≤ 140737488351232
  fo : Fits d.on
  fn : ∀ x, x ∈ d.names → Fits x
theorem DeedIn.grow {h h' : SX.H} {d : Deed} (hd : DeedIn h d) (hl : HLe h h') : DeedIn h' d := { hd with names := hd.names.grow hl, row := hd.row.grow hl, keys := hd.keys.grow hl }
def meantB (verb : Int) (on : List UInt8) (d : Deed) : Bool := (decide (verb = 0) || decide (verb = d.verb)) && (decide (on = []) || decide (on = bl d.on))
theorem meant_fn (verb : Int) (on : ByteArray) (d : Deed) (h : SX.H) : Gives P e 99 [.int .i64 verb, .string on, .agg ⟨encDeed d⟩] h (fun v h' => v = .bool (meantB verb (bl on) d) ∧ HLe h h') := by
  refine V.body FuncT.h rfl ?_
  intro c y xs hk
  repeat' (first
    | refine V.ctl rfl ?_
    | (refine V.on rfl ?_; first | refine V.easy rfl rfl ?_ | refine V.val (x_lenS rfl StringT.h (E.l rfl)) rfl ?_ | refine V.val (x_lenL rfl SliceT.u (E.l rfl)) rfl ?_ | refine V.val (x_fld rfl FieldT.h (E.l rfl)) rfl ?_ | refine V.val (x_idxAT rfl (E.l rfl) (E.l rfl) (by omega)) rfl ?_ | refine V.val (x_load rfl (E.l rfl) ScalarT.a (by first | assumption | exact (Own.cell (by assumption) _).trans rfl)) rfl ?_ | refine V.val (x_loadA rfl (E.l rfl) AggT.a AggT.z (by first | assumption | exact Own.loadAll (by assumption) rfl)) rfl ?_ | refine V.val (x_idxS rfl StringT.h (E.l rfl) (E.l rfl) (by assumption)) rfl ?_ | refine V.val (x_add rfl (E.l rfl) (E.l rfl) (by omega) (by omega)) rfl ?_ | refine V.val (x_sub rfl (E.l rfl) (E.l rfl) (by omega) (by omega)) rfl ?_ | (refine V.box rfl rfl rfl ?_; intro r1 h1 hl1 ho1 hn1 hr1 hf1) | skip)
    | (refine VP.on rfl rfl ?_; first | refine VP.easy rfl rfl rfl rfl rfl ?_ | refine VP.v (x_lenS rfl StringT.h (E.l rfl)) rfl rfl rfl rfl ?_ | refine VP.v (x_lenL rfl SliceT.u (E.l rfl)) rfl rfl rfl rfl ?_ | refine VP.v (x_fld rfl FieldT.h (E.l rfl)) rfl rfl rfl rfl ?_ | refine VP.v (x_idxAT rfl (E.l rfl) (E.l rfl) (by omega)) rfl rfl rfl rfl ?_ | refine VP.v (x_load rfl (E.l rfl) ScalarT.a (by first | assumption | exact (Own.cell (by assumption) _).trans rfl)) rfl rfl rfl rfl ?_ | refine VP.v (x_loadA rfl (E.l rfl) AggT.a AggT.z (by first | assumption | exact Own.loadAll (by assumption) rfl)) rfl rfl rfl rfl ?_ | refine VP.v (x_idxS rfl StringT.h (E.l rfl) (E.l rfl) (by assumption)) rfl rfl rfl rfl ?_ | refine VP.v (x_add rfl (E.l rfl) (E.l rfl) (by omega) (by omega)) rfl rfl rfl rfl ?_ | refine VP.v (x_sub rfl (E.l rfl) (E.l rfl) (by omega) (by omega)) rfl rfl rfl rfl ?_ | (refine V.box rfl rfl rfl ?_; intro r1 h1 hl1 ho1 hn1 hr1 hf1) | skip)
    | refine WP.nil ?_
    | refine V.not rfl rfl ?_
    | refine VP.not rfl rfl rfl ?_
    | ((first | refine V.split rfl rfl rfl rfl ?_ ?_ | refine VP.split hpk rfl rfl rfl rfl rfl ?_ ?_ | refine V.cond rfl ?_ ?_) <;> intro hB <;> (try simp only [ltB_eq, leB_eq, eqB_eq, seB_eq, decide_eq_true_eq, decide_eq_false_iff_not, Bool.not_eq_true', Bool.not_eq_false', Bool.not_eq_true, Bool.not_eq_false] at hB) <;> (try (exfalso; first | omega | exact hB trivial))))
  all_goals refine V.ret hk FuncT.h rfl ⟨retB ?_, hl1⟩
  all_goals (clear hk; unfold meantB bl at *; (try simp only [seB_eq, eqB_eq] at *); simp_all)
def closedB (d : Deed) (p : Priv) : Bool := meantB p.verb (bl p.on) d && !hasB d.keys p.key
theorem closed1_fn (p : Priv) (d : Deed) (rd : Nat) (h : SX.H) (hld : h.loadAt rd 0 5 = some (encDeed d)) (hd : DeedIn h d) :
    Gives P e 98 [.agg ⟨encPriv p⟩, .pointer (some ⟨rd, 0, none⟩)] h (fun v h' => v = .bool (closedB d p) ∧ HLe h h') := by
  obtain ⟨verb, on, nv, rv, kv, names, row, keys⟩ := d
  have hkeys := hd.keys
  simp only at hkeys
  obtain ⟨ka, kc, rfl, hka⟩ := hkeys.view
  refine V.body FuncT.h rfl ?_
  intro c y xs hk
  repeat' (first
    | refine V.ctl rfl ?_
    | (refine V.on rfl ?_; first | refine V.easy rfl rfl ?_ | refine V.val (x_lenS rfl StringT.h (E.l rfl)) rfl ?_ | refine V.val (x_lenL rfl SliceT.u (E.l rfl)) rfl ?_ | refine V.val (x_fld rfl FieldT.h (E.l rfl)) rfl ?_ | refine V.val (x_idxAT rfl (E.l rfl) (E.l rfl) (by omega)) rfl ?_ | refine V.val (x_load rfl (E.l rfl) ScalarT.a (by first | assumption | exact (Own.cell (by assumption) _).trans rfl)) rfl ?_ | refine V.val (x_loadA rfl (E.l rfl) AggT.a AggT.z (by first | assumption | exact Own.loadAll (by assumption) rfl)) rfl ?_ | refine V.val (x_idxS rfl StringT.h (E.l rfl) (E.l rfl) (by assumption)) rfl ?_ | refine V.val (x_add rfl (E.l rfl) (E.l rfl) (by omega) (by omega)) rfl ?_ | refine V.val (x_sub rfl (E.l rfl) (E.l rfl) (by omega) (by omega)) rfl ?_ | ((refine V.box rfl rfl rfl ?_; intro r1 h1 hl1 ho1 hn1 hr1 hf1); have hld1 := HLe.loadAt hl1 hld) | ((refine V.call (x_call rfl FuncT.ok (E.s rfl)) rfl (meant_fn _ _ ⟨verb, on, nv, rv, _, names, row, keys⟩ _) ?_; rintro v h2 ⟨rfl, hl2⟩); have ho2 := ho1.grow hf1 hl2; have hld2 := HLe.loadAt hl2 hld1; have c4 := loadAt_cell hld2 (j := 4) rfl) | (refine V.call (x_call rfl FuncT.ok (E.s rfl)) rfl (contains_fn keys _ _ _ (hkeys.grow (hl1.trans hl2)) hd.nk) ?_; rintro v h1 ⟨rfl, hh⟩; replace hh := hh.symm; subst hh) | skip)
    | (refine VP.on rfl rfl ?_; first | refine VP.easy rfl rfl rfl rfl rfl ?_ | refine VP.v (x_lenS rfl StringT.h (E.l rfl)) rfl rfl rfl rfl ?_ | refine VP.v (x_lenL rfl SliceT.u (E.l rfl)) rfl rfl rfl rfl ?_ | refine VP.v (x_fld rfl FieldT.h (E.l rfl)) rfl rfl rfl rfl ?_ | refine VP.v (x_idxAT rfl (E.l rfl) (E.l rfl) (by omega)) rfl rfl rfl rfl ?_ | refine VP.v (x_load rfl (E.l rfl) ScalarT.a (by first | assumption | exact (Own.cell (by assumption) _).trans rfl)) rfl rfl rfl rfl ?_ | refine VP.v (x_loadA rfl (E.l rfl) AggT.a AggT.z (by first | assumption | exact Own.loadAll (by assumption) rfl)) rfl rfl rfl rfl ?_ | refine VP.v (x_idxS rfl StringT.h (E.l rfl) (E.l rfl) (by assumption)) rfl rfl rfl rfl ?_ | refine VP.v (x_add rfl (E.l rfl) (E.l rfl) (by omega) (by omega)) rfl rfl rfl rfl ?_ | refine VP.v (x_sub rfl (E.l rfl) (E.l rfl) (by omega) (by omega)) rfl rfl rfl rfl ?_ | ((refine V.box rfl rfl rfl ?_; intro r1 h1 hl1 ho1 hn1 hr1 hf1); have hld1 := HLe.loadAt hl1 hld) | ((refine V.call (x_call rfl FuncT.ok (E.s rfl)) rfl (meant_fn _ _ ⟨verb, on, nv, rv, _, names, row, keys⟩ _) ?_; rintro v h2 ⟨rfl, hl2⟩); have ho2 := ho1.grow hf1 hl2; have hld2 := HLe.loadAt hl2 hld1; have c4 := loadAt_cell hld2 (j := 4) rfl) | (refine V.call (x_call rfl FuncT.ok (E.s rfl)) rfl (contains_fn keys _ _ _ (hkeys.grow (hl1.trans hl2)) hd.nk) ?_; rintro v h1 ⟨rfl, hh⟩; replace hh := hh.symm; subst hh) | skip)
    | refine WP.nil ?_
    | refine V.not rfl rfl ?_
    | refine VP.not rfl rfl rfl ?_
    | ((first | refine V.split rfl rfl rfl rfl ?_ ?_ | refine VP.split hpk rfl rfl rfl rfl rfl ?_ ?_ | refine V.cond rfl ?_ ?_) <;> intro hB <;> (try simp only [ltB_eq, leB_eq, eqB_eq, seB_eq, decide_eq_true_eq, decide_eq_false_iff_not, Bool.not_eq_true', Bool.not_eq_false', Bool.not_eq_true, Bool.not_eq_false] at hB) <;> (try (exfalso; first | omega | exact hB trivial))))
  · refine V.ret hk FuncT.h rfl ⟨retB ?_, hl1.trans hl2⟩
    simp only [closedB, hB, Bool.true_and]
  · refine V.ret hk FuncT.h rfl ⟨retB ?_, hl1.trans hl2⟩
    simp only [closedB, hB, Bool.false_and]
theorem closed_fn (l : List Priv) (pv lv nv0 : Value) (rg : Nat) (d : Deed) (h : SX.H) (hg : h.loadAt rg 0 3 = some [pv, lv, nv0]) (sl : Sl h encPriv 3 lv l) (nl : l.length ≤ 140737488351232) (hd : DeedIn h d) :
    Gives P e 50 [.pointer (some ⟨rg, 0, none⟩), .agg ⟨encDeed d⟩] h (fun v h' => v = .int .i64 (ixF (closedB d) l 0) ∧ HLe h h') := by
  refine V.body FuncT.h rfl ?_
  intro c y xs hk
  repeat' (first
    | refine V.ctl rfl ?_
    | (refine V.on rfl ?_; first | refine V.easy rfl rfl ?_ | refine V.val (x_lenS rfl StringT.h (E.l rfl)) rfl ?_ | refine V.val (x_lenL rfl SliceT.u (E.l rfl)) rfl ?_ | refine V.val (x_fld rfl FieldT.h (E.l rfl)) rfl ?_ | refine V.val (x_idxAT rfl (E.l rfl) (E.l rfl) (by omega)) rfl ?_ | refine V.val (x_load rfl (E.l rfl) ScalarT.a (by first | assumption | exact (Own.cell (by assumption) _).trans rfl)) rfl ?_ | refine V.val (x_loadA rfl (E.l rfl) AggT.a AggT.z (by first | assumption | exact Own.loadAll (by assumption) rfl)) rfl ?_ | refine V.val (x_idxS rfl StringT.h (E.l rfl) (E.l rfl) (by assumption)) rfl ?_ | refine V.val (x_add rfl (E.l rfl) (E.l rfl) (by omega) (by omega)) rfl ?_ | refine V.val (x_sub rfl (E.l rfl) (E.l rfl) (by omega) (by omega)) rfl ?_ | ((refine V.box rfl rfl rfl ?_; intro r1 h1 hl1 ho1 hn1 hr1 hf1); have c1 := loadAt_cell (HLe.loadAt hl1 hg) (j := 1) rfl) | (refine V.val (x_nilCheck rfl (E.l rfl)) rfl ?_) | (refine V.val (x_makeFunc rfl rfl (E.s rfl) (E.s rfl)) rfl ?_) | (refine V.call (x_call rfl FuncT.ok (E.s rfl)) rfl (priv_ix l _ 98 [.pointer (some ⟨r1, 0, none⟩)] (closedB d) _ (sl.grow hl1) nl FuncT.ok (fun x _ h2 q => closed1_fn x d r1 h2 (HLe.loadAt q (Own.loadAll ho1 rfl)) (hd.grow (hl1.trans q)))) ?_; rintro v h2 ⟨rfl, hl2⟩) | skip)
    | (refine VP.on rfl rfl ?_; first | refine VP.easy rfl rfl rfl rfl rfl ?_ | refine VP.v (x_lenS rfl StringT.h (E.l rfl)) rfl rfl rfl rfl ?_ | refine VP.v (x_lenL rfl SliceT.u (E.l rfl)) rfl rfl rfl rfl ?_ | refine VP.v (x_fld rfl FieldT.h (E.l rfl)) rfl rfl rfl rfl ?_ | refine VP.v (x_idxAT rfl (E.l rfl) (E.l rfl) (by omega)) rfl rfl rfl rfl ?_ | refine VP.v (x_load rfl (E.l rfl) ScalarT.a (by first | assumption | exact (Own.cell (by assumption) _).trans rfl)) rfl rfl rfl rfl ?_ | refine VP.v (x_loadA rfl (E.l rfl) AggT.a AggT.z (by first | assumption | exact Own.loadAll (by assumption) rfl)) rfl rfl rfl rfl ?_ | refine VP.v (x_idxS rfl StringT.h (E.l rfl) (E.l rfl) (by assumption)) rfl rfl rfl rfl ?_ | refine VP.v (x_add rfl (E.l rfl) (E.l rfl) (by omega) (by omega)) rfl rfl rfl rfl ?_ | refine VP.v (x_sub rfl (E.l rfl) (E.l rfl) (by omega) (by omega)) rfl rfl rfl rfl ?_ | ((refine V.box rfl rfl rfl ?_; intro r1 h1 hl1 ho1 hn1 hr1 hf1); have c1 := loadAt_cell (HLe.loadAt hl1 hg) (j := 1) rfl) | (refine V.val (x_nilCheck rfl (E.l rfl)) rfl ?_) | (refine V.val (x_makeFunc rfl rfl (E.s rfl) (E.s rfl)) rfl ?_) | (refine V.call (x_call rfl FuncT.ok (E.s rfl)) rfl (priv_ix l _ 98 [.pointer (some ⟨r1, 0, none⟩)] (closedB d) _ (sl.grow hl1) nl FuncT.ok (fun x _ h2 q => closed1_fn x d r1 h2 (HLe.loadAt q (Own.loadAll ho1 rfl)) (hd.grow (hl1.trans q)))) ?_; rintro v h2 ⟨rfl, hl2⟩) | skip)
    | refine WP.nil ?_
    | refine V.not rfl rfl ?_
    | refine VP.not rfl rfl rfl ?_
    | ((first | refine V.split rfl rfl rfl rfl ?_ ?_ | refine VP.split hpk rfl rfl rfl rfl rfl ?_ ?_ | refine V.cond rfl ?_ ?_) <;> intro hB <;> (try simp only [ltB_eq, leB_eq, eqB_eq, seB_eq, decide_eq_true_eq, decide_eq_false_iff_not, Bool.not_eq_true', Bool.not_eq_false', Bool.not_eq_true, Bool.not_eq_false] at hB) <;> (try (exfalso; first | omega | exact hB trivial))))
  exact V.ret hk FuncT.h rfl ⟨rfl, hl1.trans hl2⟩
def privB (p : Priv) : Bool := verbB p.verb && onB (bl p.on) && keyB (bl p.key)
theorem priv_fn (p : Priv) (hp : p.Fit) (h : SX.H) : Gives P e 16 [.agg ⟨encPriv p⟩] h (fun v h' => v = .bool (privB p) ∧ HLe h h') := by
  refine V.body FuncT.h rfl ?_
  intro c y xs hk
  repeat' (first
    | refine V.ctl rfl ?_
    | (refine V.on rfl ?_; first | refine V.easy rfl rfl ?_ | refine V.val (x_lenS rfl StringT.h (E.l rfl)) rfl ?_ | refine V.val (x_lenL rfl SliceT.u (E.l rfl)) rfl ?_ | refine V.val (x_fld rfl FieldT.h (E.l rfl)) rfl ?_ | refine V.val (x_idxAT rfl (E.l rfl) (E.l rfl) (by omega)) rfl ?_ | refine V.val (x_load rfl (E.l rfl) ScalarT.a (by first | assumption | exact (Own.cell (by assumption) _).trans rfl)) rfl ?_ | refine V.val (x_loadA rfl (E.l rfl) AggT.a AggT.z (by first | assumption | exact Own.loadAll (by assumption) rfl)) rfl ?_ | refine V.val (x_idxS rfl StringT.h (E.l rfl) (E.l rfl) (by assumption)) rfl ?_ | refine V.val (x_add rfl (E.l rfl) (E.l rfl) (by omega) (by omega)) rfl ?_ | refine V.val (x_sub rfl (E.l rfl) (E.l rfl) (by omega) (by omega)) rfl ?_ | (refine V.box rfl rfl rfl ?_; intro r1 h1 hl1 ho1 hn1 hr1 hf1) | (refine V.call (x_call rfl FuncT.ok (E.s rfl)) rfl (verb_fn _ _) ?_; rintro v h1 ⟨rfl, hh⟩; replace hh := hh.symm; subst hh) | (refine V.call (x_call rfl FuncT.ok (E.s rfl)) rfl (on_fn _ hp.on _) ?_; rintro v h1 ⟨rfl, hh⟩; replace hh := hh.symm; subst hh) | (refine V.call (x_call rfl FuncT.ok (E.s rfl)) rfl (key_fn _ _) ?_; rintro v h1 ⟨rfl, hh⟩; replace hh := hh.symm; subst hh) | skip)
    | (refine VP.on rfl rfl ?_; first | refine VP.easy rfl rfl rfl rfl rfl ?_ | refine VP.v (x_lenS rfl StringT.h (E.l rfl)) rfl rfl rfl rfl ?_ | refine VP.v (x_lenL rfl SliceT.u (E.l rfl)) rfl rfl rfl rfl ?_ | refine VP.v (x_fld rfl FieldT.h (E.l rfl)) rfl rfl rfl rfl ?_ | refine VP.v (x_idxAT rfl (E.l rfl) (E.l rfl) (by omega)) rfl rfl rfl rfl ?_ | refine VP.v (x_load rfl (E.l rfl) ScalarT.a (by first | assumption | exact (Own.cell (by assumption) _).trans rfl)) rfl rfl rfl rfl ?_ | refine VP.v (x_loadA rfl (E.l rfl) AggT.a AggT.z (by first | assumption | exact Own.loadAll (by assumption) rfl)) rfl rfl rfl rfl ?_ | refine VP.v (x_idxS rfl StringT.h (E.l rfl) (E.l rfl) (by assumption)) rfl rfl rfl rfl ?_ | refine VP.v (x_add rfl (E.l rfl) (E.l rfl) (by omega) (by omega)) rfl rfl rfl rfl ?_ | refine VP.v (x_sub rfl (E.l rfl) (E.l rfl) (by omega) (by omega)) rfl rfl rfl rfl ?_ | (refine V.box rfl rfl rfl ?_; intro r1 h1 hl1 ho1 hn1 hr1 hf1) | (refine V.call (x_call rfl FuncT.ok (E.s rfl)) rfl (verb_fn _ _) ?_; rintro v h1 ⟨rfl, hh⟩; replace hh := hh.symm; subst hh) | (refine V.call (x_call rfl FuncT.ok (E.s rfl)) rfl (on_fn _ hp.on _) ?_; rintro v h1 ⟨rfl, hh⟩; replace hh := hh.symm; subst hh) | (refine V.call (x_call rfl FuncT.ok (E.s rfl)) rfl (key_fn _ _) ?_; rintro v h1 ⟨rfl, hh⟩; replace hh := hh.symm; subst hh) | skip)
    | refine WP.nil ?_
    | refine V.not rfl rfl ?_
    | refine VP.not rfl rfl rfl ?_
    | ((first | refine V.split rfl rfl rfl rfl ?_ ?_ | refine VP.split hpk rfl rfl rfl rfl rfl ?_ ?_ | refine V.cond rfl ?_ ?_) <;> intro hB <;> (try simp only [ltB_eq, leB_eq, eqB_eq, seB_eq, decide_eq_true_eq, decide_eq_false_iff_not, Bool.not_eq_true', Bool.not_eq_false', Bool.not_eq_true, Bool.not_eq_false] at hB) <;> (try (exfalso; first | omega | exact hB trivial))))
  all_goals refine V.ret hk FuncT.h rfl ⟨retB ?_, hl1⟩
  all_goals (clear hk; unfold privB; simp_all)
theorem privNot_fn (p : Priv) (hp : p.Fit) (h : SX.H) : Gives P e 96 [.agg ⟨encPriv p⟩] h (fun v h' => v = .bool (!privB p) ∧ HLe h h') := by
  refine V.body FuncT.h rfl ?_
  intro c y xs hk
  repeat' (first
    | refine V.ctl rfl ?_
    | (refine V.on rfl ?_; first | refine V.easy rfl rfl ?_ | refine V.val (x_lenS rfl StringT.h (E.l rfl)) rfl ?_ | refine V.val (x_lenL rfl SliceT.u (E.l rfl)) rfl ?_ | refine V.val (x_fld rfl FieldT.h (E.l rfl)) rfl ?_ | refine V.val (x_idxAT rfl (E.l rfl) (E.l rfl) (by omega)) rfl ?_ | refine V.val (x_load rfl (E.l rfl) ScalarT.a (by first | assumption | exact (Own.cell (by assumption) _).trans rfl)) rfl ?_ | refine V.val (x_loadA rfl (E.l rfl) AggT.a AggT.z (by first | assumption | exact Own.loadAll (by assumption) rfl)) rfl ?_ | refine V.val (x_idxS rfl StringT.h (E.l rfl) (E.l rfl) (by assumption)) rfl ?_ | refine V.val (x_add rfl (E.l rfl) (E.l rfl) (by omega) (by omega)) rfl ?_ | refine V.val (x_sub rfl (E.l rfl) (E.l rfl) (by omega) (by omega)) rfl ?_ | (refine V.box rfl rfl rfl ?_; intro r1 h1 hl1 ho1 hn1 hr1 hf1) | (refine V.call (x_call rfl FuncT.ok (E.s rfl)) rfl (priv_fn p hp _) ?_; rintro v h2 ⟨rfl, hl2⟩) | skip)
    | (refine VP.on rfl rfl ?_; first | refine VP.easy rfl rfl rfl rfl rfl ?_ | refine VP.v (x_lenS rfl StringT.h (E.l rfl)) rfl rfl rfl rfl ?_ | refine VP.v (x_lenL rfl SliceT.u (E.l rfl)) rfl rfl rfl rfl ?_ | refine VP.v (x_fld rfl FieldT.h (E.l rfl)) rfl rfl rfl rfl ?_ | refine VP.v (x_idxAT rfl (E.l rfl) (E.l rfl) (by omega)) rfl rfl rfl rfl ?_ | refine VP.v (x_load rfl (E.l rfl) ScalarT.a (by first | assumption | exact (Own.cell (by assumption) _).trans rfl)) rfl rfl rfl rfl ?_ | refine VP.v (x_loadA rfl (E.l rfl) AggT.a AggT.z (by first | assumption | exact Own.loadAll (by assumption) rfl)) rfl rfl rfl rfl ?_ | refine VP.v (x_idxS rfl StringT.h (E.l rfl) (E.l rfl) (by assumption)) rfl rfl rfl rfl ?_ | refine VP.v (x_add rfl (E.l rfl) (E.l rfl) (by omega) (by omega)) rfl rfl rfl rfl ?_ | refine VP.v (x_sub rfl (E.l rfl) (E.l rfl) (by omega) (by omega)) rfl rfl rfl rfl ?_ | (refine V.box rfl rfl rfl ?_; intro r1 h1 hl1 ho1 hn1 hr1 hf1) | (refine V.call (x_call rfl FuncT.ok (E.s rfl)) rfl (priv_fn p hp _) ?_; rintro v h2 ⟨rfl, hl2⟩) | skip)
    | refine WP.nil ?_
    | refine V.not rfl rfl ?_
    | refine VP.not rfl rfl rfl ?_
    | ((first | refine V.split rfl rfl rfl rfl ?_ ?_ | refine VP.split hpk rfl rfl rfl rfl rfl ?_ ?_ | refine V.cond rfl ?_ ?_) <;> intro hB <;> (try simp only [ltB_eq, leB_eq, eqB_eq, seB_eq, decide_eq_true_eq, decide_eq_false_iff_not, Bool.not_eq_true', Bool.not_eq_false', Bool.not_eq_true, Bool.not_eq_false] at hB) <;> (try (exfalso; first | omega | exact hB trivial))))
  exact V.ret hk FuncT.h rfl ⟨rfl, hl1.trans hl2⟩
end Go.Proofs.YtladhpocefnkjaaGreatDoor
