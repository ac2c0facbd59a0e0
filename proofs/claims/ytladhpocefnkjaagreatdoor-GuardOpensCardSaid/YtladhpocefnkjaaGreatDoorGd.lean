/-
  The function GuardOpens returns true; no condition.
-/
import Derived.Test.YtladhpocefnkjaaGreatDoorGc
namespace Go.Proofs.YtladhpocefnkjaaGreatDoor
open Go Go.SX
variable {P : Program} {e : E} [GEnv e]
theorem Sl.ok {α : Type} {h : SX.H} {enc : α → List Value} {z : Nat} {v : Value} {l : List α} (hs : Sl h enc z v l) : sliceOk v h = true := by
  rcases hs with ⟨cp, rfl, _⟩ | ⟨r, off, cp, rfl, _, _, q, _⟩
  · rfl
  · exact slice_ok q
def headIs (id : Nat) : Code → Bool
  | .region i _ _ => Nat.beq i id
  | .seq a _ => headIs id a
  | _ => false
def tailFrom (id : Nat) : Code → Code
  | .seq a b => bif headIs id a then .seq a b else tailFrom id b
  | c => c
def lft : Code → Code
  | .seq a _ => a
  | c => c
def rgt : Code → Code
  | .seq _ b => b
  | c => c
noncomputable def c14 : Code := tailFrom 14 (match Tryz.f3.body with | some b => b | none => .skip)
def OpenQ (l : List Priv) (d : Deed) (h : SX.H) (v : Value) (h' : SX.H) : Prop :=
  HLe h h' ∧ ((callB d = true ∧ v = .tuple ⟨[.bool (openB l d), .int .i64 (ixF (closedB d) l 0), .int .i64 0]⟩) ∨ (callB d = false ∧ v = .tuple ⟨[.bool false, .int .i64 0, .int .i64 1]⟩))
theorem open_fn' (l : List Priv) (rg : Nat) (d : Deed) (h : SX.H) (hg : GuardIn h rg l) (nl : l.length ≤ 140737488351232) (hd : DeedIn h d) :
    Gives P e 12 [.pointer (some ⟨rg, 0, none⟩), .agg ⟨encDeed d⟩] h (OpenQ l d h) := (open_fn l rg d h hg nl hd).mono fun v h' q => by
  refine ⟨q.2, ?_⟩
  cases hc : callB d with
  | true => exact .inl ⟨rfl, by rw [q.1, openV, if_pos hc]⟩
  | false => exact .inr ⟨rfl, by rw [q.1, openV, if_neg (by rw [hc]; simp)]⟩
theorem ix_neg {α : Type} {p : α → Bool} {l : List α} : decide (ixF p l 0 < 0) = !l.any p := by
  rw [← ixF_any (l := l) (p := p) (n := 0), Bool.eq_iff_iff]; simp
theorem open_less {l m : List Priv} {d : Deed} (h : openB (l ++ m) d = true) : openB l d = true := by
  simp only [openB, ix_neg, Bool.not_eq_true', List.any_append, Bool.or_eq_false_iff] at h ⊢
  exact h.1
theorem one_own {r : Nat} {h : SX.H} {one : Priv} {cs : List Value} (ho : Own h r cs) (hr : r < h.n) (hcs : cs = encPriv one) : Sl h encPriv 3 (.slice (some ⟨r, 0, some 3⟩) 1 (capE 1)) [one] := by
  subst hcs
  exact .inr ⟨r, 0, capE 1, rfl, Own.loadAll ho rfl, fun x _ => rfl, hr, by rw [capLo_E]; exact Nat.le_refl _⟩
theorem deed_one {h : SX.H} {d : Deed} (hd : DeedIn h d) : allOne (vcells (.agg ⟨encDeed d⟩)) = true := by
  obtain ⟨_, q1, _⟩ := hd.names.isSl
  obtain ⟨_, q2, _⟩ := hd.row.isSl
  obtain ⟨_, q3, _⟩ := hd.keys.isSl
  show allOne (encDeed d) = true
  simp only [encDeed, allOne, q1, q2, q3, Bool.and_true]; rfl
theorem Apart.grow' {h h' : SX.H} {v : Value} {r z n0 : Nat} (ha : Apart h v r) (hs : OwnS z n0 h v) (hl : HLe h h') : Apart h' v r := by
  intro b off sp n cp k q hk
  rcases hs with ⟨cp', w⟩ | ⟨g, r1, off1, n1, cp1, k1, cs, q1, q2, q3, q4, q5, q6, q7⟩
  · rw [q] at w; cases w
  · rw [q] at q1; cases q1
    have := hl.b _ _ q2
    rw [this] at hk; cases hk
    exact ha _ off _ n cp _ q q2
theorem Apart.ne {h : SX.H} {v : Value} {b off n cp r : Nat} {sp : Option Nat} {cs : List Value} (ha : Apart h v r) (ho : Own h r cs) (q : v = .slice (some ⟨b, off, sp⟩) n cp) : b ≠ r := by
  intro w; subst w
  exact ha _ _ _ _ _ _ q ho.b rfl
theorem open_all (l : List Priv) (rg : Nat) (d : Deed) (kv : Value) (K : List ByteArray) (h : SX.H) (hg : GuardIn h rg l) (nl : l.length ≤ 140737488351232) (hd : DeedIn h { d with kv := kv, keys := K }) (hc : callB d = true) (hn : K.length ≤ 20) (hv : ∀ x, x ∈ K → keyB (bl x) = true) (hK : ∀ p, p ∈ l → hasB K p.key = true) :
    Gives P e 12 [.pointer (some ⟨rg, 0, none⟩), .agg ⟨encDeed { d with kv := kv, keys := K }⟩] h (fun v h' => HLe h h' ∧ v = .tuple ⟨[.bool true, .int .i64 (-1), .int .i64 0]⟩) := (open_fn' l rg { d with kv := kv, keys := K } h hg nl hd).mono fun v h' q => by
  obtain ⟨q1, (⟨q2, rfl⟩ | ⟨q2, rfl⟩)⟩ := q
  · refine ⟨q1, ?_⟩
    have e1 : ixF (closedB { d with kv := kv, keys := K }) l 0 = -1 := all_keys hK
    have e2 : openB l { d with kv := kv, keys := K } = true := by simp only [openB, e1]; decide
    rw [e1, e2]
  · rw [all_call hc hn hv] at q2; cases q2
def toLoop : Nat → List AIt → List AIt
  | n + 1, .code (.seq a b) :: k => toLoop n (.code a :: .code b :: k)
  | n + 1, .code (.block id b) :: k => toLoop n (.code b :: .inBlock id :: k)
  | n + 1, .code (.scope b) :: k => toLoop n (.code b :: .inScope b :: k)
  | _ + 1, .code (.loop b) :: k => .code (.loop b) :: k
  | n + 1, _ :: k => toLoop n k
  | _, k => k
noncomputable def kLoop : List AIt := toLoop 60 [.code (rgt (lft c14)), .code (rgt c14)]
set_option maxHeartbeats 2000000 in
theorem opens_loop (haw : ∀ h, Gives P e 10 [] h (fun u h' => u = .bool true ∧ h' = h)) {c : Ctx P e} {ys : List AFr} (l : List Priv) (la : Option Addr) (lc : Nat) (d : Deed) (h1 hI : SX.H) (rg r22 : Nat)
    (hk : SX.Leaves c 3 ys (fun v _ => v = .bool true))
    (hf : Fresh h1) (sl : Sl h1 encPriv 3 (.slice la l.length lc) l) (nl : l.length ≤ 59) (ha : askedB l = 0) (hd : DeedIn h1 d) (hcall : callB d = true) (hg : GuardIn h1 rg l)
    (hn1 : h1.n ≤ r22) (hrI : r22 < hI.n) (hl1I : HLe h1 hI) (hoI : Own hI r22 (encDeed { d with kv := .slice none 0 0, keys := [] })) :
    W c (S 3 Tryz.f3.ntmps (sk [(0, .slice la l.length lc), (9, .pointer (some ⟨rg, 0, none⟩)), (22, .pointer (some ⟨r22, 0, none⟩)), (23, .int .i64 0)]) kLoop [] .normal none ys hI) := by
  show W c (S 3 Tryz.f3.ntmps (sk _) (.code (.loop _) :: _) [] .normal none ys hI)
  refine V.rounds (α := Nat × Value × List ByteArray) (fun a => l.length - a.1) (fun a => [(0, .slice la l.length lc), (9, .pointer (some ⟨rg, 0, none⟩)), (22, .pointer (some ⟨r22, 0, none⟩)), (23, .int .i64 (a.1 : Nat))])
    (fun a h' => a.1 ≤ l.length ∧ HLe h1 h' ∧ Own h' r22 (encDeed { d with kv := a.2.1, keys := a.2.2 }) ∧ Sl h' encS 1 a.2.1 a.2.2 ∧ OwnS 1 h1.n h' a.2.1 ∧ Apart h' a.2.1 r22 ∧ a.2.2.length ≤ a.1 ∧ (∀ p, p ∈ l.take a.1 → hasB a.2.2 p.key = true) ∧ (∀ x, x ∈ a.2.2 → keyB (bl x) = true) ∧ r22 < h'.n)
    (0, .slice none 0 0, []) ⟨rfl, rfl, rfl, rfl, trivial⟩ ⟨Nat.zero_le _, hl1I, hoI, Sl.nil, OwnS.nil, Apart.nil, Nat.le_refl _, by simp, by simp, hrI⟩ ?_
  rintro ⟨i, kv, K⟩ hJ ⟨hi, hl1J, hoJ, sK, oK, aK, nK, mK, vK, hrJ⟩ ih
  simp only at hi hoJ sK oK aK nK mK vK
  obtain ⟨ka, kc, rfl, hkv⟩ := sK.view
  by_cases hlt : i < l.length
  · obtain ⟨x, hx⟩ : ∃ x, l[i]? = some x := ⟨l[i], List.getElem?_eq_getElem hlt⟩
    have hxm : x ∈ l := List.mem_of_getElem? hx
    obtain ⟨la', lc', q, hlv⟩ := sl.view
    cases q
    obtain ⟨r, off, rfl, hld0, hr0⟩ := hlv i x hx
    have hnJ := hl1J.n
    have hld := hl1J.loadAt hld0
    have c2 := loadAt_cell hld (j := 2) rfl
    have htake : l.take (i + 1) = l.take i ++ [x] := by rw [List.take_succ_eq_append_getElem hlt, (List.getElem?_eq_some_iff.1 hx).2]
    repeat' (first
    | refine V.ctl rfl ?_
    | (refine V.on rfl ?_; first | refine V.easy rfl rfl ?_ | refine V.val (x_lenS rfl StringT.h (E.l rfl)) rfl ?_ | refine V.val (x_lenL rfl SliceT.u (E.l rfl)) rfl ?_ | refine V.val (x_fld rfl FieldT.h (E.l rfl)) rfl ?_ | refine V.val (x_idxAT rfl (E.l rfl) (E.l rfl) (by omega)) rfl ?_ | refine V.val (x_load rfl (E.l rfl) ScalarT.a (by first | assumption | exact (Own.cell (by assumption) _).trans rfl)) rfl ?_ | refine V.val (x_loadA rfl (E.l rfl) AggT.a AggT.z (by first | assumption | exact Own.loadAll (by assumption) rfl)) rfl ?_ | refine V.val (x_idxS rfl StringT.h (E.l rfl) (E.l rfl) (by assumption)) rfl ?_ | refine V.val (x_add rfl (E.l rfl) (E.l rfl) (by omega) (by omega)) rfl ?_ | refine V.val (x_sub rfl (E.l rfl) (E.l rfl) (by omega) (by omega)) rfl ?_ | skip)
    | (refine VP.on rfl rfl ?_; first | refine VP.easy rfl rfl rfl rfl rfl ?_ | refine VP.v (x_lenS rfl StringT.h (E.l rfl)) rfl rfl rfl rfl ?_ | refine VP.v (x_lenL rfl SliceT.u (E.l rfl)) rfl rfl rfl rfl ?_ | refine VP.v (x_fld rfl FieldT.h (E.l rfl)) rfl rfl rfl rfl ?_ | refine VP.v (x_idxAT rfl (E.l rfl) (E.l rfl) (by omega)) rfl rfl rfl rfl ?_ | refine VP.v (x_load rfl (E.l rfl) ScalarT.a (by first | assumption | exact (Own.cell (by assumption) _).trans rfl)) rfl rfl rfl rfl ?_ | refine VP.v (x_loadA rfl (E.l rfl) AggT.a AggT.z (by first | assumption | exact Own.loadAll (by assumption) rfl)) rfl rfl rfl rfl ?_ | refine VP.v (x_idxS rfl StringT.h (E.l rfl) (E.l rfl) (by assumption)) rfl rfl rfl rfl ?_ | refine VP.v (x_add rfl (E.l rfl) (E.l rfl) (by omega) (by omega)) rfl rfl rfl rfl ?_ | refine VP.v (x_sub rfl (E.l rfl) (E.l rfl) (by omega) (by omega)) rfl rfl rfl rfl ?_ | skip)
    | refine WP.nil ?_
    | refine V.not rfl rfl ?_
    | refine VP.not rfl rfl rfl ?_
    | ((first | refine V.split rfl rfl rfl rfl ?_ ?_ | refine VP.split hpk rfl rfl rfl rfl rfl ?_ ?_ | refine V.cond rfl ?_ ?_) <;> intro hB <;> (try simp only [ltB_eq, leB_eq, eqB_eq, seB_eq, decide_eq_true_eq, decide_eq_false_iff_not, Bool.not_eq_true', Bool.not_eq_false', Bool.not_eq_true, Bool.not_eq_false] at hB) <;> (try (exfalso; first | omega | exact hB trivial))))
    (refine W.draw (pl := [.e 0, .e 1, .e 2, .e 3, .e 4, .e 5, .e 6, .x 7 false, .e 8]) (by kernel_rfl) (by kernel_rfl) ?_; intro hpk)
    repeat' (first
    | refine V.ctl rfl ?_
    | (refine V.on rfl ?_; first | refine V.easy rfl rfl ?_ | refine V.val (x_lenS rfl StringT.h (E.l rfl)) rfl ?_ | refine V.val (x_lenL rfl SliceT.u (E.l rfl)) rfl ?_ | refine V.val (x_fld rfl FieldT.h (E.l rfl)) rfl ?_ | refine V.val (x_idxAT rfl (E.l rfl) (E.l rfl) (by omega)) rfl ?_ | refine V.val (x_load rfl (E.l rfl) ScalarT.a (by first | assumption | exact (Own.cell (by assumption) _).trans rfl)) rfl ?_ | refine V.val (x_loadA rfl (E.l rfl) AggT.a AggT.z (by first | assumption | exact Own.loadAll (by assumption) rfl)) rfl ?_ | refine V.val (x_idxS rfl StringT.h (E.l rfl) (E.l rfl) (by assumption)) rfl ?_ | refine V.val (x_add rfl (E.l rfl) (E.l rfl) (by omega) (by omega)) rfl ?_ | refine V.val (x_sub rfl (E.l rfl) (E.l rfl) (by omega) (by omega)) rfl ?_ | (refine VP.val (x_load rfl (E.l rfl) ScalarT.a (by exact (Own.cell (by assumption) _).trans rfl)) rfl rfl rfl rfl (Sl.ok sK) ?_) | (refine VP.callX (x_call rfl FuncT.ok (E.s rfl)) rfl rfl (has_fn K _ x.key _ sK (by omega)) (fun v h2 q => by rw [q.2]; exact ⟨Nat.le_refl _, fun _ => HLe.refl _⟩) ?_; rintro v h1 ⟨rfl, hh⟩; replace hh := hh.symm; subst hh) | skip)
    | (refine VP.on rfl rfl ?_; first | refine VP.easy rfl rfl rfl rfl rfl ?_ | refine VP.v (x_lenS rfl StringT.h (E.l rfl)) rfl rfl rfl rfl ?_ | refine VP.v (x_lenL rfl SliceT.u (E.l rfl)) rfl rfl rfl rfl ?_ | refine VP.v (x_fld rfl FieldT.h (E.l rfl)) rfl rfl rfl rfl ?_ | refine VP.v (x_idxAT rfl (E.l rfl) (E.l rfl) (by omega)) rfl rfl rfl rfl ?_ | refine VP.v (x_load rfl (E.l rfl) ScalarT.a (by first | assumption | exact (Own.cell (by assumption) _).trans rfl)) rfl rfl rfl rfl ?_ | refine VP.v (x_loadA rfl (E.l rfl) AggT.a AggT.z (by first | assumption | exact Own.loadAll (by assumption) rfl)) rfl rfl rfl rfl ?_ | refine VP.v (x_idxS rfl StringT.h (E.l rfl) (E.l rfl) (by assumption)) rfl rfl rfl rfl ?_ | refine VP.v (x_add rfl (E.l rfl) (E.l rfl) (by omega) (by omega)) rfl rfl rfl rfl ?_ | refine VP.v (x_sub rfl (E.l rfl) (E.l rfl) (by omega) (by omega)) rfl rfl rfl rfl ?_ | (refine VP.val (x_load rfl (E.l rfl) ScalarT.a (by exact (Own.cell (by assumption) _).trans rfl)) rfl rfl rfl rfl (Sl.ok sK) ?_) | (refine VP.callX (x_call rfl FuncT.ok (E.s rfl)) rfl rfl (has_fn K _ x.key _ sK (by omega)) (fun v h2 q => by rw [q.2]; exact ⟨Nat.le_refl _, fun _ => HLe.refl _⟩) ?_; rintro v h1 ⟨rfl, hh⟩; replace hh := hh.symm; subst hh) | skip)
    | refine WP.nil ?_
    | refine V.not rfl rfl ?_
    | refine VP.not rfl rfl rfl ?_
    | ((first | refine V.split rfl rfl rfl rfl ?_ ?_ | refine VP.split hpk rfl rfl rfl rfl rfl ?_ ?_ | refine V.cond rfl ?_ ?_) <;> intro hB <;> (try simp only [ltB_eq, leB_eq, eqB_eq, seB_eq, decide_eq_true_eq, decide_eq_false_iff_not, Bool.not_eq_true', Bool.not_eq_false', Bool.not_eq_true, Bool.not_eq_false] at hB) <;> (try (exfalso; first | omega | exact hB trivial))))
    · refine V.fresh fun hfJ => ?_
      (refine W.draw (pl := [.e 0, .e 1, .e 2, .e 3, .e 4, .e 5, .e 6, .e 7, .x 8 false, .e 9, .x 10 false]) (by kernel_rfl) (by kernel_rfl) ?_; intro hpk)
      repeat' (first
    | refine V.ctl rfl ?_
    | (refine V.on rfl ?_; first | refine V.easy rfl rfl ?_ | refine V.val (x_lenS rfl StringT.h (E.l rfl)) rfl ?_ | refine V.val (x_lenL rfl SliceT.u (E.l rfl)) rfl ?_ | refine V.val (x_fld rfl FieldT.h (E.l rfl)) rfl ?_ | refine V.val (x_idxAT rfl (E.l rfl) (E.l rfl) (by omega)) rfl ?_ | refine V.val (x_load rfl (E.l rfl) ScalarT.a (by first | assumption | exact (Own.cell (by assumption) _).trans rfl)) rfl ?_ | refine V.val (x_loadA rfl (E.l rfl) AggT.a AggT.z (by first | assumption | exact Own.loadAll (by assumption) rfl)) rfl ?_ | refine V.val (x_idxS rfl StringT.h (E.l rfl) (E.l rfl) (by assumption)) rfl ?_ | refine V.val (x_add rfl (E.l rfl) (E.l rfl) (by omega) (by omega)) rfl ?_ | refine V.val (x_sub rfl (E.l rfl) (E.l rfl) (by omega) (by omega)) rfl ?_ | (refine VP.val (x_load rfl (E.l rfl) ScalarT.a (by exact (Own.cell (by assumption) _).trans rfl)) rfl rfl rfl rfl (Sl.ok sK) ?_) | skip)
    | (refine VP.on rfl rfl ?_; first | refine VP.easy rfl rfl rfl rfl rfl ?_ | refine VP.v (x_lenS rfl StringT.h (E.l rfl)) rfl rfl rfl rfl ?_ | refine VP.v (x_lenL rfl SliceT.u (E.l rfl)) rfl rfl rfl rfl ?_ | refine VP.v (x_fld rfl FieldT.h (E.l rfl)) rfl rfl rfl rfl ?_ | refine VP.v (x_idxAT rfl (E.l rfl) (E.l rfl) (by omega)) rfl rfl rfl rfl ?_ | refine VP.v (x_load rfl (E.l rfl) ScalarT.a (by first | assumption | exact (Own.cell (by assumption) _).trans rfl)) rfl rfl rfl rfl ?_ | refine VP.v (x_loadA rfl (E.l rfl) AggT.a AggT.z (by first | assumption | exact Own.loadAll (by assumption) rfl)) rfl rfl rfl rfl ?_ | refine VP.v (x_idxS rfl StringT.h (E.l rfl) (E.l rfl) (by assumption)) rfl rfl rfl rfl ?_ | refine VP.v (x_add rfl (E.l rfl) (E.l rfl) (by omega) (by omega)) rfl rfl rfl rfl ?_ | refine VP.v (x_sub rfl (E.l rfl) (E.l rfl) (by omega) (by omega)) rfl rfl rfl rfl ?_ | (refine VP.val (x_load rfl (E.l rfl) ScalarT.a (by exact (Own.cell (by assumption) _).trans rfl)) rfl rfl rfl rfl (Sl.ok sK) ?_) | skip)
    | refine WP.nil ?_
    | refine V.not rfl rfl ?_
    | refine VP.not rfl rfl rfl ?_
    | ((first | refine V.split rfl rfl rfl rfl ?_ ?_ | refine VP.split hpk rfl rfl rfl rfl rfl ?_ ?_ | refine V.cond rfl ?_ ?_) <;> intro hB <;> (try simp only [ltB_eq, leB_eq, eqB_eq, seB_eq, decide_eq_true_eq, decide_eq_false_iff_not, Bool.not_eq_true', Bool.not_eq_false', Bool.not_eq_true, Bool.not_eq_false] at hB) <;> (try (exfalso; first | omega | exact hB trivial))))
      refine VP.fresh (xf_bslice rfl (E.p rfl) rfl rfl rfl) rfl rfl rfl (by first | rfl | exact veqL_self _ rfl) ?_
      have hlM : HLe hJ (hJ.new (.cells [.string x.key])) := HLe.new hfJ _
      have hoM : Own (hJ.new (.cells [.string x.key])) hJ.n [.string x.key] := Own.new hfJ _
      have hfM : Fresh (hJ.new (.cells [.string x.key])) := Fresh.new hfJ _
      have hrM : hJ.n < (hJ.new (.cells [.string x.key])).n := Nat.lt_succ_self _
      change WP c 3 _ _ _ _ _ _ _ _ (sk ((135, .slice (some ⟨hJ.n, 0, some 1⟩) 1 (capE 1)) :: _)) (hJ.new (.cells [.string x.key]))
      generalize hJ.new (.cells [.string x.key]) = hM at *
      have sM : Sl hM encS 1 (.slice (some ⟨hJ.n, 0, some 1⟩) 1 (capE 1)) [x.key] := .inr ⟨hJ.n, 0, capE 1, rfl, Own.loadAll (n := 1) hoM rfl, fun x _ => rfl, hrM, by rw [capLo_E]; exact Nat.le_refl _⟩
      refine VP.on rfl rfl ?_
      refine VP.append (n0 := h1.n) rfl rfl rfl rfl rfl (sK.grow hlM) sM hfM (Nat.le_trans hl1J.n hlM.n) (oK.grow hfJ hlM) (fun _ => rfl) (by simp only [List.length_cons, List.length_nil]; omega) (by simp only [List.length_cons, List.length_nil]; omega) (fun q => by cases q) ?_
      intro vN hN apN
      have hl1N : HLe h1 hN := apN.le h1 (hl1J.trans hlM) hf (Nat.le_refl _)
      obtain ⟨hoN, aN⟩ := apN.apart r22 _ (by omega) (hoJ.grow hfJ hlM) (Apart.grow' aK oK hlM)
      obtain ⟨vv1, vv2, vv3⟩ := apN.sl.isSl
      have hnN := apN.n
      repeat' (first
    | refine V.ctl rfl ?_
    | (refine V.on rfl ?_; first | refine V.easy rfl rfl ?_ | refine V.val (x_lenS rfl StringT.h (E.l rfl)) rfl ?_ | refine V.val (x_lenL rfl SliceT.u (E.l rfl)) rfl ?_ | refine V.val (x_fld rfl FieldT.h (E.l rfl)) rfl ?_ | refine V.val (x_idxAT rfl (E.l rfl) (E.l rfl) (by omega)) rfl ?_ | refine V.val (x_load rfl (E.l rfl) ScalarT.a (by first | assumption | exact (Own.cell (by assumption) _).trans rfl)) rfl ?_ | refine V.val (x_loadA rfl (E.l rfl) AggT.a AggT.z (by first | assumption | exact Own.loadAll (by assumption) rfl)) rfl ?_ | refine V.val (x_idxS rfl StringT.h (E.l rfl) (E.l rfl) (by assumption)) rfl ?_ | refine V.val (x_add rfl (E.l rfl) (E.l rfl) (by omega) (by omega)) rfl ?_ | refine V.val (x_sub rfl (E.l rfl) (E.l rfl) (by omega) (by omega)) rfl ?_ | skip)
    | (refine VP.on rfl rfl ?_; first | refine VP.easy rfl rfl rfl rfl rfl ?_ | refine VP.v (x_lenS rfl StringT.h (E.l rfl)) rfl rfl rfl rfl ?_ | refine VP.v (x_lenL rfl SliceT.u (E.l rfl)) rfl rfl rfl rfl ?_ | refine VP.v (x_fld rfl FieldT.h (E.l rfl)) rfl rfl rfl rfl ?_ | refine VP.v (x_idxAT rfl (E.l rfl) (E.l rfl) (by omega)) rfl rfl rfl rfl ?_ | refine VP.v (x_load rfl (E.l rfl) ScalarT.a (by first | assumption | exact (Own.cell (by assumption) _).trans rfl)) rfl rfl rfl rfl ?_ | refine VP.v (x_loadA rfl (E.l rfl) AggT.a AggT.z (by first | assumption | exact Own.loadAll (by assumption) rfl)) rfl rfl rfl rfl ?_ | refine VP.v (x_idxS rfl StringT.h (E.l rfl) (E.l rfl) (by assumption)) rfl rfl rfl rfl ?_ | refine VP.v (x_add rfl (E.l rfl) (E.l rfl) (by omega) (by omega)) rfl rfl rfl rfl ?_ | refine VP.v (x_sub rfl (E.l rfl) (E.l rfl) (by omega) (by omega)) rfl rfl rfl rfl ?_ | skip)
    | refine WP.nil ?_
    | refine V.not rfl rfl ?_
    | refine VP.not rfl rfl rfl ?_
    | ((first | refine V.split rfl rfl rfl rfl ?_ ?_ | refine VP.split hpk rfl rfl rfl rfl rfl ?_ ?_ | refine V.cond rfl ?_ ?_) <;> intro hB <;> (try simp only [ltB_eq, leB_eq, eqB_eq, seB_eq, decide_eq_true_eq, decide_eq_false_iff_not, Bool.not_eq_true', Bool.not_eq_false', Bool.not_eq_true, Bool.not_eq_false] at hB) <;> (try (exfalso; first | omega | exact hB trivial))))
      refine VP.storeG rfl rfl rfl rfl ScalarT.z (by rw [vv1]; rfl) hoN (Nat.le_refl _) (by rw [vv1]; simp only [allOne, vv2]; rfl) rfl ?_
      intro hO stO
      have hoO : Own hO r22 (encDeed { d with kv := vN, keys := K ++ [x.key] }) := by
        have q := stO.own
        rw [vv1] at q; exact q
      have sO : Sl hO encS 1 vN (K ++ [x.key]) := stO.sl _ _ _ _ apN.sl fun b off sp n cp q => Apart.ne aN hoN q
      have hnO := stO.n
      repeat' (first
    | refine V.ctl rfl ?_
    | (refine V.on rfl ?_; first | refine V.easy rfl rfl ?_ | refine V.val (x_lenS rfl StringT.h (E.l rfl)) rfl ?_ | refine V.val (x_lenL rfl SliceT.u (E.l rfl)) rfl ?_ | refine V.val (x_fld rfl FieldT.h (E.l rfl)) rfl ?_ | refine V.val (x_idxAT rfl (E.l rfl) (E.l rfl) (by omega)) rfl ?_ | refine V.val (x_load rfl (E.l rfl) ScalarT.a (by first | assumption | exact (Own.cell (by assumption) _).trans rfl)) rfl ?_ | refine V.val (x_loadA rfl (E.l rfl) AggT.a AggT.z (by first | assumption | exact Own.loadAll (by assumption) rfl)) rfl ?_ | refine V.val (x_idxS rfl StringT.h (E.l rfl) (E.l rfl) (by assumption)) rfl ?_ | refine V.val (x_add rfl (E.l rfl) (E.l rfl) (by omega) (by omega)) rfl ?_ | refine V.val (x_sub rfl (E.l rfl) (E.l rfl) (by omega) (by omega)) rfl ?_ | skip)
    | (refine VP.on rfl rfl ?_; first | refine VP.easy rfl rfl rfl rfl rfl ?_ | refine VP.v (x_lenS rfl StringT.h (E.l rfl)) rfl rfl rfl rfl ?_ | refine VP.v (x_lenL rfl SliceT.u (E.l rfl)) rfl rfl rfl rfl ?_ | refine VP.v (x_fld rfl FieldT.h (E.l rfl)) rfl rfl rfl rfl ?_ | refine VP.v (x_idxAT rfl (E.l rfl) (E.l rfl) (by omega)) rfl rfl rfl rfl ?_ | refine VP.v (x_load rfl (E.l rfl) ScalarT.a (by first | assumption | exact (Own.cell (by assumption) _).trans rfl)) rfl rfl rfl rfl ?_ | refine VP.v (x_loadA rfl (E.l rfl) AggT.a AggT.z (by first | assumption | exact Own.loadAll (by assumption) rfl)) rfl rfl rfl rfl ?_ | refine VP.v (x_idxS rfl StringT.h (E.l rfl) (E.l rfl) (by assumption)) rfl rfl rfl rfl ?_ | refine VP.v (x_add rfl (E.l rfl) (E.l rfl) (by omega) (by omega)) rfl rfl rfl rfl ?_ | refine VP.v (x_sub rfl (E.l rfl) (E.l rfl) (by omega) (by omega)) rfl rfl rfl rfl ?_ | skip)
    | refine WP.nil ?_
    | refine V.not rfl rfl ?_
    | refine VP.not rfl rfl rfl ?_
    | ((first | refine V.split rfl rfl rfl rfl ?_ ?_ | refine VP.split hpk rfl rfl rfl rfl rfl ?_ ?_ | refine V.cond rfl ?_ ?_) <;> intro hB <;> (try simp only [ltB_eq, leB_eq, eqB_eq, seB_eq, decide_eq_true_eq, decide_eq_false_iff_not, Bool.not_eq_true', Bool.not_eq_false', Bool.not_eq_true, Bool.not_eq_false] at hB) <;> (try (exfalso; first | omega | exact hB trivial))))
      refine ih (i + 1, vN, K ++ [x.key]) _ _ (by show l.length - (i + 1) < l.length - i; omega) ⟨hlt, stO.le h1 hl1N hn1 hf, hoO, sO, stO.ownS _ _ _ apN.own aN, stO.apart _ _ aN, ?_, ?_, ?_, by omega⟩ ⟨rfl, rfl, rfl, rfl, trivial⟩
      · simp only [List.length_append, List.length_cons, List.length_nil]; omega
      · intro p hp
        rw [htake] at hp
        simp only [hasB, List.any_append, Bool.or_eq_true]
        rcases List.mem_append.1 hp with q | q
        · left; exact mK p q
        · right; simp only [List.mem_singleton] at q; rw [q]; simp
      · intro y hy
        rcases List.mem_append.1 hy with q | q
        · exact vK y q
        · simp only [List.mem_singleton] at q; rw [q]; exact asked_keys ha x hxm
    · refine ih (i + 1, .slice ka K.length kc, K) _ _ (by show l.length - (i + 1) < l.length - i; omega) ⟨hlt, hl1J, hoJ, sK, oK, aK, Nat.le_succ_of_le nK, ?_, vK, hrJ⟩ ⟨rfl, rfl, rfl, rfl, trivial⟩
      intro p hp
      rw [htake] at hp
      rcases List.mem_append.1 hp with q | q
      · exact mK p q
      · simp only [List.mem_singleton] at q; rw [q]; exact hB
  · have hil : i = l.length := by omega
    subst hil
    rw [List.take_length] at mK
    have hnJ := hl1J.n
    repeat' (first
    | refine V.ctl rfl ?_
    | (refine V.on rfl ?_; first | refine V.easy rfl rfl ?_ | refine V.val (x_lenS rfl StringT.h (E.l rfl)) rfl ?_ | refine V.val (x_lenL rfl SliceT.u (E.l rfl)) rfl ?_ | refine V.val (x_fld rfl FieldT.h (E.l rfl)) rfl ?_ | refine V.val (x_idxAT rfl (E.l rfl) (E.l rfl) (by omega)) rfl ?_ | refine V.val (x_load rfl (E.l rfl) ScalarT.a (by first | assumption | exact (Own.cell (by assumption) _).trans rfl)) rfl ?_ | refine V.val (x_loadA rfl (E.l rfl) AggT.a AggT.z (by first | assumption | exact Own.loadAll (by assumption) rfl)) rfl ?_ | refine V.val (x_idxS rfl StringT.h (E.l rfl) (E.l rfl) (by assumption)) rfl ?_ | refine V.val (x_add rfl (E.l rfl) (E.l rfl) (by omega) (by omega)) rfl ?_ | refine V.val (x_sub rfl (E.l rfl) (E.l rfl) (by omega) (by omega)) rfl ?_ | skip)
    | (refine VP.on rfl rfl ?_; first | refine VP.easy rfl rfl rfl rfl rfl ?_ | refine VP.v (x_lenS rfl StringT.h (E.l rfl)) rfl rfl rfl rfl ?_ | refine VP.v (x_lenL rfl SliceT.u (E.l rfl)) rfl rfl rfl rfl ?_ | refine VP.v (x_fld rfl FieldT.h (E.l rfl)) rfl rfl rfl rfl ?_ | refine VP.v (x_idxAT rfl (E.l rfl) (E.l rfl) (by omega)) rfl rfl rfl rfl ?_ | refine VP.v (x_load rfl (E.l rfl) ScalarT.a (by first | assumption | exact (Own.cell (by assumption) _).trans rfl)) rfl rfl rfl rfl ?_ | refine VP.v (x_loadA rfl (E.l rfl) AggT.a AggT.z (by first | assumption | exact Own.loadAll (by assumption) rfl)) rfl rfl rfl rfl ?_ | refine VP.v (x_idxS rfl StringT.h (E.l rfl) (E.l rfl) (by assumption)) rfl rfl rfl rfl ?_ | refine VP.v (x_add rfl (E.l rfl) (E.l rfl) (by omega) (by omega)) rfl rfl rfl rfl ?_ | refine VP.v (x_sub rfl (E.l rfl) (E.l rfl) (by omega) (by omega)) rfl rfl rfl rfl ?_ | skip)
    | refine WP.nil ?_
    | refine V.not rfl rfl ?_
    | refine VP.not rfl rfl rfl ?_
    | ((first | refine V.split rfl rfl rfl rfl ?_ ?_ | refine VP.split hpk rfl rfl rfl rfl rfl ?_ ?_ | refine V.cond rfl ?_ ?_) <;> intro hB <;> (try simp only [ltB_eq, leB_eq, eqB_eq, seB_eq, decide_eq_true_eq, decide_eq_false_iff_not, Bool.not_eq_true', Bool.not_eq_false', Bool.not_eq_true, Bool.not_eq_false] at hB) <;> (try (exfalso; first | omega | exact hB trivial))))
    · have hdK : DeedIn hJ { d with kv := .slice ka K.length kc, keys := K } := { hd.grow hl1J with keys := sK, nk := by simp only; omega }
      refine V.call (x_call rfl FuncT.ok (E.s rfl)) rfl (open_all l rg d _ K hJ (hg.grow hl1J) (by omega) hdK hcall (by omega) vK mK) ?_
      rintro v hP ⟨hlP, rfl⟩
      repeat' (first
    | refine V.ctl rfl ?_
    | (refine V.on rfl ?_; first | refine V.easy rfl rfl ?_ | refine V.val (x_lenS rfl StringT.h (E.l rfl)) rfl ?_ | refine V.val (x_lenL rfl SliceT.u (E.l rfl)) rfl ?_ | refine V.val (x_fld rfl FieldT.h (E.l rfl)) rfl ?_ | refine V.val (x_idxAT rfl (E.l rfl) (E.l rfl) (by omega)) rfl ?_ | refine V.val (x_load rfl (E.l rfl) ScalarT.a (by first | assumption | exact (Own.cell (by assumption) _).trans rfl)) rfl ?_ | refine V.val (x_loadA rfl (E.l rfl) AggT.a AggT.z (by first | assumption | exact Own.loadAll (by assumption) rfl)) rfl ?_ | refine V.val (x_idxS rfl StringT.h (E.l rfl) (E.l rfl) (by assumption)) rfl ?_ | refine V.val (x_add rfl (E.l rfl) (E.l rfl) (by omega) (by omega)) rfl ?_ | refine V.val (x_sub rfl (E.l rfl) (E.l rfl) (by omega) (by omega)) rfl ?_ | (refine V.call (x_call rfl FuncT.ok (E.s rfl)) rfl (haw _) ?_; rintro v h1 ⟨rfl, hh⟩; replace hh := hh.symm; subst hh) | skip)
    | (refine VP.on rfl rfl ?_; first | refine VP.easy rfl rfl rfl rfl rfl ?_ | refine VP.v (x_lenS rfl StringT.h (E.l rfl)) rfl rfl rfl rfl ?_ | refine VP.v (x_lenL rfl SliceT.u (E.l rfl)) rfl rfl rfl rfl ?_ | refine VP.v (x_fld rfl FieldT.h (E.l rfl)) rfl rfl rfl rfl ?_ | refine VP.v (x_idxAT rfl (E.l rfl) (E.l rfl) (by omega)) rfl rfl rfl rfl ?_ | refine VP.v (x_load rfl (E.l rfl) ScalarT.a (by first | assumption | exact (Own.cell (by assumption) _).trans rfl)) rfl rfl rfl rfl ?_ | refine VP.v (x_loadA rfl (E.l rfl) AggT.a AggT.z (by first | assumption | exact Own.loadAll (by assumption) rfl)) rfl rfl rfl rfl ?_ | refine VP.v (x_idxS rfl StringT.h (E.l rfl) (E.l rfl) (by assumption)) rfl rfl rfl rfl ?_ | refine VP.v (x_add rfl (E.l rfl) (E.l rfl) (by omega) (by omega)) rfl rfl rfl rfl ?_ | refine VP.v (x_sub rfl (E.l rfl) (E.l rfl) (by omega) (by omega)) rfl rfl rfl rfl ?_ | (refine V.call (x_call rfl FuncT.ok (E.s rfl)) rfl (haw _) ?_; rintro v h1 ⟨rfl, hh⟩; replace hh := hh.symm; subst hh) | skip)
    | refine WP.nil ?_
    | refine V.not rfl rfl ?_
    | refine VP.not rfl rfl rfl ?_
    | ((first | refine V.split rfl rfl rfl rfl ?_ ?_ | refine VP.split hpk rfl rfl rfl rfl rfl ?_ ?_ | refine V.cond rfl ?_ ?_) <;> intro hB <;> (try simp only [ltB_eq, leB_eq, eqB_eq, seB_eq, decide_eq_true_eq, decide_eq_false_iff_not, Bool.not_eq_true', Bool.not_eq_false', Bool.not_eq_true, Bool.not_eq_false] at hB) <;> (try (exfalso; first | omega | exact hB trivial))))
      all_goals exact V.retL hk FuncT.h rfl (by rfl)
    · (refine V.call (x_call rfl FuncT.ok (E.s rfl)) rfl (haw _) ?_; rintro v h1 ⟨rfl, hh⟩; replace hh := hh.symm; subst hh)
      repeat' (first
    | refine V.ctl rfl ?_
    | (refine V.on rfl ?_; first | refine V.easy rfl rfl ?_ | refine V.val (x_lenS rfl StringT.h (E.l rfl)) rfl ?_ | refine V.val (x_lenL rfl SliceT.u (E.l rfl)) rfl ?_ | refine V.val (x_fld rfl FieldT.h (E.l rfl)) rfl ?_ | refine V.val (x_idxAT rfl (E.l rfl) (E.l rfl) (by omega)) rfl ?_ | refine V.val (x_load rfl (E.l rfl) ScalarT.a (by first | assumption | exact (Own.cell (by assumption) _).trans rfl)) rfl ?_ | refine V.val (x_loadA rfl (E.l rfl) AggT.a AggT.z (by first | assumption | exact Own.loadAll (by assumption) rfl)) rfl ?_ | refine V.val (x_idxS rfl StringT.h (E.l rfl) (E.l rfl) (by assumption)) rfl ?_ | refine V.val (x_add rfl (E.l rfl) (E.l rfl) (by omega) (by omega)) rfl ?_ | refine V.val (x_sub rfl (E.l rfl) (E.l rfl) (by omega) (by omega)) rfl ?_ | skip)
    | (refine VP.on rfl rfl ?_; first | refine VP.easy rfl rfl rfl rfl rfl ?_ | refine VP.v (x_lenS rfl StringT.h (E.l rfl)) rfl rfl rfl rfl ?_ | refine VP.v (x_lenL rfl SliceT.u (E.l rfl)) rfl rfl rfl rfl ?_ | refine VP.v (x_fld rfl FieldT.h (E.l rfl)) rfl rfl rfl rfl ?_ | refine VP.v (x_idxAT rfl (E.l rfl) (E.l rfl) (by omega)) rfl rfl rfl rfl ?_ | refine VP.v (x_load rfl (E.l rfl) ScalarT.a (by first | assumption | exact (Own.cell (by assumption) _).trans rfl)) rfl rfl rfl rfl ?_ | refine VP.v (x_loadA rfl (E.l rfl) AggT.a AggT.z (by first | assumption | exact Own.loadAll (by assumption) rfl)) rfl rfl rfl rfl ?_ | refine VP.v (x_idxS rfl StringT.h (E.l rfl) (E.l rfl) (by assumption)) rfl rfl rfl rfl ?_ | refine VP.v (x_add rfl (E.l rfl) (E.l rfl) (by omega) (by omega)) rfl rfl rfl rfl ?_ | refine VP.v (x_sub rfl (E.l rfl) (E.l rfl) (by omega) (by omega)) rfl rfl rfl rfl ?_ | skip)
    | refine WP.nil ?_
    | refine V.not rfl rfl ?_
    | refine VP.not rfl rfl rfl ?_
    | ((first | refine V.split rfl rfl rfl rfl ?_ ?_ | refine VP.split hpk rfl rfl rfl rfl rfl ?_ ?_ | refine V.cond rfl ?_ ?_) <;> intro hB <;> (try simp only [ltB_eq, leB_eq, eqB_eq, seB_eq, decide_eq_true_eq, decide_eq_false_iff_not, Bool.not_eq_true', Bool.not_eq_false', Bool.not_eq_true, Bool.not_eq_false] at hB) <;> (try (exfalso; first | omega | exact hB trivial))))
      exact V.retL hk FuncT.h rfl (by rfl)
set_option maxHeartbeats 2000000 in
theorem opens_rest (haw : ∀ h, Gives P e 10 [] h (fun u h' => u = .bool true ∧ h' = h)) {c : Ctx P e} {ys : List AFr} (l : List Priv) (la : Option Addr) (lc : Nat) (one : Priv) (d : Deed) (h h1 : SX.H) (r5 r6 rg : Nat)
    (hk : SX.Leaves c 3 ys (fun v _ => v = .bool true))
    (hl : HLe h h1) (hf : Fresh h1) (sl : Sl h1 encPriv 3 (.slice la l.length lc) l) (nl : l.length ≤ 59) (fl : ∀ x, x ∈ l → x.Fit) (f1 : one.Fit) (ha : askedB l = 0) (hd : DeedIn h1 d) (hcall : callB d = true) (ho5 : Own h1 r5 (encPriv one)) (ho6 : Own h1 r6 (encDeed d)) (hg : GuardIn h1 rg l) :
    W c (S 3 Tryz.f3.ntmps (sk [(0, .slice la l.length lc), (5, .pointer (some ⟨r5, 0, none⟩)), (6, .pointer (some ⟨r6, 0, none⟩)), (9, .pointer (some ⟨rg, 0, none⟩)), (11, .bool (openB l d))]) [.code (lft (lft c14)), .code (rgt (lft c14)), .code (rgt c14)] [] .normal none ys h1) := by
  show W c (S 3 Tryz.f3.ntmps (sk _) (_ :: _) [] .normal none ys h1)
  (refine W.draw (pl := [.e 0, .e 1, .e 3, .e 4, .x 2 true, .x 5 false, .x 6 false, .e 7, .e 8, .e 9, .e 10, .e 11]) (by kernel_rfl) (by kernel_rfl) ?_; intro hpk)
  refine VP.on rfl rfl ?_
  refine VP.fresh (xf_bslice rfl (E.p rfl) rfl rfl rfl) rfl rfl rfl (by first | rfl | exact veqL_self _ rfl) ?_
  have hlA : HLe h1 (h1.new (.cells [])) := HLe.new hf _
  have hoA : Own (h1.new (.cells [])) h1.n [] := Own.new hf _
  have hfA : Fresh (h1.new (.cells [])) := Fresh.new hf _
  have ho5A := ho5.grow hf hlA
  have slA := sl.grow hlA
  change WP c 3 _ _ _ _ _ _ _ _ (sk ((88, .slice (some ⟨h1.n, 0, some 3⟩) 0 (capE 0)) :: _)) (h1.new (.cells []))
  have hrA : h1.n < (h1.new (.cells [])).n := Nat.lt_succ_self _
  generalize h1.new (.cells []) = hA at *
  repeat' (first
    | refine V.ctl rfl ?_
    | (refine V.on rfl ?_; first | refine V.easy rfl rfl ?_ | refine V.val (x_lenS rfl StringT.h (E.l rfl)) rfl ?_ | refine V.val (x_lenL rfl SliceT.u (E.l rfl)) rfl ?_ | refine V.val (x_fld rfl FieldT.h (E.l rfl)) rfl ?_ | refine V.val (x_idxAT rfl (E.l rfl) (E.l rfl) (by omega)) rfl ?_ | refine V.val (x_load rfl (E.l rfl) ScalarT.a (by first | assumption | exact (Own.cell (by assumption) _).trans rfl)) rfl ?_ | refine V.val (x_loadA rfl (E.l rfl) AggT.a AggT.z (by first | assumption | exact Own.loadAll (by assumption) rfl)) rfl ?_ | refine V.val (x_idxS rfl StringT.h (E.l rfl) (E.l rfl) (by assumption)) rfl ?_ | refine V.val (x_add rfl (E.l rfl) (E.l rfl) (by omega) (by omega)) rfl ?_ | refine V.val (x_sub rfl (E.l rfl) (E.l rfl) (by omega) (by omega)) rfl ?_ | (refine VP.val (x_move rfl (E.l rfl)) rfl rfl rfl rfl (Sl.ok slA) ?_) | skip)
    | (refine VP.on rfl rfl ?_; first | refine VP.easy rfl rfl rfl rfl rfl ?_ | refine VP.v (x_lenS rfl StringT.h (E.l rfl)) rfl rfl rfl rfl ?_ | refine VP.v (x_lenL rfl SliceT.u (E.l rfl)) rfl rfl rfl rfl ?_ | refine VP.v (x_fld rfl FieldT.h (E.l rfl)) rfl rfl rfl rfl ?_ | refine VP.v (x_idxAT rfl (E.l rfl) (E.l rfl) (by omega)) rfl rfl rfl rfl ?_ | refine VP.v (x_load rfl (E.l rfl) ScalarT.a (by first | assumption | exact (Own.cell (by assumption) _).trans rfl)) rfl rfl rfl rfl ?_ | refine VP.v (x_loadA rfl (E.l rfl) AggT.a AggT.z (by first | assumption | exact Own.loadAll (by assumption) rfl)) rfl rfl rfl rfl ?_ | refine VP.v (x_idxS rfl StringT.h (E.l rfl) (E.l rfl) (by assumption)) rfl rfl rfl rfl ?_ | refine VP.v (x_add rfl (E.l rfl) (E.l rfl) (by omega) (by omega)) rfl rfl rfl rfl ?_ | refine VP.v (x_sub rfl (E.l rfl) (E.l rfl) (by omega) (by omega)) rfl rfl rfl rfl ?_ | (refine VP.val (x_move rfl (E.l rfl)) rfl rfl rfl rfl (Sl.ok slA) ?_) | skip)
    | refine WP.nil ?_
    | refine V.not rfl rfl ?_
    | refine VP.not rfl rfl rfl ?_
    | ((first | refine V.split rfl rfl rfl rfl ?_ ?_ | refine VP.split hpk rfl rfl rfl rfl rfl ?_ ?_ | refine V.cond rfl ?_ ?_) <;> intro hB <;> (try simp only [ltB_eq, leB_eq, eqB_eq, seB_eq, decide_eq_true_eq, decide_eq_false_iff_not, Bool.not_eq_true', Bool.not_eq_false', Bool.not_eq_true, Bool.not_eq_false] at hB) <;> (try (exfalso; first | omega | exact hB trivial))))
  refine VP.fresh (xf_bslice rfl (E.p rfl) rfl rfl rfl) rfl rfl rfl (by first | rfl | exact veqL_self _ rfl) ?_
  have hlB : HLe hA (hA.new (.cells (encPriv one))) := HLe.new hfA _
  have hoB : Own (hA.new (.cells (encPriv one))) hA.n (encPriv one) := Own.new hfA _
  have hfB : Fresh (hA.new (.cells (encPriv one))) := Fresh.new hfA _
  have hoAB := hoA.grow hfA hlB
  have hrB : hA.n < (hA.new (.cells (encPriv one))).n := Nat.lt_succ_self _
  change WP c 3 _ _ _ _ _ _ _ _ (sk ((92, .slice (some ⟨hA.n, 0, some 3⟩) 1 (capE 1)) :: _)) (hA.new (.cells (encPriv one)))
  generalize hA.new (.cells (encPriv one)) = hB at *
  refine VP.on rfl rfl ?_
  refine VP.appendFull (enc := encPriv) (l := ([] : List Priv)) (m := l) (n0 := h1.n) rfl rfl rfl rfl rfl hoAB rfl (fun w hw => absurd hw (List.not_mem_nil)) (sl.grow (hlA.trans hlB)) hfB (Nat.le_refl _) (fun _ => rfl) (by simp only [List.length_nil]; omega) (by simp only [List.length_nil]; omega) ?_
  intro v90 hC sC hlC hfC owC
  have hlAC := (hlA.trans hlB).trans hlC
  have s92 := (one_own hoB hrB rfl).grow hlC
  refine VP.on rfl rfl ?_
  refine VP.append (n0 := h1.n) rfl rfl rfl rfl rfl sC s92 hfC hlAC.n owC (fun _ => rfl) (by simp only [List.length_cons, List.length_nil, List.length_append]; omega) (by simp only [List.length_cons, List.length_nil, List.length_append]; omega) (fun q => by cases q) ?_
  intro v93 hD apD
  have hl1D : HLe h1 hD := apD.le h1 hlAC hf (Nat.le_refl _)
  have slD : Sl hD encPriv 3 v93 (l ++ [one]) := by simpa using apD.sl
  have fl1 : ∀ x, x ∈ l ++ [one] → x.Fit := by
    intro x hx
    rcases List.mem_append.1 hx with q | q
    · exact fl x q
    · simp only [List.mem_singleton] at q; rw [q]; exact f1
  refine VP.on rfl rfl ?_
  refine VP.callX (x_call rfl FuncT.ok (E.s rfl)) rfl rfl (new_fn (l ++ [one]) _ _ slD (.inl (by simp only [List.length_cons, List.length_nil, List.length_append]; omega)) (by simp only [List.length_cons, List.length_nil, List.length_append]; omega) fl1) (fun v h2 q => ⟨q.1.n, fun _ => q.1⟩) ?_
  rintro v hE ⟨hlE, (⟨hne, rfl⟩ | ⟨hz, rg2, rfl, hg2⟩)⟩
  all_goals
    have hl1E := hl1D.trans hlE
    have ho6E := ho6.grow hf hl1E
  · repeat' (first
    | refine V.ctl rfl ?_
    | (refine V.on rfl ?_; first | refine V.easy rfl rfl ?_ | refine V.val (x_lenS rfl StringT.h (E.l rfl)) rfl ?_ | refine V.val (x_lenL rfl SliceT.u (E.l rfl)) rfl ?_ | refine V.val (x_fld rfl FieldT.h (E.l rfl)) rfl ?_ | refine V.val (x_idxAT rfl (E.l rfl) (E.l rfl) (by omega)) rfl ?_ | refine V.val (x_load rfl (E.l rfl) ScalarT.a (by first | assumption | exact (Own.cell (by assumption) _).trans rfl)) rfl ?_ | refine V.val (x_loadA rfl (E.l rfl) AggT.a AggT.z (by first | assumption | exact Own.loadAll (by assumption) rfl)) rfl ?_ | refine V.val (x_idxS rfl StringT.h (E.l rfl) (E.l rfl) (by assumption)) rfl ?_ | refine V.val (x_add rfl (E.l rfl) (E.l rfl) (by omega) (by omega)) rfl ?_ | refine V.val (x_sub rfl (E.l rfl) (E.l rfl) (by omega) (by omega)) rfl ?_ | skip)
    | (refine VP.on rfl rfl ?_; first | refine VP.easy rfl rfl rfl rfl rfl ?_ | refine VP.v (x_lenS rfl StringT.h (E.l rfl)) rfl rfl rfl rfl ?_ | refine VP.v (x_lenL rfl SliceT.u (E.l rfl)) rfl rfl rfl rfl ?_ | refine VP.v (x_fld rfl FieldT.h (E.l rfl)) rfl rfl rfl rfl ?_ | refine VP.v (x_idxAT rfl (E.l rfl) (E.l rfl) (by omega)) rfl rfl rfl rfl ?_ | refine VP.v (x_load rfl (E.l rfl) ScalarT.a (by first | assumption | exact (Own.cell (by assumption) _).trans rfl)) rfl rfl rfl rfl ?_ | refine VP.v (x_loadA rfl (E.l rfl) AggT.a AggT.z (by first | assumption | exact Own.loadAll (by assumption) rfl)) rfl rfl rfl rfl ?_ | refine VP.v (x_idxS rfl StringT.h (E.l rfl) (E.l rfl) (by assumption)) rfl rfl rfl rfl ?_ | refine VP.v (x_add rfl (E.l rfl) (E.l rfl) (by omega) (by omega)) rfl rfl rfl rfl ?_ | refine VP.v (x_sub rfl (E.l rfl) (E.l rfl) (by omega) (by omega)) rfl rfl rfl rfl ?_ | skip)
    | refine WP.nil ?_
    | refine V.not rfl rfl ?_
    | refine VP.not rfl rfl rfl ?_
    | ((first | refine V.split rfl rfl rfl rfl ?_ ?_ | refine VP.split hpk rfl rfl rfl rfl rfl ?_ ?_ | refine V.cond rfl ?_ ?_) <;> intro hB <;> (try simp only [ltB_eq, leB_eq, eqB_eq, seB_eq, decide_eq_true_eq, decide_eq_false_iff_not, Bool.not_eq_true', Bool.not_eq_false', Bool.not_eq_true, Bool.not_eq_false] at hB) <;> (try (exfalso; first | omega | exact hB trivial))))
    all_goals
      refine V.alloc rfl rfl ?_
      intro r22 hG hlG hoG hnG hrG hfG
      have hl1G : HLe h1 hG := by first | exact (hl1E.trans hlF).trans hlG | exact hl1E.trans hlG
      have hn1G : h1.n ≤ r22 := by first | (have := (hl1E.trans hlF).n; omega) | (have := hl1E.n; omega)
      have ho6G := ho6.grow hf hl1G
      clear ho6E
      repeat' (first
    | refine V.ctl rfl ?_
    | (refine V.on rfl ?_; first | refine V.easy rfl rfl ?_ | refine V.val (x_lenS rfl StringT.h (E.l rfl)) rfl ?_ | refine V.val (x_lenL rfl SliceT.u (E.l rfl)) rfl ?_ | refine V.val (x_fld rfl FieldT.h (E.l rfl)) rfl ?_ | refine V.val (x_idxAT rfl (E.l rfl) (E.l rfl) (by omega)) rfl ?_ | refine V.val (x_load rfl (E.l rfl) ScalarT.a (by first | assumption | exact (Own.cell (by assumption) _).trans rfl)) rfl ?_ | refine V.val (x_loadA rfl (E.l rfl) AggT.a AggT.z (by first | assumption | exact Own.loadAll (by assumption) rfl)) rfl ?_ | refine V.val (x_idxS rfl StringT.h (E.l rfl) (E.l rfl) (by assumption)) rfl ?_ | refine V.val (x_add rfl (E.l rfl) (E.l rfl) (by omega) (by omega)) rfl ?_ | refine V.val (x_sub rfl (E.l rfl) (E.l rfl) (by omega) (by omega)) rfl ?_ | skip)
    | (refine VP.on rfl rfl ?_; first | refine VP.easy rfl rfl rfl rfl rfl ?_ | refine VP.v (x_lenS rfl StringT.h (E.l rfl)) rfl rfl rfl rfl ?_ | refine VP.v (x_lenL rfl SliceT.u (E.l rfl)) rfl rfl rfl rfl ?_ | refine VP.v (x_fld rfl FieldT.h (E.l rfl)) rfl rfl rfl rfl ?_ | refine VP.v (x_idxAT rfl (E.l rfl) (E.l rfl) (by omega)) rfl rfl rfl rfl ?_ | refine VP.v (x_load rfl (E.l rfl) ScalarT.a (by first | assumption | exact (Own.cell (by assumption) _).trans rfl)) rfl rfl rfl rfl ?_ | refine VP.v (x_loadA rfl (E.l rfl) AggT.a AggT.z (by first | assumption | exact Own.loadAll (by assumption) rfl)) rfl rfl rfl rfl ?_ | refine VP.v (x_idxS rfl StringT.h (E.l rfl) (E.l rfl) (by assumption)) rfl rfl rfl rfl ?_ | refine VP.v (x_add rfl (E.l rfl) (E.l rfl) (by omega) (by omega)) rfl rfl rfl rfl ?_ | refine VP.v (x_sub rfl (E.l rfl) (E.l rfl) (by omega) (by omega)) rfl rfl rfl rfl ?_ | skip)
    | refine WP.nil ?_
    | refine V.not rfl rfl ?_
    | refine VP.not rfl rfl rfl ?_
    | ((first | refine V.split rfl rfl rfl rfl ?_ ?_ | refine VP.split hpk rfl rfl rfl rfl rfl ?_ ?_ | refine V.cond rfl ?_ ?_) <;> intro hB <;> (try simp only [ltB_eq, leB_eq, eqB_eq, seB_eq, decide_eq_true_eq, decide_eq_false_iff_not, Bool.not_eq_true', Bool.not_eq_false', Bool.not_eq_true, Bool.not_eq_false] at hB) <;> (try (exfalso; first | omega | exact hB trivial))))
      refine V.storeG rfl rfl rfl AggT.z rfl hoG (by decide) (deed_one hd) rfl ?_
      intro hH stH
      have hoH : Own hH r22 (encDeed d) := stH.own
      have hl1H : HLe h1 hH := stH.le h1 hl1G hn1G hf
      repeat' (first
    | refine V.ctl rfl ?_
    | (refine V.on rfl ?_; first | refine V.easy rfl rfl ?_ | refine V.val (x_lenS rfl StringT.h (E.l rfl)) rfl ?_ | refine V.val (x_lenL rfl SliceT.u (E.l rfl)) rfl ?_ | refine V.val (x_fld rfl FieldT.h (E.l rfl)) rfl ?_ | refine V.val (x_idxAT rfl (E.l rfl) (E.l rfl) (by omega)) rfl ?_ | refine V.val (x_load rfl (E.l rfl) ScalarT.a (by first | assumption | exact (Own.cell (by assumption) _).trans rfl)) rfl ?_ | refine V.val (x_loadA rfl (E.l rfl) AggT.a AggT.z (by first | assumption | exact Own.loadAll (by assumption) rfl)) rfl ?_ | refine V.val (x_idxS rfl StringT.h (E.l rfl) (E.l rfl) (by assumption)) rfl ?_ | refine V.val (x_add rfl (E.l rfl) (E.l rfl) (by omega) (by omega)) rfl ?_ | refine V.val (x_sub rfl (E.l rfl) (E.l rfl) (by omega) (by omega)) rfl ?_ | skip)
    | (refine VP.on rfl rfl ?_; first | refine VP.easy rfl rfl rfl rfl rfl ?_ | refine VP.v (x_lenS rfl StringT.h (E.l rfl)) rfl rfl rfl rfl ?_ | refine VP.v (x_lenL rfl SliceT.u (E.l rfl)) rfl rfl rfl rfl ?_ | refine VP.v (x_fld rfl FieldT.h (E.l rfl)) rfl rfl rfl rfl ?_ | refine VP.v (x_idxAT rfl (E.l rfl) (E.l rfl) (by omega)) rfl rfl rfl rfl ?_ | refine VP.v (x_load rfl (E.l rfl) ScalarT.a (by first | assumption | exact (Own.cell (by assumption) _).trans rfl)) rfl rfl rfl rfl ?_ | refine VP.v (x_loadA rfl (E.l rfl) AggT.a AggT.z (by first | assumption | exact Own.loadAll (by assumption) rfl)) rfl rfl rfl rfl ?_ | refine VP.v (x_idxS rfl StringT.h (E.l rfl) (E.l rfl) (by assumption)) rfl rfl rfl rfl ?_ | refine VP.v (x_add rfl (E.l rfl) (E.l rfl) (by omega) (by omega)) rfl rfl rfl rfl ?_ | refine VP.v (x_sub rfl (E.l rfl) (E.l rfl) (by omega) (by omega)) rfl rfl rfl rfl ?_ | skip)
    | refine WP.nil ?_
    | refine V.not rfl rfl ?_
    | refine VP.not rfl rfl rfl ?_
    | ((first | refine V.split rfl rfl rfl rfl ?_ ?_ | refine VP.split hpk rfl rfl rfl rfl rfl ?_ ?_ | refine V.cond rfl ?_ ?_) <;> intro hB <;> (try simp only [ltB_eq, leB_eq, eqB_eq, seB_eq, decide_eq_true_eq, decide_eq_false_iff_not, Bool.not_eq_true', Bool.not_eq_false', Bool.not_eq_true, Bool.not_eq_false] at hB) <;> (try (exfalso; first | omega | exact hB trivial))))
      refine V.storeG rfl rfl rfl ScalarT.z rfl hoH (Nat.le_of_eq rfl) rfl rfl ?_
      intro hI stI
      have hoI : Own hI r22 (encDeed { d with kv := .slice none 0 0, keys := [] }) := stI.own
      have hl1I : HLe h1 hI := stI.le h1 hl1H hn1G hf
      repeat' (first
    | refine V.ctl rfl ?_
    | (refine V.on rfl ?_; first | refine V.easy rfl rfl ?_ | refine V.val (x_lenS rfl StringT.h (E.l rfl)) rfl ?_ | refine V.val (x_lenL rfl SliceT.u (E.l rfl)) rfl ?_ | refine V.val (x_fld rfl FieldT.h (E.l rfl)) rfl ?_ | refine V.val (x_idxAT rfl (E.l rfl) (E.l rfl) (by omega)) rfl ?_ | refine V.val (x_load rfl (E.l rfl) ScalarT.a (by first | assumption | exact (Own.cell (by assumption) _).trans rfl)) rfl ?_ | refine V.val (x_loadA rfl (E.l rfl) AggT.a AggT.z (by first | assumption | exact Own.loadAll (by assumption) rfl)) rfl ?_ | refine V.val (x_idxS rfl StringT.h (E.l rfl) (E.l rfl) (by assumption)) rfl ?_ | refine V.val (x_add rfl (E.l rfl) (E.l rfl) (by omega) (by omega)) rfl ?_ | refine V.val (x_sub rfl (E.l rfl) (E.l rfl) (by omega) (by omega)) rfl ?_ | skip)
    | (refine VP.on rfl rfl ?_; first | refine VP.easy rfl rfl rfl rfl rfl ?_ | refine VP.v (x_lenS rfl StringT.h (E.l rfl)) rfl rfl rfl rfl ?_ | refine VP.v (x_lenL rfl SliceT.u (E.l rfl)) rfl rfl rfl rfl ?_ | refine VP.v (x_fld rfl FieldT.h (E.l rfl)) rfl rfl rfl rfl ?_ | refine VP.v (x_idxAT rfl (E.l rfl) (E.l rfl) (by omega)) rfl rfl rfl rfl ?_ | refine VP.v (x_load rfl (E.l rfl) ScalarT.a (by first | assumption | exact (Own.cell (by assumption) _).trans rfl)) rfl rfl rfl rfl ?_ | refine VP.v (x_loadA rfl (E.l rfl) AggT.a AggT.z (by first | assumption | exact Own.loadAll (by assumption) rfl)) rfl rfl rfl rfl ?_ | refine VP.v (x_idxS rfl StringT.h (E.l rfl) (E.l rfl) (by assumption)) rfl rfl rfl rfl ?_ | refine VP.v (x_add rfl (E.l rfl) (E.l rfl) (by omega) (by omega)) rfl rfl rfl rfl ?_ | refine VP.v (x_sub rfl (E.l rfl) (E.l rfl) (by omega) (by omega)) rfl rfl rfl rfl ?_ | skip)
    | refine WP.nil ?_
    | refine V.not rfl rfl ?_
    | refine VP.not rfl rfl rfl ?_
    | ((first | refine V.split rfl rfl rfl rfl ?_ ?_ | refine VP.split hpk rfl rfl rfl rfl rfl ?_ ?_ | refine V.cond rfl ?_ ?_) <;> intro hB <;> (try simp only [ltB_eq, leB_eq, eqB_eq, seB_eq, decide_eq_true_eq, decide_eq_false_iff_not, Bool.not_eq_true', Bool.not_eq_false', Bool.not_eq_true, Bool.not_eq_false] at hB) <;> (try (exfalso; first | omega | exact hB trivial))))
      refine V.keep [(0, .slice la l.length lc), (9, .pointer (some ⟨rg, 0, none⟩)), (22, .pointer (some ⟨r22, 0, none⟩)), (23, .int .i64 0)] ⟨rfl, rfl, rfl, rfl, trivial⟩ ?_
      exact opens_loop haw l la lc d h1 hI rg r22 hk hf sl nl ha hd hcall hg hn1G (by have := stH.n; have := stI.n; omega) hl1I hoI
  · repeat' (first
    | refine V.ctl rfl ?_
    | (refine V.on rfl ?_; first | refine V.easy rfl rfl ?_ | refine V.val (x_lenS rfl StringT.h (E.l rfl)) rfl ?_ | refine V.val (x_lenL rfl SliceT.u (E.l rfl)) rfl ?_ | refine V.val (x_fld rfl FieldT.h (E.l rfl)) rfl ?_ | refine V.val (x_idxAT rfl (E.l rfl) (E.l rfl) (by omega)) rfl ?_ | refine V.val (x_load rfl (E.l rfl) ScalarT.a (by first | assumption | exact (Own.cell (by assumption) _).trans rfl)) rfl ?_ | refine V.val (x_loadA rfl (E.l rfl) AggT.a AggT.z (by first | assumption | exact Own.loadAll (by assumption) rfl)) rfl ?_ | refine V.val (x_idxS rfl StringT.h (E.l rfl) (E.l rfl) (by assumption)) rfl ?_ | refine V.val (x_add rfl (E.l rfl) (E.l rfl) (by omega) (by omega)) rfl ?_ | refine V.val (x_sub rfl (E.l rfl) (E.l rfl) (by omega) (by omega)) rfl ?_ | skip)
    | (refine VP.on rfl rfl ?_; first | refine VP.easy rfl rfl rfl rfl rfl ?_ | refine VP.v (x_lenS rfl StringT.h (E.l rfl)) rfl rfl rfl rfl ?_ | refine VP.v (x_lenL rfl SliceT.u (E.l rfl)) rfl rfl rfl rfl ?_ | refine VP.v (x_fld rfl FieldT.h (E.l rfl)) rfl rfl rfl rfl ?_ | refine VP.v (x_idxAT rfl (E.l rfl) (E.l rfl) (by omega)) rfl rfl rfl rfl ?_ | refine VP.v (x_load rfl (E.l rfl) ScalarT.a (by first | assumption | exact (Own.cell (by assumption) _).trans rfl)) rfl rfl rfl rfl ?_ | refine VP.v (x_loadA rfl (E.l rfl) AggT.a AggT.z (by first | assumption | exact Own.loadAll (by assumption) rfl)) rfl rfl rfl rfl ?_ | refine VP.v (x_idxS rfl StringT.h (E.l rfl) (E.l rfl) (by assumption)) rfl rfl rfl rfl ?_ | refine VP.v (x_add rfl (E.l rfl) (E.l rfl) (by omega) (by omega)) rfl rfl rfl rfl ?_ | refine VP.v (x_sub rfl (E.l rfl) (E.l rfl) (by omega) (by omega)) rfl rfl rfl rfl ?_ | skip)
    | refine WP.nil ?_
    | refine V.not rfl rfl ?_
    | refine VP.not rfl rfl rfl ?_
    | ((first | refine V.split rfl rfl rfl rfl ?_ ?_ | refine VP.split hpk rfl rfl rfl rfl rfl ?_ ?_ | refine V.cond rfl ?_ ?_) <;> intro hB <;> (try simp only [ltB_eq, leB_eq, eqB_eq, seB_eq, decide_eq_true_eq, decide_eq_false_iff_not, Bool.not_eq_true', Bool.not_eq_false', Bool.not_eq_true, Bool.not_eq_false] at hB) <;> (try (exfalso; first | omega | exact hB trivial))))
    refine V.call (x_call rfl FuncT.ok (E.s rfl)) rfl (open_fn' (l ++ [one]) rg2 d _ hg2 (by simp only [List.length_cons, List.length_nil, List.length_append]; omega) (hd.grow hl1E)) ?_
    rintro v hF ⟨hlF, (⟨hcall2, rfl⟩ | ⟨hcall2, rfl⟩)⟩
    rotate_left
    · rw [hcall] at hcall2; cases hcall2
    have hmono : openB (l ++ [one]) d = true → openB l d = true := open_less
    refine V.fresh fun hfF => ?_
    have ho6F := ho6.grow hf (hl1E.trans hlF)
    repeat' (first
    | refine V.ctl rfl ?_
    | (refine V.on rfl ?_; first | refine V.easy rfl rfl ?_ | refine V.val (x_lenS rfl StringT.h (E.l rfl)) rfl ?_ | refine V.val (x_lenL rfl SliceT.u (E.l rfl)) rfl ?_ | refine V.val (x_fld rfl FieldT.h (E.l rfl)) rfl ?_ | refine V.val (x_idxAT rfl (E.l rfl) (E.l rfl) (by omega)) rfl ?_ | refine V.val (x_load rfl (E.l rfl) ScalarT.a (by first | assumption | exact (Own.cell (by assumption) _).trans rfl)) rfl ?_ | refine V.val (x_loadA rfl (E.l rfl) AggT.a AggT.z (by first | assumption | exact Own.loadAll (by assumption) rfl)) rfl ?_ | refine V.val (x_idxS rfl StringT.h (E.l rfl) (E.l rfl) (by assumption)) rfl ?_ | refine V.val (x_add rfl (E.l rfl) (E.l rfl) (by omega) (by omega)) rfl ?_ | refine V.val (x_sub rfl (E.l rfl) (E.l rfl) (by omega) (by omega)) rfl ?_ | skip)
    | (refine VP.on rfl rfl ?_; first | refine VP.easy rfl rfl rfl rfl rfl ?_ | refine VP.v (x_lenS rfl StringT.h (E.l rfl)) rfl rfl rfl rfl ?_ | refine VP.v (x_lenL rfl SliceT.u (E.l rfl)) rfl rfl rfl rfl ?_ | refine VP.v (x_fld rfl FieldT.h (E.l rfl)) rfl rfl rfl rfl ?_ | refine VP.v (x_idxAT rfl (E.l rfl) (E.l rfl) (by omega)) rfl rfl rfl rfl ?_ | refine VP.v (x_load rfl (E.l rfl) ScalarT.a (by first | assumption | exact (Own.cell (by assumption) _).trans rfl)) rfl rfl rfl rfl ?_ | refine VP.v (x_loadA rfl (E.l rfl) AggT.a AggT.z (by first | assumption | exact Own.loadAll (by assumption) rfl)) rfl rfl rfl rfl ?_ | refine VP.v (x_idxS rfl StringT.h (E.l rfl) (E.l rfl) (by assumption)) rfl rfl rfl rfl ?_ | refine VP.v (x_add rfl (E.l rfl) (E.l rfl) (by omega) (by omega)) rfl rfl rfl rfl ?_ | refine VP.v (x_sub rfl (E.l rfl) (E.l rfl) (by omega) (by omega)) rfl rfl rfl rfl ?_ | skip)
    | refine WP.nil ?_
    | refine V.not rfl rfl ?_
    | refine VP.not rfl rfl rfl ?_
    | ((first | refine V.split rfl rfl rfl rfl ?_ ?_ | refine VP.split hpk rfl rfl rfl rfl rfl ?_ ?_ | refine V.cond rfl ?_ ?_) <;> intro hB <;> (try simp only [ltB_eq, leB_eq, eqB_eq, seB_eq, decide_eq_true_eq, decide_eq_false_iff_not, Bool.not_eq_true', Bool.not_eq_false', Bool.not_eq_true, Bool.not_eq_false] at hB) <;> (try (exfalso; first | omega | exact hB trivial))))
    all_goals first
      | (exfalso; have q := hmono (by assumption); simp_all; done)
      | skip
    all_goals
      refine V.alloc rfl rfl ?_
      intro r22 hG hlG hoG hnG hrG hfG
      have hl1G : HLe h1 hG := by first | exact (hl1E.trans hlF).trans hlG | exact hl1E.trans hlG
      have hn1G : h1.n ≤ r22 := by first | (have := (hl1E.trans hlF).n; omega) | (have := hl1E.n; omega)
      have ho6G := ho6.grow hf hl1G
      clear ho6E
      repeat' (first
    | refine V.ctl rfl ?_
    | (refine V.on rfl ?_; first | refine V.easy rfl rfl ?_ | refine V.val (x_lenS rfl StringT.h (E.l rfl)) rfl ?_ | refine V.val (x_lenL rfl SliceT.u (E.l rfl)) rfl ?_ | refine V.val (x_fld rfl FieldT.h (E.l rfl)) rfl ?_ | refine V.val (x_idxAT rfl (E.l rfl) (E.l rfl) (by omega)) rfl ?_ | refine V.val (x_load rfl (E.l rfl) ScalarT.a (by first | assumption | exact (Own.cell (by assumption) _).trans rfl)) rfl ?_ | refine V.val (x_loadA rfl (E.l rfl) AggT.a AggT.z (by first | assumption | exact Own.loadAll (by assumption) rfl)) rfl ?_ | refine V.val (x_idxS rfl StringT.h (E.l rfl) (E.l rfl) (by assumption)) rfl ?_ | refine V.val (x_add rfl (E.l rfl) (E.l rfl) (by omega) (by omega)) rfl ?_ | refine V.val (x_sub rfl (E.l rfl) (E.l rfl) (by omega) (by omega)) rfl ?_ | skip)
    | (refine VP.on rfl rfl ?_; first | refine VP.easy rfl rfl rfl rfl rfl ?_ | refine VP.v (x_lenS rfl StringT.h (E.l rfl)) rfl rfl rfl rfl ?_ | refine VP.v (x_lenL rfl SliceT.u (E.l rfl)) rfl rfl rfl rfl ?_ | refine VP.v (x_fld rfl FieldT.h (E.l rfl)) rfl rfl rfl rfl ?_ | refine VP.v (x_idxAT rfl (E.l rfl) (E.l rfl) (by omega)) rfl rfl rfl rfl ?_ | refine VP.v (x_load rfl (E.l rfl) ScalarT.a (by first | assumption | exact (Own.cell (by assumption) _).trans rfl)) rfl rfl rfl rfl ?_ | refine VP.v (x_loadA rfl (E.l rfl) AggT.a AggT.z (by first | assumption | exact Own.loadAll (by assumption) rfl)) rfl rfl rfl rfl ?_ | refine VP.v (x_idxS rfl StringT.h (E.l rfl) (E.l rfl) (by assumption)) rfl rfl rfl rfl ?_ | refine VP.v (x_add rfl (E.l rfl) (E.l rfl) (by omega) (by omega)) rfl rfl rfl rfl ?_ | refine VP.v (x_sub rfl (E.l rfl) (E.l rfl) (by omega) (by omega)) rfl rfl rfl rfl ?_ | skip)
    | refine WP.nil ?_
    | refine V.not rfl rfl ?_
    | refine VP.not rfl rfl rfl ?_
    | ((first | refine V.split rfl rfl rfl rfl ?_ ?_ | refine VP.split hpk rfl rfl rfl rfl rfl ?_ ?_ | refine V.cond rfl ?_ ?_) <;> intro hB <;> (try simp only [ltB_eq, leB_eq, eqB_eq, seB_eq, decide_eq_true_eq, decide_eq_false_iff_not, Bool.not_eq_true', Bool.not_eq_false', Bool.not_eq_true, Bool.not_eq_false] at hB) <;> (try (exfalso; first | omega | exact hB trivial))))
      refine V.storeG rfl rfl rfl AggT.z rfl hoG (by decide) (deed_one hd) rfl ?_
      intro hH stH
      have hoH : Own hH r22 (encDeed d) := stH.own
      have hl1H : HLe h1 hH := stH.le h1 hl1G hn1G hf
      repeat' (first
    | refine V.ctl rfl ?_
    | (refine V.on rfl ?_; first | refine V.easy rfl rfl ?_ | refine V.val (x_lenS rfl StringT.h (E.l rfl)) rfl ?_ | refine V.val (x_lenL rfl SliceT.u (E.l rfl)) rfl ?_ | refine V.val (x_fld rfl FieldT.h (E.l rfl)) rfl ?_ | refine V.val (x_idxAT rfl (E.l rfl) (E.l rfl) (by omega)) rfl ?_ | refine V.val (x_load rfl (E.l rfl) ScalarT.a (by first | assumption | exact (Own.cell (by assumption) _).trans rfl)) rfl ?_ | refine V.val (x_loadA rfl (E.l rfl) AggT.a AggT.z (by first | assumption | exact Own.loadAll (by assumption) rfl)) rfl ?_ | refine V.val (x_idxS rfl StringT.h (E.l rfl) (E.l rfl) (by assumption)) rfl ?_ | refine V.val (x_add rfl (E.l rfl) (E.l rfl) (by omega) (by omega)) rfl ?_ | refine V.val (x_sub rfl (E.l rfl) (E.l rfl) (by omega) (by omega)) rfl ?_ | skip)
    | (refine VP.on rfl rfl ?_; first | refine VP.easy rfl rfl rfl rfl rfl ?_ | refine VP.v (x_lenS rfl StringT.h (E.l rfl)) rfl rfl rfl rfl ?_ | refine VP.v (x_lenL rfl SliceT.u (E.l rfl)) rfl rfl rfl rfl ?_ | refine VP.v (x_fld rfl FieldT.h (E.l rfl)) rfl rfl rfl rfl ?_ | refine VP.v (x_idxAT rfl (E.l rfl) (E.l rfl) (by omega)) rfl rfl rfl rfl ?_ | refine VP.v (x_load rfl (E.l rfl) ScalarT.a (by first | assumption | exact (Own.cell (by assumption) _).trans rfl)) rfl rfl rfl rfl ?_ | refine VP.v (x_loadA rfl (E.l rfl) AggT.a AggT.z (by first | assumption | exact Own.loadAll (by assumption) rfl)) rfl rfl rfl rfl ?_ | refine VP.v (x_idxS rfl StringT.h (E.l rfl) (E.l rfl) (by assumption)) rfl rfl rfl rfl ?_ | refine VP.v (x_add rfl (E.l rfl) (E.l rfl) (by omega) (by omega)) rfl rfl rfl rfl ?_ | refine VP.v (x_sub rfl (E.l rfl) (E.l rfl) (by omega) (by omega)) rfl rfl rfl rfl ?_ | skip)
    | refine WP.nil ?_
    | refine V.not rfl rfl ?_
    | refine VP.not rfl rfl rfl ?_
    | ((first | refine V.split rfl rfl rfl rfl ?_ ?_ | refine VP.split hpk rfl rfl rfl rfl rfl ?_ ?_ | refine V.cond rfl ?_ ?_) <;> intro hB <;> (try simp only [ltB_eq, leB_eq, eqB_eq, seB_eq, decide_eq_true_eq, decide_eq_false_iff_not, Bool.not_eq_true', Bool.not_eq_false', Bool.not_eq_true, Bool.not_eq_false] at hB) <;> (try (exfalso; first | omega | exact hB trivial))))
      refine V.storeG rfl rfl rfl ScalarT.z rfl hoH (Nat.le_of_eq rfl) rfl rfl ?_
      intro hI stI
      have hoI : Own hI r22 (encDeed { d with kv := .slice none 0 0, keys := [] }) := stI.own
      have hl1I : HLe h1 hI := stI.le h1 hl1H hn1G hf
      repeat' (first
    | refine V.ctl rfl ?_
    | (refine V.on rfl ?_; first | refine V.easy rfl rfl ?_ | refine V.val (x_lenS rfl StringT.h (E.l rfl)) rfl ?_ | refine V.val (x_lenL rfl SliceT.u (E.l rfl)) rfl ?_ | refine V.val (x_fld rfl FieldT.h (E.l rfl)) rfl ?_ | refine V.val (x_idxAT rfl (E.l rfl) (E.l rfl) (by omega)) rfl ?_ | refine V.val (x_load rfl (E.l rfl) ScalarT.a (by first | assumption | exact (Own.cell (by assumption) _).trans rfl)) rfl ?_ | refine V.val (x_loadA rfl (E.l rfl) AggT.a AggT.z (by first | assumption | exact Own.loadAll (by assumption) rfl)) rfl ?_ | refine V.val (x_idxS rfl StringT.h (E.l rfl) (E.l rfl) (by assumption)) rfl ?_ | refine V.val (x_add rfl (E.l rfl) (E.l rfl) (by omega) (by omega)) rfl ?_ | refine V.val (x_sub rfl (E.l rfl) (E.l rfl) (by omega) (by omega)) rfl ?_ | skip)
    | (refine VP.on rfl rfl ?_; first | refine VP.easy rfl rfl rfl rfl rfl ?_ | refine VP.v (x_lenS rfl StringT.h (E.l rfl)) rfl rfl rfl rfl ?_ | refine VP.v (x_lenL rfl SliceT.u (E.l rfl)) rfl rfl rfl rfl ?_ | refine VP.v (x_fld rfl FieldT.h (E.l rfl)) rfl rfl rfl rfl ?_ | refine VP.v (x_idxAT rfl (E.l rfl) (E.l rfl) (by omega)) rfl rfl rfl rfl ?_ | refine VP.v (x_load rfl (E.l rfl) ScalarT.a (by first | assumption | exact (Own.cell (by assumption) _).trans rfl)) rfl rfl rfl rfl ?_ | refine VP.v (x_loadA rfl (E.l rfl) AggT.a AggT.z (by first | assumption | exact Own.loadAll (by assumption) rfl)) rfl rfl rfl rfl ?_ | refine VP.v (x_idxS rfl StringT.h (E.l rfl) (E.l rfl) (by assumption)) rfl rfl rfl rfl ?_ | refine VP.v (x_add rfl (E.l rfl) (E.l rfl) (by omega) (by omega)) rfl rfl rfl rfl ?_ | refine VP.v (x_sub rfl (E.l rfl) (E.l rfl) (by omega) (by omega)) rfl rfl rfl rfl ?_ | skip)
    | refine WP.nil ?_
    | refine V.not rfl rfl ?_
    | refine VP.not rfl rfl rfl ?_
    | ((first | refine V.split rfl rfl rfl rfl ?_ ?_ | refine VP.split hpk rfl rfl rfl rfl rfl ?_ ?_ | refine V.cond rfl ?_ ?_) <;> intro hB <;> (try simp only [ltB_eq, leB_eq, eqB_eq, seB_eq, decide_eq_true_eq, decide_eq_false_iff_not, Bool.not_eq_true', Bool.not_eq_false', Bool.not_eq_true, Bool.not_eq_false] at hB) <;> (try (exfalso; first | omega | exact hB trivial))))
      refine V.keep [(0, .slice la l.length lc), (9, .pointer (some ⟨rg, 0, none⟩)), (22, .pointer (some ⟨r22, 0, none⟩)), (23, .int .i64 0)] ⟨rfl, rfl, rfl, rfl, trivial⟩ ?_
      exact opens_loop haw l la lc d h1 hI rg r22 hk hf sl nl ha hd hcall hg hn1G (by have := stH.n; have := stI.n; omega) hl1I hoI
end Go.Proofs.YtladhpocefnkjaaGreatDoor
namespace Go.Proofs.YtladhpocefnkjaaGreatDoor
open Go Go.SX
variable {P : Program} {e : E} [GEnv e]
theorem lightB_len {p : List Proc} {l : List Priv} (h : lightB p l = true) : l.length ≤ 60 := by
  simp only [lightB, Bool.and_eq_true, decide_eq_true_eq] at h; exact h.1.2
theorem OwnS.ne {h : SX.H} {z n0 r b off n cp : Nat} {sp : Option Nat} {v : Value} {cs : List Value} (ho : OwnS z n0 h v) (hr : Own h r cs) (hlt : r < n0) (hv : v = .slice (some ⟨b, off, sp⟩) n cp) : b ≠ r := by
  intro w; subst w
  rcases ho with ⟨cp', q⟩ | ⟨g, r1, off1, n1, cp1, k1, ds, q1, q2, q3, q4, q5, q6, q7⟩
  · rw [q] at hv; cases hv
  · rw [hv] at q1; cases q1
    rw [hr.b] at q2; cases q2
    simp only at q4; omega
theorem open_more {l : List Priv} {d : Deed} {kv : Value} {key : ByteArray} (h : openB l d = true) : openB l { d with kv := kv, keys := d.keys ++ [key] } = true := by
  simp only [openB, ix_neg, Bool.not_eq_true', List.any_eq_false] at h ⊢
  intro p hp
  have := h p hp
  simp only [closedB, hasB, List.any_append, Bool.and_eq_true, Bool.not_eq_true'] at this ⊢
  intro q
  refine this ⟨q.1, ?_⟩
  have q2 := q.2
  simp only [Bool.or_eq_false_iff] at q2
  exact q2.1
set_option maxHeartbeats 2000000 in
theorem opens_fn (haw : ∀ h, Gives P e 10 [] h (fun u h' => u = .bool true ∧ h' = h)) (l : List Priv) (lv : Value) (one : Priv) (d : Deed) (key : ByteArray) (h : SX.H) (sl : Sl h encPriv 3 lv l) (nl : l.length * 40 ≤ 140737488351232) (fl : ∀ x, x ∈ l → x.Fit) (f1 : one.Fit)
    (hd : DeedIn h d) (fk : ∀ x, x ∈ d.keys → Fits x) (hkey : Fits key) :
    ∀ (c : Ctx P e) (ys : List AFr), SX.Leaves c 3 ys (fun v _ => v = .bool true) → W c (S 3 Tryz.f3.ntmps (sk (argsL [lv, .agg ⟨encPriv one⟩, .agg ⟨encDeed d⟩, .string key] 0 [])) [.code (match Tryz.f3.body with | some b => b | none => .skip)] [] .normal none ys h) := by
  unfold Fits bl at hkey
  obtain ⟨la, lc, rfl, hlv⟩ := sl.view
  intro c ys hk
  refine V.fresh fun hf0 => ?_
  repeat' (first
    | refine V.ctl rfl ?_
    | (refine V.on rfl ?_; first | refine V.easy rfl rfl ?_ | refine V.val (x_lenS rfl StringT.h (E.l rfl)) rfl ?_ | refine V.val (x_lenL rfl SliceT.u (E.l rfl)) rfl ?_ | refine V.val (x_fld rfl FieldT.h (E.l rfl)) rfl ?_ | refine V.val (x_idxAT rfl (E.l rfl) (E.l rfl) (by omega)) rfl ?_ | refine V.val (x_load rfl (E.l rfl) ScalarT.a (by first | assumption | exact (Own.cell (by assumption) _).trans rfl)) rfl ?_ | refine V.val (x_loadA rfl (E.l rfl) AggT.a AggT.z (by first | assumption | exact Own.loadAll (by assumption) rfl)) rfl ?_ | refine V.val (x_idxS rfl StringT.h (E.l rfl) (E.l rfl) (by assumption)) rfl ?_ | refine V.val (x_add rfl (E.l rfl) (E.l rfl) (by omega) (by omega)) rfl ?_ | refine V.val (x_sub rfl (E.l rfl) (E.l rfl) (by omega) (by omega)) rfl ?_ | skip)
    | (refine VP.on rfl rfl ?_; first | refine VP.easy rfl rfl rfl rfl rfl ?_ | refine VP.v (x_lenS rfl StringT.h (E.l rfl)) rfl rfl rfl rfl ?_ | refine VP.v (x_lenL rfl SliceT.u (E.l rfl)) rfl rfl rfl rfl ?_ | refine VP.v (x_fld rfl FieldT.h (E.l rfl)) rfl rfl rfl rfl ?_ | refine VP.v (x_idxAT rfl (E.l rfl) (E.l rfl) (by omega)) rfl rfl rfl rfl ?_ | refine VP.v (x_load rfl (E.l rfl) ScalarT.a (by first | assumption | exact (Own.cell (by assumption) _).trans rfl)) rfl rfl rfl rfl ?_ | refine VP.v (x_loadA rfl (E.l rfl) AggT.a AggT.z (by first | assumption | exact Own.loadAll (by assumption) rfl)) rfl rfl rfl rfl ?_ | refine VP.v (x_idxS rfl StringT.h (E.l rfl) (E.l rfl) (by assumption)) rfl rfl rfl rfl ?_ | refine VP.v (x_add rfl (E.l rfl) (E.l rfl) (by omega) (by omega)) rfl rfl rfl rfl ?_ | refine VP.v (x_sub rfl (E.l rfl) (E.l rfl) (by omega) (by omega)) rfl rfl rfl rfl ?_ | skip)
    | refine WP.nil ?_
    | refine V.not rfl rfl ?_
    | refine VP.not rfl rfl rfl ?_
    | ((first | refine V.split rfl rfl rfl rfl ?_ ?_ | refine VP.split hpk rfl rfl rfl rfl rfl ?_ ?_ | refine V.cond rfl ?_ ?_) <;> intro hB <;> (try simp only [ltB_eq, leB_eq, eqB_eq, seB_eq, decide_eq_true_eq, decide_eq_false_iff_not, Bool.not_eq_true', Bool.not_eq_false', Bool.not_eq_true, Bool.not_eq_false] at hB) <;> (try (exfalso; first | omega | exact hB trivial))))
  refine V.box rfl rfl rfl ?_
  intro r5 ha hla ho5a hn5 hr5 hfa
  repeat' (first
    | refine V.ctl rfl ?_
    | (refine V.on rfl ?_; first | refine V.easy rfl rfl ?_ | refine V.val (x_lenS rfl StringT.h (E.l rfl)) rfl ?_ | refine V.val (x_lenL rfl SliceT.u (E.l rfl)) rfl ?_ | refine V.val (x_fld rfl FieldT.h (E.l rfl)) rfl ?_ | refine V.val (x_idxAT rfl (E.l rfl) (E.l rfl) (by omega)) rfl ?_ | refine V.val (x_load rfl (E.l rfl) ScalarT.a (by first | assumption | exact (Own.cell (by assumption) _).trans rfl)) rfl ?_ | refine V.val (x_loadA rfl (E.l rfl) AggT.a AggT.z (by first | assumption | exact Own.loadAll (by assumption) rfl)) rfl ?_ | refine V.val (x_idxS rfl StringT.h (E.l rfl) (E.l rfl) (by assumption)) rfl ?_ | refine V.val (x_add rfl (E.l rfl) (E.l rfl) (by omega) (by omega)) rfl ?_ | refine V.val (x_sub rfl (E.l rfl) (E.l rfl) (by omega) (by omega)) rfl ?_ | skip)
    | (refine VP.on rfl rfl ?_; first | refine VP.easy rfl rfl rfl rfl rfl ?_ | refine VP.v (x_lenS rfl StringT.h (E.l rfl)) rfl rfl rfl rfl ?_ | refine VP.v (x_lenL rfl SliceT.u (E.l rfl)) rfl rfl rfl rfl ?_ | refine VP.v (x_fld rfl FieldT.h (E.l rfl)) rfl rfl rfl rfl ?_ | refine VP.v (x_idxAT rfl (E.l rfl) (E.l rfl) (by omega)) rfl rfl rfl rfl ?_ | refine VP.v (x_load rfl (E.l rfl) ScalarT.a (by first | assumption | exact (Own.cell (by assumption) _).trans rfl)) rfl rfl rfl rfl ?_ | refine VP.v (x_loadA rfl (E.l rfl) AggT.a AggT.z (by first | assumption | exact Own.loadAll (by assumption) rfl)) rfl rfl rfl rfl ?_ | refine VP.v (x_idxS rfl StringT.h (E.l rfl) (E.l rfl) (by assumption)) rfl rfl rfl rfl ?_ | refine VP.v (x_add rfl (E.l rfl) (E.l rfl) (by omega) (by omega)) rfl rfl rfl rfl ?_ | refine VP.v (x_sub rfl (E.l rfl) (E.l rfl) (by omega) (by omega)) rfl rfl rfl rfl ?_ | skip)
    | refine WP.nil ?_
    | refine V.not rfl rfl ?_
    | refine VP.not rfl rfl rfl ?_
    | ((first | refine V.split rfl rfl rfl rfl ?_ ?_ | refine VP.split hpk rfl rfl rfl rfl rfl ?_ ?_ | refine V.cond rfl ?_ ?_) <;> intro hB <;> (try simp only [ltB_eq, leB_eq, eqB_eq, seB_eq, decide_eq_true_eq, decide_eq_false_iff_not, Bool.not_eq_true', Bool.not_eq_false', Bool.not_eq_true, Bool.not_eq_false] at hB) <;> (try (exfalso; first | omega | exact hB trivial))))
  refine V.box rfl rfl rfl ?_
  intro r6 hb hlb ho6 hn6 hr6 hfb
  have ho5 := ho5a.grow hfa hlb
  clear ho5a
  repeat' (first
    | refine V.ctl rfl ?_
    | (refine V.on rfl ?_; first | refine V.easy rfl rfl ?_ | refine V.val (x_lenS rfl StringT.h (E.l rfl)) rfl ?_ | refine V.val (x_lenL rfl SliceT.u (E.l rfl)) rfl ?_ | refine V.val (x_fld rfl FieldT.h (E.l rfl)) rfl ?_ | refine V.val (x_idxAT rfl (E.l rfl) (E.l rfl) (by omega)) rfl ?_ | refine V.val (x_load rfl (E.l rfl) ScalarT.a (by first | assumption | exact (Own.cell (by assumption) _).trans rfl)) rfl ?_ | refine V.val (x_loadA rfl (E.l rfl) AggT.a AggT.z (by first | assumption | exact Own.loadAll (by assumption) rfl)) rfl ?_ | refine V.val (x_idxS rfl StringT.h (E.l rfl) (E.l rfl) (by assumption)) rfl ?_ | refine V.val (x_add rfl (E.l rfl) (E.l rfl) (by omega) (by omega)) rfl ?_ | refine V.val (x_sub rfl (E.l rfl) (E.l rfl) (by omega) (by omega)) rfl ?_ | skip)
    | (refine VP.on rfl rfl ?_; first | refine VP.easy rfl rfl rfl rfl rfl ?_ | refine VP.v (x_lenS rfl StringT.h (E.l rfl)) rfl rfl rfl rfl ?_ | refine VP.v (x_lenL rfl SliceT.u (E.l rfl)) rfl rfl rfl rfl ?_ | refine VP.v (x_fld rfl FieldT.h (E.l rfl)) rfl rfl rfl rfl ?_ | refine VP.v (x_idxAT rfl (E.l rfl) (E.l rfl) (by omega)) rfl rfl rfl rfl ?_ | refine VP.v (x_load rfl (E.l rfl) ScalarT.a (by first | assumption | exact (Own.cell (by assumption) _).trans rfl)) rfl rfl rfl rfl ?_ | refine VP.v (x_loadA rfl (E.l rfl) AggT.a AggT.z (by first | assumption | exact Own.loadAll (by assumption) rfl)) rfl rfl rfl rfl ?_ | refine VP.v (x_idxS rfl StringT.h (E.l rfl) (E.l rfl) (by assumption)) rfl rfl rfl rfl ?_ | refine VP.v (x_add rfl (E.l rfl) (E.l rfl) (by omega) (by omega)) rfl rfl rfl rfl ?_ | refine VP.v (x_sub rfl (E.l rfl) (E.l rfl) (by omega) (by omega)) rfl rfl rfl rfl ?_ | skip)
    | refine WP.nil ?_
    | refine V.not rfl rfl ?_
    | refine VP.not rfl rfl rfl ?_
    | ((first | refine V.split rfl rfl rfl rfl ?_ ?_ | refine VP.split hpk rfl rfl rfl rfl rfl ?_ ?_ | refine V.cond rfl ?_ ?_) <;> intro hB <;> (try simp only [ltB_eq, leB_eq, eqB_eq, seB_eq, decide_eq_true_eq, decide_eq_false_iff_not, Bool.not_eq_true', Bool.not_eq_false', Bool.not_eq_true, Bool.not_eq_false] at hB) <;> (try (exfalso; first | omega | exact hB trivial))))
  refine V.new (v := fun r => .slice (some ⟨r, 0, some 3⟩) 1 (capE 1)) (x_bslice rfl (E.p rfl) rfl rfl rfl) rfl ?_
  intro r28 hc hlc ho28 hn28 hr28 hfc
  have s28 := one_own (one := one) ho28 hr28 rfl
  repeat' (first
    | refine V.ctl rfl ?_
    | (refine V.on rfl ?_; first | refine V.easy rfl rfl ?_ | refine V.val (x_lenS rfl StringT.h (E.l rfl)) rfl ?_ | refine V.val (x_lenL rfl SliceT.u (E.l rfl)) rfl ?_ | refine V.val (x_fld rfl FieldT.h (E.l rfl)) rfl ?_ | refine V.val (x_idxAT rfl (E.l rfl) (E.l rfl) (by omega)) rfl ?_ | refine V.val (x_load rfl (E.l rfl) ScalarT.a (by first | assumption | exact (Own.cell (by assumption) _).trans rfl)) rfl ?_ | refine V.val (x_loadA rfl (E.l rfl) AggT.a AggT.z (by first | assumption | exact Own.loadAll (by assumption) rfl)) rfl ?_ | refine V.val (x_idxS rfl StringT.h (E.l rfl) (E.l rfl) (by assumption)) rfl ?_ | refine V.val (x_add rfl (E.l rfl) (E.l rfl) (by omega) (by omega)) rfl ?_ | refine V.val (x_sub rfl (E.l rfl) (E.l rfl) (by omega) (by omega)) rfl ?_ | skip)
    | (refine VP.on rfl rfl ?_; first | refine VP.easy rfl rfl rfl rfl rfl ?_ | refine VP.v (x_lenS rfl StringT.h (E.l rfl)) rfl rfl rfl rfl ?_ | refine VP.v (x_lenL rfl SliceT.u (E.l rfl)) rfl rfl rfl rfl ?_ | refine VP.v (x_fld rfl FieldT.h (E.l rfl)) rfl rfl rfl rfl ?_ | refine VP.v (x_idxAT rfl (E.l rfl) (E.l rfl) (by omega)) rfl rfl rfl rfl ?_ | refine VP.v (x_load rfl (E.l rfl) ScalarT.a (by first | assumption | exact (Own.cell (by assumption) _).trans rfl)) rfl rfl rfl rfl ?_ | refine VP.v (x_loadA rfl (E.l rfl) AggT.a AggT.z (by first | assumption | exact Own.loadAll (by assumption) rfl)) rfl rfl rfl rfl ?_ | refine VP.v (x_idxS rfl StringT.h (E.l rfl) (E.l rfl) (by assumption)) rfl rfl rfl rfl ?_ | refine VP.v (x_add rfl (E.l rfl) (E.l rfl) (by omega) (by omega)) rfl rfl rfl rfl ?_ | refine VP.v (x_sub rfl (E.l rfl) (E.l rfl) (by omega) (by omega)) rfl rfl rfl rfl ?_ | skip)
    | refine WP.nil ?_
    | refine V.not rfl rfl ?_
    | refine VP.not rfl rfl rfl ?_
    | ((first | refine V.split rfl rfl rfl rfl ?_ ?_ | refine VP.split hpk rfl rfl rfl rfl rfl ?_ ?_ | refine V.cond rfl ?_ ?_) <;> intro hB <;> (try simp only [ltB_eq, leB_eq, eqB_eq, seB_eq, decide_eq_true_eq, decide_eq_false_iff_not, Bool.not_eq_true', Bool.not_eq_false', Bool.not_eq_true, Bool.not_eq_false] at hB) <;> (try (exfalso; first | omega | exact hB trivial))))
  refine V.append (n0 := hb.n) rfl rfl rfl rfl s28 (sl.grow ((hla.trans hlb).trans hlc)) hfc hlc.n (OwnS.own ho28 hn28 (Nat.le_of_eq rfl)) (fun _ => rfl) (by simp only [List.length_cons, List.length_nil]; omega) (by simp only [List.length_cons, List.length_nil]; omega) ?_
  intro v hd1 ap
  refine V.fresh fun hfd => ?_
  have hl1 : HLe hb hd1 := ap.le hb hlc hfb (Nat.le_refl _)
  have hl01 := (hla.trans hlb).trans hl1
  have ho61 := ho6.grow hfb hl1
  have ho51 := ho5.grow hfb hl1
  have nl1 : ([one] ++ l).length ≤ 140737488351232 := by simp only [List.length_append, List.length_cons, List.length_nil]; omega
  have fl1 : ∀ x, x ∈ [one] ++ l → x.Fit := by
    intro x hx
    rcases List.mem_append.1 hx with q | q
    · simp only [List.mem_singleton] at q; rw [q]; exact f1
    · exact fl x q
  clear ho6 ho5 ho28 s28
  repeat' (first
    | refine V.ctl rfl ?_
    | (refine V.on rfl ?_; first | refine V.easy rfl rfl ?_ | refine V.val (x_lenS rfl StringT.h (E.l rfl)) rfl ?_ | refine V.val (x_lenL rfl SliceT.u (E.l rfl)) rfl ?_ | refine V.val (x_fld rfl FieldT.h (E.l rfl)) rfl ?_ | refine V.val (x_idxAT rfl (E.l rfl) (E.l rfl) (by omega)) rfl ?_ | refine V.val (x_load rfl (E.l rfl) ScalarT.a (by first | assumption | exact (Own.cell (by assumption) _).trans rfl)) rfl ?_ | refine V.val (x_loadA rfl (E.l rfl) AggT.a AggT.z (by first | assumption | exact Own.loadAll (by assumption) rfl)) rfl ?_ | refine V.val (x_idxS rfl StringT.h (E.l rfl) (E.l rfl) (by assumption)) rfl ?_ | refine V.val (x_add rfl (E.l rfl) (E.l rfl) (by omega) (by omega)) rfl ?_ | refine V.val (x_sub rfl (E.l rfl) (E.l rfl) (by omega) (by omega)) rfl ?_ | (refine V.call (x_call rfl FuncT.ok (E.s rfl)) rfl (light_fn [] _ _ _ _ Sl.nil ap.sl (fun x hx => absurd hx (List.not_mem_nil)) fl1 (by decide) nl1) ?_; rintro v h1 ⟨rfl, hh⟩; replace hh := hh.symm; subst hh) | (refine V.call (x_call rfl FuncT.ok (E.s rfl)) rfl (deed_fn d _ (hd.grow hl01) fk) ?_; rintro v h2 ⟨⟨b, rfl, hb30⟩, hl2⟩; refine V.fresh fun hf2 => ?_) | (refine V.call (x_call rfl FuncT.ok (E.s rfl)) rfl (haw _) ?_; rintro v h1 ⟨rfl, hh⟩; replace hh := hh.symm; subst hh) | skip)
    | (refine VP.on rfl rfl ?_; first | refine VP.easy rfl rfl rfl rfl rfl ?_ | refine VP.v (x_lenS rfl StringT.h (E.l rfl)) rfl rfl rfl rfl ?_ | refine VP.v (x_lenL rfl SliceT.u (E.l rfl)) rfl rfl rfl rfl ?_ | refine VP.v (x_fld rfl FieldT.h (E.l rfl)) rfl rfl rfl rfl ?_ | refine VP.v (x_idxAT rfl (E.l rfl) (E.l rfl) (by omega)) rfl rfl rfl rfl ?_ | refine VP.v (x_load rfl (E.l rfl) ScalarT.a (by first | assumption | exact (Own.cell (by assumption) _).trans rfl)) rfl rfl rfl rfl ?_ | refine VP.v (x_loadA rfl (E.l rfl) AggT.a AggT.z (by first | assumption | exact Own.loadAll (by assumption) rfl)) rfl rfl rfl rfl ?_ | refine VP.v (x_idxS rfl StringT.h (E.l rfl) (E.l rfl) (by assumption)) rfl rfl rfl rfl ?_ | refine VP.v (x_add rfl (E.l rfl) (E.l rfl) (by omega) (by omega)) rfl rfl rfl rfl ?_ | refine VP.v (x_sub rfl (E.l rfl) (E.l rfl) (by omega) (by omega)) rfl rfl rfl rfl ?_ | (refine V.call (x_call rfl FuncT.ok (E.s rfl)) rfl (light_fn [] _ _ _ _ Sl.nil ap.sl (fun x hx => absurd hx (List.not_mem_nil)) fl1 (by decide) nl1) ?_; rintro v h1 ⟨rfl, hh⟩; replace hh := hh.symm; subst hh) | (refine V.call (x_call rfl FuncT.ok (E.s rfl)) rfl (deed_fn d _ (hd.grow hl01) fk) ?_; rintro v h2 ⟨⟨b, rfl, hb30⟩, hl2⟩; refine V.fresh fun hf2 => ?_) | (refine V.call (x_call rfl FuncT.ok (E.s rfl)) rfl (haw _) ?_; rintro v h1 ⟨rfl, hh⟩; replace hh := hh.symm; subst hh) | skip)
    | refine WP.nil ?_
    | refine V.not rfl rfl ?_
    | refine VP.not rfl rfl rfl ?_
    | ((first | refine V.split rfl rfl rfl rfl ?_ ?_ | refine VP.split hpk rfl rfl rfl rfl rfl ?_ ?_ | refine V.cond rfl ?_ ?_) <;> intro hB <;> (try simp only [ltB_eq, leB_eq, eqB_eq, seB_eq, decide_eq_true_eq, decide_eq_false_iff_not, Bool.not_eq_true', Bool.not_eq_false', Bool.not_eq_true, Bool.not_eq_false] at hB) <;> (try (exfalso; first | omega | exact hB trivial))))
  all_goals first
    | exact V.retL hk FuncT.h rfl (by rfl)
    | exact V.retL hk FuncT.h rfl (by rfl)
    | skip
  rename_i hB1 hB2
  have hk30 : d.keys.length ≤ 30 := hb30 hB2
  have hlen := lightB_len hB1
  simp only [List.length_append, List.length_cons, List.length_nil] at hlen
  have hl02 := hl01.trans hl2
  have ho62 := ho61.grow hfd hl2
  have ho52 := ho51.grow hfd hl2
  clear ho61 ho51
  have nl2 : l.length ≤ 140737488351232 := by omega
  refine V.call (x_call rfl FuncT.ok (E.s rfl)) rfl (new_fn l _ _ (sl.grow hl02) (.inl (by omega)) nl2 fl) ?_
  rintro v h3 ⟨hl3, (⟨hne, rfl⟩ | ⟨h0, rg, rfl, hg3⟩)⟩
  · repeat' (first
    | refine V.ctl rfl ?_
    | (refine V.on rfl ?_; first | refine V.easy rfl rfl ?_ | refine V.val (x_lenS rfl StringT.h (E.l rfl)) rfl ?_ | refine V.val (x_lenL rfl SliceT.u (E.l rfl)) rfl ?_ | refine V.val (x_fld rfl FieldT.h (E.l rfl)) rfl ?_ | refine V.val (x_idxAT rfl (E.l rfl) (E.l rfl) (by omega)) rfl ?_ | refine V.val (x_load rfl (E.l rfl) ScalarT.a (by first | assumption | exact (Own.cell (by assumption) _).trans rfl)) rfl ?_ | refine V.val (x_loadA rfl (E.l rfl) AggT.a AggT.z (by first | assumption | exact Own.loadAll (by assumption) rfl)) rfl ?_ | refine V.val (x_idxS rfl StringT.h (E.l rfl) (E.l rfl) (by assumption)) rfl ?_ | refine V.val (x_add rfl (E.l rfl) (E.l rfl) (by omega) (by omega)) rfl ?_ | refine V.val (x_sub rfl (E.l rfl) (E.l rfl) (by omega) (by omega)) rfl ?_ | (refine V.call (x_call rfl FuncT.ok (E.s rfl)) rfl (haw _) ?_; rintro v h1 ⟨rfl, hh⟩; replace hh := hh.symm; subst hh) | skip)
    | (refine VP.on rfl rfl ?_; first | refine VP.easy rfl rfl rfl rfl rfl ?_ | refine VP.v (x_lenS rfl StringT.h (E.l rfl)) rfl rfl rfl rfl ?_ | refine VP.v (x_lenL rfl SliceT.u (E.l rfl)) rfl rfl rfl rfl ?_ | refine VP.v (x_fld rfl FieldT.h (E.l rfl)) rfl rfl rfl rfl ?_ | refine VP.v (x_idxAT rfl (E.l rfl) (E.l rfl) (by omega)) rfl rfl rfl rfl ?_ | refine VP.v (x_load rfl (E.l rfl) ScalarT.a (by first | assumption | exact (Own.cell (by assumption) _).trans rfl)) rfl rfl rfl rfl ?_ | refine VP.v (x_loadA rfl (E.l rfl) AggT.a AggT.z (by first | assumption | exact Own.loadAll (by assumption) rfl)) rfl rfl rfl rfl ?_ | refine VP.v (x_idxS rfl StringT.h (E.l rfl) (E.l rfl) (by assumption)) rfl rfl rfl rfl ?_ | refine VP.v (x_add rfl (E.l rfl) (E.l rfl) (by omega) (by omega)) rfl rfl rfl rfl ?_ | refine VP.v (x_sub rfl (E.l rfl) (E.l rfl) (by omega) (by omega)) rfl rfl rfl rfl ?_ | (refine V.call (x_call rfl FuncT.ok (E.s rfl)) rfl (haw _) ?_; rintro v h1 ⟨rfl, hh⟩; replace hh := hh.symm; subst hh) | skip)
    | refine WP.nil ?_
    | refine V.not rfl rfl ?_
    | refine VP.not rfl rfl rfl ?_
    | ((first | refine V.split rfl rfl rfl rfl ?_ ?_ | refine VP.split hpk rfl rfl rfl rfl rfl ?_ ?_ | refine V.cond rfl ?_ ?_) <;> intro hB <;> (try simp only [ltB_eq, leB_eq, eqB_eq, seB_eq, decide_eq_true_eq, decide_eq_false_iff_not, Bool.not_eq_true', Bool.not_eq_false', Bool.not_eq_true, Bool.not_eq_false] at hB) <;> (try (exfalso; first | omega | exact hB trivial))))
    exact V.retL hk FuncT.h rfl (by rfl)
  refine V.fresh fun hf3 => ?_
  have ho63 := ho62.grow hf2 hl3
  have ho53 := ho52.grow hf2 hl3
  have hl03 := hl02.trans hl3
  clear ho62 ho52
  repeat' (first
    | refine V.ctl rfl ?_
    | (refine V.on rfl ?_; first | refine V.easy rfl rfl ?_ | refine V.val (x_lenS rfl StringT.h (E.l rfl)) rfl ?_ | refine V.val (x_lenL rfl SliceT.u (E.l rfl)) rfl ?_ | refine V.val (x_fld rfl FieldT.h (E.l rfl)) rfl ?_ | refine V.val (x_idxAT rfl (E.l rfl) (E.l rfl) (by omega)) rfl ?_ | refine V.val (x_load rfl (E.l rfl) ScalarT.a (by first | assumption | exact (Own.cell (by assumption) _).trans rfl)) rfl ?_ | refine V.val (x_loadA rfl (E.l rfl) AggT.a AggT.z (by first | assumption | exact Own.loadAll (by assumption) rfl)) rfl ?_ | refine V.val (x_idxS rfl StringT.h (E.l rfl) (E.l rfl) (by assumption)) rfl ?_ | refine V.val (x_add rfl (E.l rfl) (E.l rfl) (by omega) (by omega)) rfl ?_ | refine V.val (x_sub rfl (E.l rfl) (E.l rfl) (by omega) (by omega)) rfl ?_ | skip)
    | (refine VP.on rfl rfl ?_; first | refine VP.easy rfl rfl rfl rfl rfl ?_ | refine VP.v (x_lenS rfl StringT.h (E.l rfl)) rfl rfl rfl rfl ?_ | refine VP.v (x_lenL rfl SliceT.u (E.l rfl)) rfl rfl rfl rfl ?_ | refine VP.v (x_fld rfl FieldT.h (E.l rfl)) rfl rfl rfl rfl ?_ | refine VP.v (x_idxAT rfl (E.l rfl) (E.l rfl) (by omega)) rfl rfl rfl rfl ?_ | refine VP.v (x_load rfl (E.l rfl) ScalarT.a (by first | assumption | exact (Own.cell (by assumption) _).trans rfl)) rfl rfl rfl rfl ?_ | refine VP.v (x_loadA rfl (E.l rfl) AggT.a AggT.z (by first | assumption | exact Own.loadAll (by assumption) rfl)) rfl rfl rfl rfl ?_ | refine VP.v (x_idxS rfl StringT.h (E.l rfl) (E.l rfl) (by assumption)) rfl rfl rfl rfl ?_ | refine VP.v (x_add rfl (E.l rfl) (E.l rfl) (by omega) (by omega)) rfl rfl rfl rfl ?_ | refine VP.v (x_sub rfl (E.l rfl) (E.l rfl) (by omega) (by omega)) rfl rfl rfl rfl ?_ | skip)
    | refine WP.nil ?_
    | refine V.not rfl rfl ?_
    | refine VP.not rfl rfl rfl ?_
    | ((first | refine V.split rfl rfl rfl rfl ?_ ?_ | refine VP.split hpk rfl rfl rfl rfl rfl ?_ ?_ | refine V.cond rfl ?_ ?_) <;> intro hB <;> (try simp only [ltB_eq, leB_eq, eqB_eq, seB_eq, decide_eq_true_eq, decide_eq_false_iff_not, Bool.not_eq_true', Bool.not_eq_false', Bool.not_eq_true, Bool.not_eq_false] at hB) <;> (try (exfalso; first | omega | exact hB trivial))))
  refine V.call (x_call rfl FuncT.ok (E.s rfl)) rfl (open_fn' l rg d _ hg3 nl2 (hd.grow hl03)) ?_
  rintro v h4 ⟨hl4, (⟨hcall, rfl⟩ | ⟨hcall, rfl⟩)⟩
  rotate_left
  · repeat' (first
    | refine V.ctl rfl ?_
    | (refine V.on rfl ?_; first | refine V.easy rfl rfl ?_ | refine V.val (x_lenS rfl StringT.h (E.l rfl)) rfl ?_ | refine V.val (x_lenL rfl SliceT.u (E.l rfl)) rfl ?_ | refine V.val (x_fld rfl FieldT.h (E.l rfl)) rfl ?_ | refine V.val (x_idxAT rfl (E.l rfl) (E.l rfl) (by omega)) rfl ?_ | refine V.val (x_load rfl (E.l rfl) ScalarT.a (by first | assumption | exact (Own.cell (by assumption) _).trans rfl)) rfl ?_ | refine V.val (x_loadA rfl (E.l rfl) AggT.a AggT.z (by first | assumption | exact Own.loadAll (by assumption) rfl)) rfl ?_ | refine V.val (x_idxS rfl StringT.h (E.l rfl) (E.l rfl) (by assumption)) rfl ?_ | refine V.val (x_add rfl (E.l rfl) (E.l rfl) (by omega) (by omega)) rfl ?_ | refine V.val (x_sub rfl (E.l rfl) (E.l rfl) (by omega) (by omega)) rfl ?_ | (refine V.call (x_call rfl FuncT.ok (E.s rfl)) rfl (haw _) ?_; rintro v h1 ⟨rfl, hh⟩; replace hh := hh.symm; subst hh) | skip)
    | (refine VP.on rfl rfl ?_; first | refine VP.easy rfl rfl rfl rfl rfl ?_ | refine VP.v (x_lenS rfl StringT.h (E.l rfl)) rfl rfl rfl rfl ?_ | refine VP.v (x_lenL rfl SliceT.u (E.l rfl)) rfl rfl rfl rfl ?_ | refine VP.v (x_fld rfl FieldT.h (E.l rfl)) rfl rfl rfl rfl ?_ | refine VP.v (x_idxAT rfl (E.l rfl) (E.l rfl) (by omega)) rfl rfl rfl rfl ?_ | refine VP.v (x_load rfl (E.l rfl) ScalarT.a (by first | assumption | exact (Own.cell (by assumption) _).trans rfl)) rfl rfl rfl rfl ?_ | refine VP.v (x_loadA rfl (E.l rfl) AggT.a AggT.z (by first | assumption | exact Own.loadAll (by assumption) rfl)) rfl rfl rfl rfl ?_ | refine VP.v (x_idxS rfl StringT.h (E.l rfl) (E.l rfl) (by assumption)) rfl rfl rfl rfl ?_ | refine VP.v (x_add rfl (E.l rfl) (E.l rfl) (by omega) (by omega)) rfl rfl rfl rfl ?_ | refine VP.v (x_sub rfl (E.l rfl) (E.l rfl) (by omega) (by omega)) rfl rfl rfl rfl ?_ | (refine V.call (x_call rfl FuncT.ok (E.s rfl)) rfl (haw _) ?_; rintro v h1 ⟨rfl, hh⟩; replace hh := hh.symm; subst hh) | skip)
    | refine WP.nil ?_
    | refine V.not rfl rfl ?_
    | refine VP.not rfl rfl rfl ?_
    | ((first | refine V.split rfl rfl rfl rfl ?_ ?_ | refine VP.split hpk rfl rfl rfl rfl rfl ?_ ?_ | refine V.cond rfl ?_ ?_) <;> intro hB <;> (try simp only [ltB_eq, leB_eq, eqB_eq, seB_eq, decide_eq_true_eq, decide_eq_false_iff_not, Bool.not_eq_true', Bool.not_eq_false', Bool.not_eq_true, Bool.not_eq_false] at hB) <;> (try (exfalso; first | omega | exact hB trivial))))
    exact V.retL hk FuncT.h rfl (by rfl)
  refine V.fresh fun hf4 => ?_
  have ho64 := ho63.grow hf3 hl4
  have ho54 := ho53.grow hf3 hl4
  have hl04 := hl03.trans hl4
  have hg4 := hg3.grow hl4
  clear ho63 ho53 hg3
  generalize hopen : openB l d = op
  repeat' (first
    | refine V.ctl rfl ?_
    | (refine V.on rfl ?_; first | refine V.easy rfl rfl ?_ | refine V.val (x_lenS rfl StringT.h (E.l rfl)) rfl ?_ | refine V.val (x_lenL rfl SliceT.u (E.l rfl)) rfl ?_ | refine V.val (x_fld rfl FieldT.h (E.l rfl)) rfl ?_ | refine V.val (x_idxAT rfl (E.l rfl) (E.l rfl) (by omega)) rfl ?_ | refine V.val (x_load rfl (E.l rfl) ScalarT.a (by first | assumption | exact (Own.cell (by assumption) _).trans rfl)) rfl ?_ | refine V.val (x_loadA rfl (E.l rfl) AggT.a AggT.z (by first | assumption | exact Own.loadAll (by assumption) rfl)) rfl ?_ | refine V.val (x_idxS rfl StringT.h (E.l rfl) (E.l rfl) (by assumption)) rfl ?_ | refine V.val (x_add rfl (E.l rfl) (E.l rfl) (by omega) (by omega)) rfl ?_ | refine V.val (x_sub rfl (E.l rfl) (E.l rfl) (by omega) (by omega)) rfl ?_ | skip)
    | (refine VP.on rfl rfl ?_; first | refine VP.easy rfl rfl rfl rfl rfl ?_ | refine VP.v (x_lenS rfl StringT.h (E.l rfl)) rfl rfl rfl rfl ?_ | refine VP.v (x_lenL rfl SliceT.u (E.l rfl)) rfl rfl rfl rfl ?_ | refine VP.v (x_fld rfl FieldT.h (E.l rfl)) rfl rfl rfl rfl ?_ | refine VP.v (x_idxAT rfl (E.l rfl) (E.l rfl) (by omega)) rfl rfl rfl rfl ?_ | refine VP.v (x_load rfl (E.l rfl) ScalarT.a (by first | assumption | exact (Own.cell (by assumption) _).trans rfl)) rfl rfl rfl rfl ?_ | refine VP.v (x_loadA rfl (E.l rfl) AggT.a AggT.z (by first | assumption | exact Own.loadAll (by assumption) rfl)) rfl rfl rfl rfl ?_ | refine VP.v (x_idxS rfl StringT.h (E.l rfl) (E.l rfl) (by assumption)) rfl rfl rfl rfl ?_ | refine VP.v (x_add rfl (E.l rfl) (E.l rfl) (by omega) (by omega)) rfl rfl rfl rfl ?_ | refine VP.v (x_sub rfl (E.l rfl) (E.l rfl) (by omega) (by omega)) rfl rfl rfl rfl ?_ | skip)
    | refine WP.nil ?_
    | refine V.not rfl rfl ?_
    | refine VP.not rfl rfl rfl ?_
    | ((first | refine V.split rfl rfl rfl rfl ?_ ?_ | refine VP.split hpk rfl rfl rfl rfl rfl ?_ ?_ | refine V.cond rfl ?_ ?_) <;> intro hB <;> (try simp only [ltB_eq, leB_eq, eqB_eq, seB_eq, decide_eq_true_eq, decide_eq_false_iff_not, Bool.not_eq_true', Bool.not_eq_false', Bool.not_eq_true, Bool.not_eq_false] at hB) <;> (try (exfalso; first | omega | exact hB trivial))))
  refine V.alloc rfl rfl ?_
  intro r13 h5 hl5 ho13 hn13 hr13 hf5
  have ho65 := ho64.grow hf4 hl5
  have ho55 := ho54.grow hf4 hl5
  repeat' (first
    | refine V.ctl rfl ?_
    | (refine V.on rfl ?_; first | refine V.easy rfl rfl ?_ | refine V.val (x_lenS rfl StringT.h (E.l rfl)) rfl ?_ | refine V.val (x_lenL rfl SliceT.u (E.l rfl)) rfl ?_ | refine V.val (x_fld rfl FieldT.h (E.l rfl)) rfl ?_ | refine V.val (x_idxAT rfl (E.l rfl) (E.l rfl) (by omega)) rfl ?_ | refine V.val (x_load rfl (E.l rfl) ScalarT.a (by first | assumption | exact (Own.cell (by assumption) _).trans rfl)) rfl ?_ | refine V.val (x_loadA rfl (E.l rfl) AggT.a AggT.z (by first | assumption | exact Own.loadAll (by assumption) rfl)) rfl ?_ | refine V.val (x_idxS rfl StringT.h (E.l rfl) (E.l rfl) (by assumption)) rfl ?_ | refine V.val (x_add rfl (E.l rfl) (E.l rfl) (by omega) (by omega)) rfl ?_ | refine V.val (x_sub rfl (E.l rfl) (E.l rfl) (by omega) (by omega)) rfl ?_ | skip)
    | (refine VP.on rfl rfl ?_; first | refine VP.easy rfl rfl rfl rfl rfl ?_ | refine VP.v (x_lenS rfl StringT.h (E.l rfl)) rfl rfl rfl rfl ?_ | refine VP.v (x_lenL rfl SliceT.u (E.l rfl)) rfl rfl rfl rfl ?_ | refine VP.v (x_fld rfl FieldT.h (E.l rfl)) rfl rfl rfl rfl ?_ | refine VP.v (x_idxAT rfl (E.l rfl) (E.l rfl) (by omega)) rfl rfl rfl rfl ?_ | refine VP.v (x_load rfl (E.l rfl) ScalarT.a (by first | assumption | exact (Own.cell (by assumption) _).trans rfl)) rfl rfl rfl rfl ?_ | refine VP.v (x_loadA rfl (E.l rfl) AggT.a AggT.z (by first | assumption | exact Own.loadAll (by assumption) rfl)) rfl rfl rfl rfl ?_ | refine VP.v (x_idxS rfl StringT.h (E.l rfl) (E.l rfl) (by assumption)) rfl rfl rfl rfl ?_ | refine VP.v (x_add rfl (E.l rfl) (E.l rfl) (by omega) (by omega)) rfl rfl rfl rfl ?_ | refine VP.v (x_sub rfl (E.l rfl) (E.l rfl) (by omega) (by omega)) rfl rfl rfl rfl ?_ | skip)
    | refine WP.nil ?_
    | refine V.not rfl rfl ?_
    | refine VP.not rfl rfl rfl ?_
    | ((first | refine V.split rfl rfl rfl rfl ?_ ?_ | refine VP.split hpk rfl rfl rfl rfl rfl ?_ ?_ | refine V.cond rfl ?_ ?_) <;> intro hB <;> (try simp only [ltB_eq, leB_eq, eqB_eq, seB_eq, decide_eq_true_eq, decide_eq_false_iff_not, Bool.not_eq_true', Bool.not_eq_false', Bool.not_eq_true, Bool.not_eq_false] at hB) <;> (try (exfalso; first | omega | exact hB trivial))))
  refine V.storeG rfl rfl rfl AggT.z rfl ho13 (by decide) (deed_one hd) rfl ?_
  intro h6 st6
  have hn56 := st6.n
  have hf6 := st6.fresh hf5
  have hl46 : HLe h4 h6 := st6.le h4 hl5 hn13 hf4
  have hr613 : r6 ≠ r13 := by
    have := hl1.n; have := hl2.n; have := hl3.n; have := hl4.n; omega
  have hr513 : r5 ≠ r13 := by
    have := hlb.n; have := hl1.n; have := hl2.n; have := hl3.n; have := hl4.n; omega
  have ho66 := st6.others r6 _ hr613 ho65
  have ho56 := st6.others r5 _ hr513 ho55
  have ho136 : Own h6 r13 (encDeed d) := st6.own
  have hl06 := hl04.trans hl46
  clear ho65 ho55 ho13 st6
  repeat' (first
    | refine V.ctl rfl ?_
    | (refine V.on rfl ?_; first | refine V.easy rfl rfl ?_ | refine V.val (x_lenS rfl StringT.h (E.l rfl)) rfl ?_ | refine V.val (x_lenL rfl SliceT.u (E.l rfl)) rfl ?_ | refine V.val (x_fld rfl FieldT.h (E.l rfl)) rfl ?_ | refine V.val (x_idxAT rfl (E.l rfl) (E.l rfl) (by omega)) rfl ?_ | refine V.val (x_load rfl (E.l rfl) ScalarT.a (by first | assumption | exact (Own.cell (by assumption) _).trans rfl)) rfl ?_ | refine V.val (x_loadA rfl (E.l rfl) AggT.a AggT.z (by first | assumption | exact Own.loadAll (by assumption) rfl)) rfl ?_ | refine V.val (x_idxS rfl StringT.h (E.l rfl) (E.l rfl) (by assumption)) rfl ?_ | refine V.val (x_add rfl (E.l rfl) (E.l rfl) (by omega) (by omega)) rfl ?_ | refine V.val (x_sub rfl (E.l rfl) (E.l rfl) (by omega) (by omega)) rfl ?_ | skip)
    | (refine VP.on rfl rfl ?_; first | refine VP.easy rfl rfl rfl rfl rfl ?_ | refine VP.v (x_lenS rfl StringT.h (E.l rfl)) rfl rfl rfl rfl ?_ | refine VP.v (x_lenL rfl SliceT.u (E.l rfl)) rfl rfl rfl rfl ?_ | refine VP.v (x_fld rfl FieldT.h (E.l rfl)) rfl rfl rfl rfl ?_ | refine VP.v (x_idxAT rfl (E.l rfl) (E.l rfl) (by omega)) rfl rfl rfl rfl ?_ | refine VP.v (x_load rfl (E.l rfl) ScalarT.a (by first | assumption | exact (Own.cell (by assumption) _).trans rfl)) rfl rfl rfl rfl ?_ | refine VP.v (x_loadA rfl (E.l rfl) AggT.a AggT.z (by first | assumption | exact Own.loadAll (by assumption) rfl)) rfl rfl rfl rfl ?_ | refine VP.v (x_idxS rfl StringT.h (E.l rfl) (E.l rfl) (by assumption)) rfl rfl rfl rfl ?_ | refine VP.v (x_add rfl (E.l rfl) (E.l rfl) (by omega) (by omega)) rfl rfl rfl rfl ?_ | refine VP.v (x_sub rfl (E.l rfl) (E.l rfl) (by omega) (by omega)) rfl rfl rfl rfl ?_ | skip)
    | refine WP.nil ?_
    | refine V.not rfl rfl ?_
    | refine VP.not rfl rfl rfl ?_
    | ((first | refine V.split rfl rfl rfl rfl ?_ ?_ | refine VP.split hpk rfl rfl rfl rfl rfl ?_ ?_ | refine V.cond rfl ?_ ?_) <;> intro hB <;> (try simp only [ltB_eq, leB_eq, eqB_eq, seB_eq, decide_eq_true_eq, decide_eq_false_iff_not, Bool.not_eq_true', Bool.not_eq_false', Bool.not_eq_true, Bool.not_eq_false] at hB) <;> (try (exfalso; first | omega | exact hB trivial))))
  refine V.new (v := fun r => .slice (some ⟨r, 0, some 1⟩) 0 (capE 0)) (x_bslice rfl (E.p rfl) rfl rfl rfl) rfl ?_
  intro r63 h7 hl7 ho63' hn63 hr63 hf7
  have s63 : Sl h7 encS 1 (.slice (some ⟨r63, 0, some 1⟩) 0 (capE 0)) ([] : List ByteArray) := .inr ⟨r63, 0, capE 0, rfl, Own.loadAll (n := 0) ho63' rfl, fun x hx => (by cases hx), hr63, Nat.zero_le _⟩
  have ho67 := ho66.grow hf6 hl7
  repeat' (first
    | refine V.ctl rfl ?_
    | (refine V.on rfl ?_; first | refine V.easy rfl rfl ?_ | refine V.val (x_lenS rfl StringT.h (E.l rfl)) rfl ?_ | refine V.val (x_lenL rfl SliceT.u (E.l rfl)) rfl ?_ | refine V.val (x_fld rfl FieldT.h (E.l rfl)) rfl ?_ | refine V.val (x_idxAT rfl (E.l rfl) (E.l rfl) (by omega)) rfl ?_ | refine V.val (x_load rfl (E.l rfl) ScalarT.a (by first | assumption | exact (Own.cell (by assumption) _).trans rfl)) rfl ?_ | refine V.val (x_loadA rfl (E.l rfl) AggT.a AggT.z (by first | assumption | exact Own.loadAll (by assumption) rfl)) rfl ?_ | refine V.val (x_idxS rfl StringT.h (E.l rfl) (E.l rfl) (by assumption)) rfl ?_ | refine V.val (x_add rfl (E.l rfl) (E.l rfl) (by omega) (by omega)) rfl ?_ | refine V.val (x_sub rfl (E.l rfl) (E.l rfl) (by omega) (by omega)) rfl ?_ | skip)
    | (refine VP.on rfl rfl ?_; first | refine VP.easy rfl rfl rfl rfl rfl ?_ | refine VP.v (x_lenS rfl StringT.h (E.l rfl)) rfl rfl rfl rfl ?_ | refine VP.v (x_lenL rfl SliceT.u (E.l rfl)) rfl rfl rfl rfl ?_ | refine VP.v (x_fld rfl FieldT.h (E.l rfl)) rfl rfl rfl rfl ?_ | refine VP.v (x_idxAT rfl (E.l rfl) (E.l rfl) (by omega)) rfl rfl rfl rfl ?_ | refine VP.v (x_load rfl (E.l rfl) ScalarT.a (by first | assumption | exact (Own.cell (by assumption) _).trans rfl)) rfl rfl rfl rfl ?_ | refine VP.v (x_loadA rfl (E.l rfl) AggT.a AggT.z (by first | assumption | exact Own.loadAll (by assumption) rfl)) rfl rfl rfl rfl ?_ | refine VP.v (x_idxS rfl StringT.h (E.l rfl) (E.l rfl) (by assumption)) rfl rfl rfl rfl ?_ | refine VP.v (x_add rfl (E.l rfl) (E.l rfl) (by omega) (by omega)) rfl rfl rfl rfl ?_ | refine VP.v (x_sub rfl (E.l rfl) (E.l rfl) (by omega) (by omega)) rfl rfl rfl rfl ?_ | skip)
    | refine WP.nil ?_
    | refine V.not rfl rfl ?_
    | refine VP.not rfl rfl rfl ?_
    | ((first | refine V.split rfl rfl rfl rfl ?_ ?_ | refine VP.split hpk rfl rfl rfl rfl rfl ?_ ?_ | refine V.cond rfl ?_ ?_) <;> intro hB <;> (try simp only [ltB_eq, leB_eq, eqB_eq, seB_eq, decide_eq_true_eq, decide_eq_false_iff_not, Bool.not_eq_true', Bool.not_eq_false', Bool.not_eq_true, Bool.not_eq_false] at hB) <;> (try (exfalso; first | omega | exact hB trivial))))
  refine V.append (n0 := h6.n) rfl rfl rfl rfl s63 (hd.keys.grow (hl06.trans hl7)) hf7 hl7.n (OwnS.own ho63' hn63 (Nat.zero_le _)) (fun _ => rfl) (by simp only [List.length_nil]; omega) (by simp only [List.length_nil]; omega) ?_
  intro v8 h8 ap8
  refine V.fresh fun hf8 => ?_
  have hl68 : HLe h6 h8 := ap8.le h6 hl7 hf6 (Nat.le_refl _)
  repeat' (first
    | refine V.ctl rfl ?_
    | (refine V.on rfl ?_; first | refine V.easy rfl rfl ?_ | refine V.val (x_lenS rfl StringT.h (E.l rfl)) rfl ?_ | refine V.val (x_lenL rfl SliceT.u (E.l rfl)) rfl ?_ | refine V.val (x_fld rfl FieldT.h (E.l rfl)) rfl ?_ | refine V.val (x_idxAT rfl (E.l rfl) (E.l rfl) (by omega)) rfl ?_ | refine V.val (x_load rfl (E.l rfl) ScalarT.a (by first | assumption | exact (Own.cell (by assumption) _).trans rfl)) rfl ?_ | refine V.val (x_loadA rfl (E.l rfl) AggT.a AggT.z (by first | assumption | exact Own.loadAll (by assumption) rfl)) rfl ?_ | refine V.val (x_idxS rfl StringT.h (E.l rfl) (E.l rfl) (by assumption)) rfl ?_ | refine V.val (x_add rfl (E.l rfl) (E.l rfl) (by omega) (by omega)) rfl ?_ | refine V.val (x_sub rfl (E.l rfl) (E.l rfl) (by omega) (by omega)) rfl ?_ | skip)
    | (refine VP.on rfl rfl ?_; first | refine VP.easy rfl rfl rfl rfl rfl ?_ | refine VP.v (x_lenS rfl StringT.h (E.l rfl)) rfl rfl rfl rfl ?_ | refine VP.v (x_lenL rfl SliceT.u (E.l rfl)) rfl rfl rfl rfl ?_ | refine VP.v (x_fld rfl FieldT.h (E.l rfl)) rfl rfl rfl rfl ?_ | refine VP.v (x_idxAT rfl (E.l rfl) (E.l rfl) (by omega)) rfl rfl rfl rfl ?_ | refine VP.v (x_load rfl (E.l rfl) ScalarT.a (by first | assumption | exact (Own.cell (by assumption) _).trans rfl)) rfl rfl rfl rfl ?_ | refine VP.v (x_loadA rfl (E.l rfl) AggT.a AggT.z (by first | assumption | exact Own.loadAll (by assumption) rfl)) rfl rfl rfl rfl ?_ | refine VP.v (x_idxS rfl StringT.h (E.l rfl) (E.l rfl) (by assumption)) rfl rfl rfl rfl ?_ | refine VP.v (x_add rfl (E.l rfl) (E.l rfl) (by omega) (by omega)) rfl rfl rfl rfl ?_ | refine VP.v (x_sub rfl (E.l rfl) (E.l rfl) (by omega) (by omega)) rfl rfl rfl rfl ?_ | skip)
    | refine WP.nil ?_
    | refine V.not rfl rfl ?_
    | refine VP.not rfl rfl rfl ?_
    | ((first | refine V.split rfl rfl rfl rfl ?_ ?_ | refine VP.split hpk rfl rfl rfl rfl rfl ?_ ?_ | refine V.cond rfl ?_ ?_) <;> intro hB <;> (try simp only [ltB_eq, leB_eq, eqB_eq, seB_eq, decide_eq_true_eq, decide_eq_false_iff_not, Bool.not_eq_true', Bool.not_eq_false', Bool.not_eq_true, Bool.not_eq_false] at hB) <;> (try (exfalso; first | omega | exact hB trivial))))
  refine V.new (v := fun r => .slice (some ⟨r, 0, some 1⟩) 1 (capE 1)) (x_bslice rfl (E.p rfl) rfl rfl rfl) rfl ?_
  intro r68 h9 hl9 ho68 hn68 hr68 hf9
  have s68 : Sl h9 encS 1 (.slice (some ⟨r68, 0, some 1⟩) 1 (capE 1)) [key] := .inr ⟨r68, 0, capE 1, rfl, Own.loadAll (n := 1) ho68 rfl, fun x _ => rfl, hr68, by rw [capLo_E]; exact Nat.le_refl _⟩
  repeat' (first
    | refine V.ctl rfl ?_
    | (refine V.on rfl ?_; first | refine V.easy rfl rfl ?_ | refine V.val (x_lenS rfl StringT.h (E.l rfl)) rfl ?_ | refine V.val (x_lenL rfl SliceT.u (E.l rfl)) rfl ?_ | refine V.val (x_fld rfl FieldT.h (E.l rfl)) rfl ?_ | refine V.val (x_idxAT rfl (E.l rfl) (E.l rfl) (by omega)) rfl ?_ | refine V.val (x_load rfl (E.l rfl) ScalarT.a (by first | assumption | exact (Own.cell (by assumption) _).trans rfl)) rfl ?_ | refine V.val (x_loadA rfl (E.l rfl) AggT.a AggT.z (by first | assumption | exact Own.loadAll (by assumption) rfl)) rfl ?_ | refine V.val (x_idxS rfl StringT.h (E.l rfl) (E.l rfl) (by assumption)) rfl ?_ | refine V.val (x_add rfl (E.l rfl) (E.l rfl) (by omega) (by omega)) rfl ?_ | refine V.val (x_sub rfl (E.l rfl) (E.l rfl) (by omega) (by omega)) rfl ?_ | skip)
    | (refine VP.on rfl rfl ?_; first | refine VP.easy rfl rfl rfl rfl rfl ?_ | refine VP.v (x_lenS rfl StringT.h (E.l rfl)) rfl rfl rfl rfl ?_ | refine VP.v (x_lenL rfl SliceT.u (E.l rfl)) rfl rfl rfl rfl ?_ | refine VP.v (x_fld rfl FieldT.h (E.l rfl)) rfl rfl rfl rfl ?_ | refine VP.v (x_idxAT rfl (E.l rfl) (E.l rfl) (by omega)) rfl rfl rfl rfl ?_ | refine VP.v (x_load rfl (E.l rfl) ScalarT.a (by first | assumption | exact (Own.cell (by assumption) _).trans rfl)) rfl rfl rfl rfl ?_ | refine VP.v (x_loadA rfl (E.l rfl) AggT.a AggT.z (by first | assumption | exact Own.loadAll (by assumption) rfl)) rfl rfl rfl rfl ?_ | refine VP.v (x_idxS rfl StringT.h (E.l rfl) (E.l rfl) (by assumption)) rfl rfl rfl rfl ?_ | refine VP.v (x_add rfl (E.l rfl) (E.l rfl) (by omega) (by omega)) rfl rfl rfl rfl ?_ | refine VP.v (x_sub rfl (E.l rfl) (E.l rfl) (by omega) (by omega)) rfl rfl rfl rfl ?_ | skip)
    | refine WP.nil ?_
    | refine V.not rfl rfl ?_
    | refine VP.not rfl rfl rfl ?_
    | ((first | refine V.split rfl rfl rfl rfl ?_ ?_ | refine VP.split hpk rfl rfl rfl rfl rfl ?_ ?_ | refine V.cond rfl ?_ ?_) <;> intro hB <;> (try simp only [ltB_eq, leB_eq, eqB_eq, seB_eq, decide_eq_true_eq, decide_eq_false_iff_not, Bool.not_eq_true', Bool.not_eq_false', Bool.not_eq_true, Bool.not_eq_false] at hB) <;> (try (exfalso; first | omega | exact hB trivial))))
  refine V.append (n0 := h6.n) rfl rfl rfl rfl (ap8.sl.grow hl9) s68 hf9 (Nat.le_trans hl68.n hl9.n) (ap8.own.grow hf8 hl9) (fun _ => rfl) (by simp only [List.length_cons, List.length_nil, List.length_append]; omega) (by simp only [List.length_cons, List.length_nil, List.length_append]; omega) ?_
  intro v10 h10 ap10
  refine V.fresh fun hf10 => ?_
  have hl610 : HLe h6 h10 := ap10.le h6 (hl68.trans hl9) hf6 (Nat.le_refl _)
  have ho1310 := ho136.grow hf6 hl610
  have ho610 := ho66.grow hf6 hl610
  have ho510 := ho56.grow hf6 hl610
  obtain ⟨vv1, vv2, vv3⟩ := ap10.sl.isSl
  repeat' (first
    | refine V.ctl rfl ?_
    | (refine V.on rfl ?_; first | refine V.easy rfl rfl ?_ | refine V.val (x_lenS rfl StringT.h (E.l rfl)) rfl ?_ | refine V.val (x_lenL rfl SliceT.u (E.l rfl)) rfl ?_ | refine V.val (x_fld rfl FieldT.h (E.l rfl)) rfl ?_ | refine V.val (x_idxAT rfl (E.l rfl) (E.l rfl) (by omega)) rfl ?_ | refine V.val (x_load rfl (E.l rfl) ScalarT.a (by first | assumption | exact (Own.cell (by assumption) _).trans rfl)) rfl ?_ | refine V.val (x_loadA rfl (E.l rfl) AggT.a AggT.z (by first | assumption | exact Own.loadAll (by assumption) rfl)) rfl ?_ | refine V.val (x_idxS rfl StringT.h (E.l rfl) (E.l rfl) (by assumption)) rfl ?_ | refine V.val (x_add rfl (E.l rfl) (E.l rfl) (by omega) (by omega)) rfl ?_ | refine V.val (x_sub rfl (E.l rfl) (E.l rfl) (by omega) (by omega)) rfl ?_ | skip)
    | (refine VP.on rfl rfl ?_; first | refine VP.easy rfl rfl rfl rfl rfl ?_ | refine VP.v (x_lenS rfl StringT.h (E.l rfl)) rfl rfl rfl rfl ?_ | refine VP.v (x_lenL rfl SliceT.u (E.l rfl)) rfl rfl rfl rfl ?_ | refine VP.v (x_fld rfl FieldT.h (E.l rfl)) rfl rfl rfl rfl ?_ | refine VP.v (x_idxAT rfl (E.l rfl) (E.l rfl) (by omega)) rfl rfl rfl rfl ?_ | refine VP.v (x_load rfl (E.l rfl) ScalarT.a (by first | assumption | exact (Own.cell (by assumption) _).trans rfl)) rfl rfl rfl rfl ?_ | refine VP.v (x_loadA rfl (E.l rfl) AggT.a AggT.z (by first | assumption | exact Own.loadAll (by assumption) rfl)) rfl rfl rfl rfl ?_ | refine VP.v (x_idxS rfl StringT.h (E.l rfl) (E.l rfl) (by assumption)) rfl rfl rfl rfl ?_ | refine VP.v (x_add rfl (E.l rfl) (E.l rfl) (by omega) (by omega)) rfl rfl rfl rfl ?_ | refine VP.v (x_sub rfl (E.l rfl) (E.l rfl) (by omega) (by omega)) rfl rfl rfl rfl ?_ | skip)
    | refine WP.nil ?_
    | refine V.not rfl rfl ?_
    | refine VP.not rfl rfl rfl ?_
    | ((first | refine V.split rfl rfl rfl rfl ?_ ?_ | refine VP.split hpk rfl rfl rfl rfl rfl ?_ ?_ | refine V.cond rfl ?_ ?_) <;> intro hB <;> (try simp only [ltB_eq, leB_eq, eqB_eq, seB_eq, decide_eq_true_eq, decide_eq_false_iff_not, Bool.not_eq_true', Bool.not_eq_false', Bool.not_eq_true, Bool.not_eq_false] at hB) <;> (try (exfalso; first | omega | exact hB trivial))))
  refine V.storeG rfl rfl rfl ScalarT.z (by rw [vv1]; rfl) ho1310 (Nat.le_refl _) (by rw [vv1]; simp only [allOne, vv2]; rfl) rfl ?_
  intro h11 st11
  have hf11 := st11.fresh hf10
  have hl411 : HLe h4 h11 := st11.le h4 (hl46.trans hl610) hn13 hf4
  have hl011 := hl04.trans hl411
  have hr13h : r13 < h6.n := by omega
  have hkv : Sl h11 encS 1 v10 (d.keys ++ [key]) := by
    refine st11.sl _ _ _ _ (by simpa using ap10.sl) ?_
    intro b off sp n cp q
    exact OwnS.ne ap10.own ho1310 hr13h q
  have hmore : DeedIn h11 { d with kv := v10, keys := d.keys ++ [key] } := { hd.grow hl011 with keys := hkv, nk := by simp only [List.length_append, List.length_cons, List.length_nil]; omega }
  have ho1311 : Own h11 r13 (encDeed { d with kv := v10, keys := d.keys ++ [key] }) := by
    have q := st11.own
    rw [vv1] at q; exact q
  have ho611 := st11.others r6 _ hr613 ho610
  have ho511 := st11.others r5 _ hr513 ho510
  repeat' (first
    | refine V.ctl rfl ?_
    | (refine V.on rfl ?_; first | refine V.easy rfl rfl ?_ | refine V.val (x_lenS rfl StringT.h (E.l rfl)) rfl ?_ | refine V.val (x_lenL rfl SliceT.u (E.l rfl)) rfl ?_ | refine V.val (x_fld rfl FieldT.h (E.l rfl)) rfl ?_ | refine V.val (x_idxAT rfl (E.l rfl) (E.l rfl) (by omega)) rfl ?_ | refine V.val (x_load rfl (E.l rfl) ScalarT.a (by first | assumption | exact (Own.cell (by assumption) _).trans rfl)) rfl ?_ | refine V.val (x_loadA rfl (E.l rfl) AggT.a AggT.z (by first | assumption | exact Own.loadAll (by assumption) rfl)) rfl ?_ | refine V.val (x_idxS rfl StringT.h (E.l rfl) (E.l rfl) (by assumption)) rfl ?_ | refine V.val (x_add rfl (E.l rfl) (E.l rfl) (by omega) (by omega)) rfl ?_ | refine V.val (x_sub rfl (E.l rfl) (E.l rfl) (by omega) (by omega)) rfl ?_ | skip)
    | (refine VP.on rfl rfl ?_; first | refine VP.easy rfl rfl rfl rfl rfl ?_ | refine VP.v (x_lenS rfl StringT.h (E.l rfl)) rfl rfl rfl rfl ?_ | refine VP.v (x_lenL rfl SliceT.u (E.l rfl)) rfl rfl rfl rfl ?_ | refine VP.v (x_fld rfl FieldT.h (E.l rfl)) rfl rfl rfl rfl ?_ | refine VP.v (x_idxAT rfl (E.l rfl) (E.l rfl) (by omega)) rfl rfl rfl rfl ?_ | refine VP.v (x_load rfl (E.l rfl) ScalarT.a (by first | assumption | exact (Own.cell (by assumption) _).trans rfl)) rfl rfl rfl rfl ?_ | refine VP.v (x_loadA rfl (E.l rfl) AggT.a AggT.z (by first | assumption | exact Own.loadAll (by assumption) rfl)) rfl rfl rfl rfl ?_ | refine VP.v (x_idxS rfl StringT.h (E.l rfl) (E.l rfl) (by assumption)) rfl rfl rfl rfl ?_ | refine VP.v (x_add rfl (E.l rfl) (E.l rfl) (by omega) (by omega)) rfl rfl rfl rfl ?_ | refine VP.v (x_sub rfl (E.l rfl) (E.l rfl) (by omega) (by omega)) rfl rfl rfl rfl ?_ | skip)
    | refine WP.nil ?_
    | refine V.not rfl rfl ?_
    | refine VP.not rfl rfl rfl ?_
    | ((first | refine V.split rfl rfl rfl rfl ?_ ?_ | refine VP.split hpk rfl rfl rfl rfl rfl ?_ ?_ | refine V.cond rfl ?_ ?_) <;> intro hB <;> (try simp only [ltB_eq, leB_eq, eqB_eq, seB_eq, decide_eq_true_eq, decide_eq_false_iff_not, Bool.not_eq_true', Bool.not_eq_false', Bool.not_eq_true, Bool.not_eq_false] at hB) <;> (try (exfalso; first | omega | exact hB trivial))))
  refine V.call (x_call rfl FuncT.ok (E.s rfl)) rfl (open_fn' l rg { d with kv := v10, keys := d.keys ++ [key] } _ (hg4.grow hl411) nl2 hmore) ?_
  rintro v h12 ⟨hl12, hq⟩
  refine V.fresh fun hf12 => ?_
  have ho612 := ho611.grow hf11 hl12
  have ho512 := ho511.grow hf11 hl12
  have hl012 := hl011.trans hl12
  have hg12 := hg4.grow (hl411.trans hl12)
  have hmono : callB { d with kv := v10, keys := d.keys ++ [key] } = true → op = true → openB l { d with kv := v10, keys := d.keys ++ [key] } = true := fun _ q => open_more (by rw [hopen]; exact q)
  clear ho611 ho511 ho1311 ho1310 ho610 ho510 ho136 ho66 ho56 ho67
  rcases hq with ⟨hc2, rfl⟩ | ⟨hc2, rfl⟩
  all_goals
    have hh := hd
    repeat' (first
    | refine V.ctl rfl ?_
    | (refine V.on rfl ?_; first | refine V.easy rfl rfl ?_ | refine V.val (x_lenS rfl StringT.h (E.l rfl)) rfl ?_ | refine V.val (x_lenL rfl SliceT.u (E.l rfl)) rfl ?_ | refine V.val (x_fld rfl FieldT.h (E.l rfl)) rfl ?_ | refine V.val (x_idxAT rfl (E.l rfl) (E.l rfl) (by omega)) rfl ?_ | refine V.val (x_load rfl (E.l rfl) ScalarT.a (by first | assumption | exact (Own.cell (by assumption) _).trans rfl)) rfl ?_ | refine V.val (x_loadA rfl (E.l rfl) AggT.a AggT.z (by first | assumption | exact Own.loadAll (by assumption) rfl)) rfl ?_ | refine V.val (x_idxS rfl StringT.h (E.l rfl) (E.l rfl) (by assumption)) rfl ?_ | refine V.val (x_add rfl (E.l rfl) (E.l rfl) (by omega) (by omega)) rfl ?_ | refine V.val (x_sub rfl (E.l rfl) (E.l rfl) (by omega) (by omega)) rfl ?_ | skip)
    | (refine VP.on rfl rfl ?_; first | refine VP.easy rfl rfl rfl rfl rfl ?_ | refine VP.v (x_lenS rfl StringT.h (E.l rfl)) rfl rfl rfl rfl ?_ | refine VP.v (x_lenL rfl SliceT.u (E.l rfl)) rfl rfl rfl rfl ?_ | refine VP.v (x_fld rfl FieldT.h (E.l rfl)) rfl rfl rfl rfl ?_ | refine VP.v (x_idxAT rfl (E.l rfl) (E.l rfl) (by omega)) rfl rfl rfl rfl ?_ | refine VP.v (x_load rfl (E.l rfl) ScalarT.a (by first | assumption | exact (Own.cell (by assumption) _).trans rfl)) rfl rfl rfl rfl ?_ | refine VP.v (x_loadA rfl (E.l rfl) AggT.a AggT.z (by first | assumption | exact Own.loadAll (by assumption) rfl)) rfl rfl rfl rfl ?_ | refine VP.v (x_idxS rfl StringT.h (E.l rfl) (E.l rfl) (by assumption)) rfl rfl rfl rfl ?_ | refine VP.v (x_add rfl (E.l rfl) (E.l rfl) (by omega) (by omega)) rfl rfl rfl rfl ?_ | refine VP.v (x_sub rfl (E.l rfl) (E.l rfl) (by omega) (by omega)) rfl rfl rfl rfl ?_ | skip)
    | refine WP.nil ?_
    | refine V.not rfl rfl ?_
    | refine VP.not rfl rfl rfl ?_
    | ((first | refine V.split rfl rfl rfl rfl ?_ ?_ | refine VP.split hpk rfl rfl rfl rfl rfl ?_ ?_ | refine V.cond rfl ?_ ?_) <;> intro hB <;> (try simp only [ltB_eq, leB_eq, eqB_eq, seB_eq, decide_eq_true_eq, decide_eq_false_iff_not, Bool.not_eq_true', Bool.not_eq_false', Bool.not_eq_true, Bool.not_eq_false] at hB) <;> (try (exfalso; first | omega | exact hB trivial))))
  all_goals first
    | (exfalso; have q := hmono (by assumption) (by assumption); simp_all; done)
    | (subst hopen
       refine V.keep [(0, .slice la l.length lc), (5, .pointer (some ⟨r5, 0, none⟩)), (6, .pointer (some ⟨r6, 0, none⟩)), (9, .pointer (some ⟨rg, 0, none⟩)), (11, .bool (openB l d))] ⟨rfl, rfl, rfl, rfl, rfl, trivial⟩ ?_
       exact opens_rest haw l la lc one d h h12 r5 r6 rg hk hl012 hf12 (sl.grow hl012) (by omega) fl f1 h0 (hd.grow hl012) hcall ho512 ho612 hg12)
end Go.Proofs.YtladhpocefnkjaaGreatDoor
