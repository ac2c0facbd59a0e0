/-
  Rules for proofs over the executor with values that are not known; no condition.
-/
import Derived.Deep.Slices
import Derived.SizedLaws
import Derived.Test.YtladhpocefnkjaaGreatDoorSc
namespace Go.SX
open Go.RowKit
/-! ### leading to a goal -/
structure Ctx (P : Program) (e : E) where
  ok : EnvOk e P
  w0 : World
  base : List Frame
  G : Machine → Prop
  back : ∀ {m m1 : Machine}, Steps P m m1 → G m1 → G m
variable {P : Program} {e : E} {c : Ctx P e}
/-- whatever stands at such a state comes to the goal -/
def W (c : Ctx P e) (x : AM) : Prop := ∀ ρ fr cs w, MR ρ c.w0 x fr cs c.base w → c.G (lone fr cs w)
abbrev S (fn nt : Nat) (tm : T Value) (td : List AIt) (df : List Deferred) (kd : CallKind) (rd : Option Nat) (xs : List AFr) (h : H) : AM := ⟨⟨fn, nt, tm, td, df, .run, kd, rd⟩, xs, h⟩
theorem W.goes {x x1 : AM} (h : ∀ ρ fr cs w, MR ρ c.w0 x fr cs c.base w → Goes P c.w0 x1 c.base (lone fr cs w)) (h1 : W c x1) : W c x := by
  intro ρ fr cs w hM
  obtain ⟨ρ', fr2, cs2, w', hst, hM2⟩ := h ρ fr cs w hM
  exact c.back hst (h1 _ _ _ _ hM2)
theorem W.step {x x1 : AM} (hs : SX.step e x = .go x1) (h1 : W c x1) : W c x := W.goes (fun _ _ _ _ hM => step_sound c.ok hM hs) h1
section
variable {fn nt : Nat} {tm tm' : T Value} {k k' : List AIt} {df : List Deferred} {kd : CallKind} {rd : Option Nat} {xs : List AFr} {h h' : H}
theorem W.seq {a b : Code} (h1 : W c (S fn nt tm (.code a :: .code b :: k) df kd rd xs h)) : W c (S fn nt tm (.code (.seq a b) :: k) df kd rd xs h) := W.step rfl h1
theorem W.skip (h1 : W c (S fn nt tm k df kd rd xs h)) : W c (S fn nt tm (.code .skip :: k) df kd rd xs h) := W.step rfl h1
theorem W.label {l : Nat} (h1 : W c (S fn nt tm k df kd rd xs h)) : W c (S fn nt tm (.code (.label l) :: k) df kd rd xs h) := W.step rfl h1
theorem W.block {id : Nat} {b : Code} (h1 : W c (S fn nt tm (.code b :: .inBlock id :: k) df kd rd xs h)) : W c (S fn nt tm (.code (.block id b) :: k) df kd rd xs h) := W.step rfl h1
theorem W.inBlock {id : Nat} (h1 : W c (S fn nt tm k df kd rd xs h)) : W c (S fn nt tm (.inBlock id :: k) df kd rd xs h) := W.step rfl h1
theorem W.scope {b : Code} (h1 : W c (S fn nt tm (.code b :: .inScope b :: k) df kd rd xs h)) : W c (S fn nt tm (.code (.scope b) :: k) df kd rd xs h) := W.step rfl h1
theorem W.inScope {b : Code} (h1 : W c (S fn nt tm k df kd rd xs h)) : W c (S fn nt tm (.inScope b :: k) df kd rd xs h) := W.step rfl h1
theorem W.loop {b : Code} (h1 : W c (S fn nt tm (.code b :: .inLoop b :: k) df kd rd xs h)) : W c (S fn nt tm (.code (.loop b) :: k) df kd rd xs h) := W.step rfl h1
theorem W.inLoop {b : Code} (h1 : W c (S fn nt tm (.code b :: .inLoop b :: k) df kd rd xs h)) : W c (S fn nt tm (.inLoop b :: k) df kd rd xs h) := W.step rfl h1
theorem W.exit {id : Nat} (hx : exitToA id k = some k') (h1 : W c (S fn nt tm k' df kd rd xs h)) : W c (S fn nt tm (.code (.exit id) :: k) df kd rd xs h) := W.step (by simp only [SX.step, exec, hx]) h1
theorem W.goto {l : Nat} (hx : gotoInA l k = some k') (h1 : W c (S fn nt tm k' df kd rd xs h)) : W c (S fn nt tm (.code (.goto l) :: k) df kd rd xs h) := W.step (by simp only [SX.step, exec, hx]) h1
theorem W.cond {x : Operand} {a b : Code} {t : Bool} (hv : ev tm x = some (.bool t)) (h1 : t = true → W c (S fn nt tm (.code a :: k) df kd rd xs h)) (h2 : t = false → W c (S fn nt tm (.code b :: k) df kd rd xs h)) :
    W c (S fn nt tm (.code (.cond x a b) :: k) df kd rd xs h) := by
  have hst : SX.step e (S fn nt tm (.code (.cond x a b) :: k) df kd rd xs h) = .go (S fn nt tm (.code (bif t then a else b) :: k) df kd rd xs h) := by simp only [SX.step, exec, hv]
  refine W.step hst ?_
  cases t with
  | true => exact h1 rfl
  | false => exact h2 rfl
theorem W.condT {x : Operand} {a b : Code} (hv : ev tm x = some (.bool true)) (h1 : W c (S fn nt tm (.code a :: k) df kd rd xs h)) : W c (S fn nt tm (.code (.cond x a b) :: k) df kd rd xs h) := W.cond hv (fun _ => h1) (fun q => by cases q)
theorem W.condF {x : Operand} {a b : Code} (hv : ev tm x = some (.bool false)) (h1 : W c (S fn nt tm (.code b :: k) df kd rd xs h)) : W c (S fn nt tm (.code (.cond x a b) :: k) df kd rd xs h) := W.cond hv (fun q => by cases q) (fun _ => h1)
/-! less is known -/
def TSub (tm' tm : T Value) : Prop := ∀ i v, tm'.get i = some v → tm.get i = some v
def sk : List (Nat × Value) → T Value
  | [] => .nil
  | (i, v) :: l => (sk l).set i v
def Has (tm : T Value) : List (Nat × Value) → Prop
  | [] => True
  | (i, v) :: l => tm.get i = some v ∧ Has tm l
theorem TSub.sk {tm : T Value} : ∀ {l : List (Nat × Value)}, Has tm l → TSub (SX.sk l) tm
  | [], _ => fun i v hv => by simp [SX.sk, T.get] at hv
  | (j, u) :: l, hl => fun i v hv => by
    simp only [SX.sk, T.get_set] at hv
    split at hv
    · rename_i q; subst q; cases hv; exact hl.1
    · exact TSub.sk hl.2 i v hv
theorem TRel.sub {ρ : Rho} {tmps : Array Value} (hs : TSub tm' tm) (ht : TRel ρ tm tmps) : TRel ρ tm' tmps := fun i v hv => ht i v (hs i v hv)
theorem W.weak {cd : Code} (hs : TSub tm' tm) (h1 : W c (S fn nt tm' (.code cd :: k) df kd rd xs h)) : W c (S fn nt tm (.code cd :: k) df kd rd xs h) := by
  intro ρ fr cs w hM
  obtain ⟨hi, ⟨lo, cs1, hcs1, hlo, hf, hcs⟩, hbot⟩ := hM
  refine h1 ρ fr cs w ⟨hi, ⟨lo, cs1, hcs1, hlo, ?_, hcs⟩, bottom_top hbot rfl⟩
  have hb := hf.run rfl
  refine { fn := hf.fn, kind := hf.kind, kinds := hf.kinds, nt := hf.nt, mode := hf.mode, defers := hf.defers, round := hf.round, run := fun _ => ?_, off := fun q => absurd rfl q }
  simp only at hb ⊢
  generalize fr.todo = td at hb ⊢
  cases hb with
  | plain ht hk => exact .plain (ht.sub hs) hk
theorem W.weakOps {arr rest : List Oper} (hs : TSub tm' tm) (h1 : W c (S fn nt tm' (.ops arr rest :: k) df kd rd xs h)) : W c (S fn nt tm (.ops arr rest :: k) df kd rd xs h) := by
  intro ρ fr cs w hM
  obtain ⟨hi, ⟨lo, cs1, hcs1, hlo, hf, hcs⟩, hbot⟩ := hM
  refine h1 ρ fr cs w ⟨hi, ⟨lo, cs1, hcs1, hlo, ?_, hcs⟩, bottom_top hbot rfl⟩
  have hb := hf.run rfl
  refine { fn := hf.fn, kind := hf.kind, kinds := hf.kinds, nt := hf.nt, mode := hf.mode, defers := hf.defers, round := hf.round, run := fun _ => ?_, off := fun q => absurd rfl q }
  simp only at hb ⊢
  generalize fr.todo = td at hb ⊢
  cases hb with
  | plain ht hk => cases hk with | cons ha _ => cases ha
  | ops ht hd hk => exact .ops (ht.sub hs) hd hk
/-- a guard that is not decided yet -/
theorem W.split {arr rest : List Oper} {o g : Oper} {j : Nat} {want B : Bool} {d : Tmp} (hg : o.guard = some (j, want)) (hj : arr[j]? = some g) (hd : g.dst = some d) (hv : tm.get d = some (.bool B))
    (h1 : B = true → W c (S fn nt (tm.set d (.bool true)) (.ops arr (o :: rest) :: k) df kd rd xs h)) (h0 : B = false → W c (S fn nt (tm.set d (.bool false)) (.ops arr (o :: rest) :: k) df kd rd xs h)) :
    W c (S fn nt tm (.ops arr (o :: rest) :: k) df kd rd xs h) := by
  have key : ∀ b, B = b → TSub (tm.set d (.bool b)) tm := by
    intro b hb i v hi
    rw [T.get_set] at hi
    split at hi
    · rename_i q; subst q; cases hi; rw [hv, hb]
    · exact hi
  cases hB : B with
  | true => exact W.weakOps (key true hB) (h1 hB)
  | false => exact W.weakOps (key false hB) (h0 hB)
/-- what memory looks like, whatever happens -/
structure Fresh (h : H) : Prop where
  lt : ∀ r k, h.b.get r = some k → r < h.n ∧ k.grp < h.n
  g : ∀ g ms, h.g.get g = some ms → g < h.n
theorem W.fresh {x : AM} (h1 : Fresh x.h → W c x) : W c x := fun ρ fr cs w hM => h1 ⟨hM.inv.fresh, hM.inv.gfresh⟩ ρ fr cs w hM
/-! ### operations of a region of fixed order -/
theorem W.region {id : Nat} {arr : Array Oper} (hd : dstOk nt arr.toList = true) (h1 : W c (S fn nt tm (.ops arr.toList arr.toList :: k) df kd rd xs h)) : W c (S fn nt tm (.code (.region id arr false) :: k) df kd rd xs h) :=
  W.step (by simp only [SX.step, exec, hd, Bool.not_true, cond_false]) h1
theorem W.opsNil {arr : List Oper} (h1 : W c (S fn nt tm k df kd rd xs h)) : W c (S fn nt tm (.ops arr [] :: k) df kd rd xs h) := W.step rfl h1
/-- a call to come -/
def Call (c : Ctx P e) (x : AFr) (xs : List AFr) (h : H) (f : FuncId) (args : List Value) : Prop :=
  ∀ ρ lo fr cs1 w (args' : Array Value), Inv ρ h c.w0 w → lo ≤ h.n → FRel ρ lo h.n true x fr → x.mode = .run → SRel ρ lo xs cs1 → bottom x xs → VRels ρ args args'.toList →
    c.G (lone (Frame.enter P f args' .normal) (fr :: (cs1 ++ c.base)) w)
theorem op_at {arr rest : List Oper} {o : Oper} {ρ : Rho} {fr : Frame} {cs : List Frame} {w : World} (hM : MR ρ c.w0 (S fn nt tm (.ops arr (o :: rest) :: k) df kd rd xs h) fr cs c.base w) (hw : wantedA arr tm o.guard = some true) {r : R} (hx : xop e tm h o = some r)
    (hrd : rd = none ∨ ∀ d, r ≠ .defer d) :
    ∃ lo cs1, cs = cs1 ++ c.base ∧ lo ≤ h.n ∧ SRel ρ lo xs cs1 ∧ FRel ρ lo h.n true ⟨fn, nt, tm, .ops arr (o :: rest) :: k, df, .run, kd, rd⟩ fr ∧ bottom ⟨fn, nt, tm, .ops arr (o :: rest) :: k, df, .run, kd, rd⟩ xs ∧ Inv ρ h c.w0 w ∧
      RSound P ρ h.n c.w0 w ((execOp fr.eval o).run P w) r ∧ stepG P true { frame := fr, callers := cs, status := .running, dying := none } w = stepG.apply P true fr cs none (execOp fr.eval o) w := by
  obtain ⟨hi, ⟨lo, cs1, rfl, hlo, hf, hcs⟩, hbot⟩ := hM
  simp only at hi hlo hf hcs hbot
  have hmf : fr.mode = .run := by have := hf.mode; exact this.run_eq
  have hb := hf.run rfl
  simp only at hb
  generalize hft : fr.todo = ft at hb
  generalize hdr : o :: rest = rr at hb
  cases hb with
  | plain ht hk => cases hk with | cons ha _ => cases ha
  | @ops ops i _ k' ht hd hk =>
    obtain ⟨q1, q2, q3⟩ := drop_cons hdr
    have q3' : i < ops.size := by simpa using q3
    have ho : ops[i]? = some o := by rw [← arr_get]; exact q1
    have hwr := wantedA_rel ht hw
    have hs := xop_sound (P := P) (a := ⟨fr.tmps, fr.defers⟩) c.ok hi ht hx
    have hdf : fr.roundOf = none ∨ ∀ c, o.op ≠ .defer c := by
      rcases hrd with q | q
      · subst q
        have := hf.round
        simp only at this
        generalize fr.roundOf = rf at this
        cases this; exact .inl rfl
      · right; intro cl hc
        unfold xop at hx; rw [hc] at hx; simp only at hx
        split at hx
        · cases hx; exact absurd rfl (q _)
        · cases hx
    rw [range'_cons q3'] at hft
    have hg := stepG_oper (P := P) (w := w) (cs := cs1 ++ c.base) (fr := fr) (K := k') hmf hft ho hwr hdf
    rw [← eval_act] at hs
    rw [← hdr]
    refine ⟨lo, cs1, rfl, hlo, hcs, ?_, hbot, hi, hs, hg⟩
    exact { fn := hf.fn, kind := hf.kind, kinds := hf.kinds, nt := hf.nt, mode := hf.mode, defers := hf.defers, round := hf.round, run := fun _ => (by rw [hft]; simp only; rw [hdr, ← range'_cons q3']; exact .ops ht hd hk), off := fun q => absurd rfl q }
theorem W.op {arr rest : List Oper} {o : Oper} {r : R} {m' : AM} (hw : wantedA arr tm o.guard = some true) (hx : xop e tm h o = some r) (ha : act e ⟨fn, nt, tm, .ops arr (o :: rest) :: k, df, .run, kd, rd⟩ xs h r = some m') (h1 : W c m') :
    W c (S fn nt tm (.ops arr (o :: rest) :: k) df kd rd xs h) := by
  refine W.goes ?_ h1
  intro ρ fr cs w hM
  have hrd : rd = none ∨ ∀ d, r ≠ .defer d := by
    cases r with
    | defer d =>
      left
      simp only [act] at ha
      cases rd with
      | none => rfl
      | some l => cases ha
    | _ => exact .inr fun d q => by cases q
  obtain ⟨lo, cs1, rfl, hlo, hcs, hf, hbot, hi, hs, hg⟩ := op_at hM hw hx hrd
  obtain ⟨ρ2, fr2, cs2, w2, h5, h6⟩ := act_sound (w := w) c.ok (by rw [hg]) hs hi hlo hf rfl hcs hbot ha
  exact ⟨ρ2, fr2, cs2, w2, .one h5, h6⟩
theorem W.val {arr rest : List Oper} {o : Oper} {v : Value} {d : Tmp} (hx : xop e tm h o = some (.val v h')) (hd : o.dst = some d) (hw : wantedA arr tm o.guard = some true) (h1 : W c (S fn nt (tm.set d v) (.ops arr rest :: k) df kd rd xs h')) :
    W c (S fn nt tm (.ops arr (o :: rest) :: k) df kd rd xs h) := W.op hw hx rfl (by simp only [putD, hd]; exact h1)
theorem W.eff {arr rest : List Oper} {o : Oper} (hw : wantedA arr tm o.guard = some true) (hx : xop e tm h o = some (.skip h')) (h1 : W c (S fn nt (putD tm o.dst undefV) (.ops arr rest :: k) df kd rd xs h')) :
    W c (S fn nt tm (.ops arr (o :: rest) :: k) df kd rd xs h) := W.op hw hx rfl h1
theorem W.not {arr rest : List Oper} {o : Oper} (hw : wantedA arr tm o.guard = some false) (h1 : W c (S fn nt (putD tm o.dst undefV) (.ops arr rest :: k) df kd rd xs h)) :
    W c (S fn nt tm (.ops arr (o :: rest) :: k) df kd rd xs h) := by
  refine W.goes ?_ h1
  intro ρ fr cs w hM
  obtain ⟨hi, ⟨lo, cs1, rfl, hlo, hf, hcs⟩, hbot⟩ := hM
  simp only at hi hlo hf hcs hbot
  have hmf : fr.mode = .run := by have := hf.mode; exact this.run_eq
  have hb := hf.run rfl
  simp only at hb
  generalize hft : fr.todo = ft at hb
  generalize hdr : o :: rest = rr at hb
  cases hb with
  | plain ht hk => cases hk with | cons ha _ => cases ha
  | @ops ops i _ k' ht hd hk =>
    obtain ⟨q1, q2, q3⟩ := drop_cons hdr
    have q3' : i < ops.size := by simpa using q3
    have ho : ops[i]? = some o := by rw [← arr_get]; exact q1
    have hwr := wantedA_rel ht hw
    rw [range'_cons q3'] at hft
    have hfull : FRel ρ lo h.n true ⟨fn, nt, tm, .ops ops.toList (o :: rest) :: k, df, .run, kd, rd⟩ fr :=
      { fn := hf.fn, kind := hf.kind, kinds := hf.kinds, nt := hf.nt, mode := hf.mode, defers := hf.defers, round := hf.round, run := fun _ => (by rw [hft]; simp only; rw [hdr, ← range'_cons q3']; exact .ops ht hd hk), off := fun q => absurd rfl q }
    exact ⟨ρ, fr.finish undef, cs1 ++ c.base, w, .one (step_not hmf hft ho hwr), hi, ⟨lo, cs1, rfl, hlo, finish_rel (v := undefV) (x' := ⟨fn, nt, putD tm o.dst undefV, .ops ops.toList rest :: k, df, .run, kd, rd⟩) hfull rfl (.tuple .nil), hcs⟩, bottom_top hbot rfl⟩
theorem W.call {arr rest : List Oper} {o : Oper} {f : FuncId} {args : List Value} (hw : wantedA arr tm o.guard = some true) (hx : xop e tm h o = some (.enter f args)) (h1 : Call c ⟨fn, nt, tm, .ops arr (o :: rest) :: k, df, .run, kd, rd⟩ xs h f args) :
    W c (S fn nt tm (.ops arr (o :: rest) :: k) df kd rd xs h) := by
  intro ρ fr cs w hM
  obtain ⟨lo, cs1, rfl, hlo, hcs, hf, hbot, hi, hs, hg⟩ := op_at hM hw hx (.inr fun d q => by cases q)
  obtain ⟨args', hr, ha⟩ := hs
  exact c.back (.one (ap_enter (by rw [hg]) (hf.run rfl).notCall hr)) (h1 ρ lo fr cs1 w args' hi hlo hf rfl hcs hbot ha)
end
section
variable {fn nt : Nat} {tm tm' : T Value} {k k' : List AIt} {df : List Deferred} {kd : CallKind} {rd : Option Nat} {xs : List AFr} {h h' : H}
/-- an operation that is wanted -/
def WG (c : Ctx P e) (fn nt : Nat) (tm : T Value) (arr : List Oper) (o : Oper) (rest : List Oper) (k : List AIt) (df : List Deferred) (kd : CallKind) (rd : Option Nat) (xs : List AFr) (h : H) : Prop :=
  wantedA arr tm o.guard = some true → W c (S fn nt tm (.ops arr (o :: rest) :: k) df kd rd xs h)
theorem W.on {arr rest : List Oper} {o : Oper} (hw : wantedA arr tm o.guard = some true) (h1 : WG c fn nt tm arr o rest k df kd rd xs h) : W c (S fn nt tm (.ops arr (o :: rest) :: k) df kd rd xs h) := h1 hw
theorem WG.val {arr rest : List Oper} {o : Oper} {v : Value} {d : Tmp} (hx : xop e tm h o = some (.val v h')) (hd : o.dst = some d) (h1 : W c (S fn nt (tm.set d v) (.ops arr rest :: k) df kd rd xs h')) : WG c fn nt tm arr o rest k df kd rd xs h :=
  fun hw => W.val hx hd hw h1
theorem WG.eff {arr rest : List Oper} {o : Oper} (hx : xop e tm h o = some (.skip h')) (h1 : W c (S fn nt (putD tm o.dst undefV) (.ops arr rest :: k) df kd rd xs h')) : WG c fn nt tm arr o rest k df kd rd xs h :=
  fun hw => W.eff hw hx h1
end
/-! ### functions -/
/-- what a call gives, and what memory is behind it -/
def Gives (P : Program) (e : E) (f : FuncId) (args : List Value) (h : H) (Q : Value → H → Prop) : Prop :=
  ∀ (c : Ctx P e) (x : AFr) (xs : List AFr), (∀ v h', Q v h' → ∃ x', finish x v = some x' ∧ W c ⟨x', xs, h'⟩) → Call c x xs h f args
theorem Gives.mono {f : FuncId} {args : List Value} {h : H} {Q Q' : Value → H → Prop} (hF : Gives P e f args h Q) (hq : ∀ v h', Q v h' → Q' v h') : Gives P e f args h Q' :=
  fun c x xs hk => hF c x xs fun v h' q => hk v h' (hq v h' q)
/-- a call is the run of the body -/
theorem Gives.body {f : FuncId} {F : Func} {C : Code} {args : List Value} {h : H} {Q : Value → H → Prop} (hF : e.fn.get f = some F) (hb : F.body = some C)
    (h1 : ∀ (c : Ctx P e) (x : AFr) (xs : List AFr), (∀ v h', Q v h' → ∃ x', finish x v = some x' ∧ W c ⟨x', xs, h'⟩) → W c (S f F.ntmps (T.ofList args 0 .nil) [.code C] [] .normal none (x :: xs) h)) : Gives P e f args h Q := by
  intro c x xs hk ρ lo fr cs1 w args' hi hlo hf hm hcs hbot ha
  have hen : enterFr e f args .normal = some ⟨f, F.ntmps, T.ofList args 0 .nil, [.code C], [], .run, .normal, none⟩ := by simp only [enterFr, hF, hb]
  obtain ⟨h2, h3⟩ := enter_rel (n := h.n) c.ok hen ha (.inl rfl)
  exact h1 c x xs hk ρ _ _ w ⟨hi, ⟨h.n, fr :: cs1, rfl, Nat.le_refl _, h2, .cons hlo hf hcs⟩, hbot⟩
section
variable {fn nt : Nat} {tm tm' : T Value} {k k' : List AIt} {df : List Deferred} {kd : CallKind} {rd : Option Nat} {xs : List AFr} {h h' : H}
/-- a call by its contract -/
theorem W.callF {arr rest : List Oper} {o : Oper} {f : FuncId} {args : List Value} {Q : Value → H → Prop} {d : Tmp} (hx : xop e tm h o = some (.enter f args)) (hd : o.dst = some d) (hw : wantedA arr tm o.guard = some true) (hF : Gives P e f args h Q)
    (h1 : ∀ v h', Q v h' → W c (S fn nt (tm.set d v) (.ops arr rest :: k) df kd rd xs h')) : W c (S fn nt tm (.ops arr (o :: rest) :: k) df kd rd xs h) :=
  W.call hw hx (hF c _ _ fun v h' q => ⟨_, rfl, by simp only [putD, hd]; exact h1 v h' q⟩)
/-- the end of a body -/
theorem W.ret {F : Func} {vs : List Value} {x : AFr} {Q : Value → H → Prop} (hF : e.fn.get fn = some F) (hr : resultsA e h tm F.results.toList = some vs) (hk : ∀ v h', Q v h' → ∃ x', finish x v = some x' ∧ W c ⟨x', xs, h'⟩) (hq : Q (tup vs) h) :
    W c (S fn nt tm (.code .ret :: k) [] .normal none (x :: xs) h) := by
  obtain ⟨x', h1, h2⟩ := hk _ _ hq
  refine W.step (x1 := ⟨⟨fn, nt, tm, .code .ret :: k, [], .returning, .normal, none⟩, x :: xs, h⟩) rfl ?_
  refine W.step (x1 := ⟨x', xs, h⟩) ?_ h2
  simp only [SX.step, unwindA, hF, hr, doRet, h1]
theorem W.fin {F : Func} {vs : List Value} {x : AFr} {Q : Value → H → Prop} (hF : e.fn.get fn = some F) (hr : resultsA e h tm F.results.toList = some vs) (hk : ∀ v h', Q v h' → ∃ x', finish x v = some x' ∧ W c ⟨x', xs, h'⟩) (hq : Q (tup vs) h) :
    W c (S fn nt tm [] [] .normal none (x :: xs) h) := by
  obtain ⟨x', h1, h2⟩ := hk _ _ hq
  refine W.step (x1 := ⟨⟨fn, nt, tm, [], [], .returning, .normal, none⟩, x :: xs, h⟩) rfl ?_
  refine W.step (x1 := ⟨x', xs, h⟩) ?_ h2
  simp only [SX.step, unwindA, hF, hr, doRet, h1]
/-- rounds -/
theorem W.rounds {α : Type} {b : Code} (μ : α → Nat) (slots : α → List (Nat × Value)) (I : α → H → Prop) (a0 : α) (hs : Has tm (slots a0)) (h0 : I a0 h)
    (h1 : ∀ a h, I a h → (∀ a' tm' h', μ a' < μ a → I a' h' → Has tm' (slots a') → W c (S fn nt tm' (.inLoop b :: k) df kd rd xs h')) → W c (S fn nt (sk (slots a)) (.code b :: .inLoop b :: k) df kd rd xs h)) :
    W c (S fn nt tm (.code (.loop b) :: k) df kd rd xs h) := by
  have key : ∀ n a h, μ a < n → I a h → W c (S fn nt (sk (slots a)) (.code b :: .inLoop b :: k) df kd rd xs h) := by
    intro n
    induction n with
    | zero => intro a h hn; omega
    | succ n ih =>
      intro a h hn hi
      exact h1 a h hi fun a' tm' h' hlt hi' hs' => W.inLoop (W.weak (TSub.sk hs') (ih a' h' (by omega) hi'))
  exact W.loop (W.weak (TSub.sk hs) (key _ a0 h (Nat.lt_succ_self _) h0))
theorem WG.call {arr rest : List Oper} {o : Oper} {f : FuncId} {args : List Value} {Q : Value → H → Prop} {d : Tmp} (hx : xop e tm h o = some (.enter f args)) (hd : o.dst = some d) (hF : Gives P e f args h Q)
    (h1 : ∀ v h', Q v h' → W c (S fn nt (tm.set d v) (.ops arr rest :: k) df kd rd xs h')) : WG c fn nt tm arr o rest k df kd rd xs h := fun hw => W.callF hx hd hw hF h1
end
end Go.SX
namespace Go.SX
open Go.RowKit
variable {e : E} {tm : T Value} {h h' : H} {o : Oper}
/-! ### tests, that do not unfold -/
noncomputable def ltB (a b : Int) : Bool := @decide (a < b) (Classical.propDecidable _)
noncomputable def leB (a b : Int) : Bool := @decide (a ≤ b) (Classical.propDecidable _)
noncomputable def eqB (a b : Int) : Bool := @decide (a = b) (Classical.propDecidable _)
noncomputable def seB (a b : List UInt8) : Bool := @decide (a = b) (Classical.propDecidable _)
theorem ltB_eq (a b : Int) : ltB a b = decide (a < b) := by unfold ltB; congr
theorem leB_eq (a b : Int) : leB a b = decide (a ≤ b) := by unfold leB; congr
theorem eqB_eq (a b : Int) : eqB a b = decide (a = b) := by unfold eqB; congr
theorem seB_eq (a b : List UInt8) : seB a b = decide (a = b) := by unfold seB; congr
/-! ### what each operation gives -/
theorem x_move {x : Operand} {v : Value} (ho : o.op = .move x) (hv : ev tm x = some v) : xop e tm h o = some (.val v h) := by
  unfold xop; rw [ho]; simp only [hv, ret]
theorem x_assign {x : Operand} {v : Value} (ho : o.op = .assign x) (hv : ev tm x = some v) : xop e tm h o = some (.val v h) := by
  unfold xop; rw [ho]; simp only [hv, ret]
theorem x_pickT {x a b : Operand} {v : Value} (ho : o.op = .pick x a b) (hx : ev tm x = some (.bool true)) (hv : ev tm a = some v) : xop e tm h o = some (.val v h) := by
  unfold xop; rw [ho]; simp only [hx, hv, ret, bind1, cond_true]
theorem x_pickF {x a b : Operand} {v : Value} (ho : o.op = .pick x a b) (hx : ev tm x = some (.bool false)) (hv : ev tm b = some v) : xop e tm h o = some (.val v h) := by
  unfold xop; rw [ho]; simp only [hx, hv, ret, bind1, cond_false]
theorem x_not {t : TypeId} {x : Operand} {b : Bool} (ho : o.op = .unOp .not t x) (hx : ev tm x = some (.bool b)) : xop e tm h o = some (.val (.bool (!b)) h) := by
  unfold xop; rw [ho]; simp only [hx, bind1]
theorem fit_in {n : Int} (h1 : -9223372036854775808 ≤ n) (h2 : n ≤ 9223372036854775807) : fit .i64 n = n := by
  unfold fit
  have : (ileb (lo .i64) n && ileb n (hi .i64)) = true := by
    simp only [lo, hi, ileb_iff, Bool.and_eq_true, decide_eq_true_eq]; exact ⟨h1, h2⟩
  rw [this]; rfl
theorem x_bin {op : BinOp} {t u : TypeId} {x y : Operand} {a b v : Value} (ho : o.op = .binOp op t x y u) (hx : ev tm x = some a) (hy : ev tm y = some b) (hv : xbin e op t x y a b = some v) : xop e tm h o = some (.val v h) := by
  unfold xop; rw [ho]; simp only [hx, hy, bind2, hv, ret]
theorem x_add {t u : TypeId} {x y : Operand} {a b : Int} (ho : o.op = .binOp .add t x y u) (hx : ev tm x = some (.int .i64 a)) (hy : ev tm y = some (.int .i64 b)) (h1 : -9223372036854775808 ≤ a + b) (h2 : a + b ≤ 9223372036854775807) :
    xop e tm h o = some (.val (.int .i64 (a + b)) h) := x_bin ho hx hy (by show some (Value.int .i64 (fit .i64 (a + b))) = _; rw [fit_in h1 h2])
theorem x_sub {t u : TypeId} {x y : Operand} {a b : Int} (ho : o.op = .binOp .sub t x y u) (hx : ev tm x = some (.int .i64 a)) (hy : ev tm y = some (.int .i64 b)) (h1 : -9223372036854775808 ≤ a - b) (h2 : a - b ≤ 9223372036854775807) :
    xop e tm h o = some (.val (.int .i64 (a - b)) h) := x_bin ho hx hy (by show some (Value.int .i64 (fit .i64 (a - b))) = _; rw [fit_in h1 h2])
section
variable {t u : TypeId} {x y : Operand} {k : IntKind} {a b : Int}
theorem beq_dec (a b : List UInt8) : (a == b) = decide (a = b) := by rw [Bool.eq_iff_iff]; simp
theorem nle (a b : Int) : (!decide (b ≤ a)) = decide (a < b) := by rw [Bool.eq_iff_iff]; simp
theorem kk (k : IntKind) : (k == k) = true := by cases k <;> rfl
theorem x_lss (ho : o.op = .binOp .lss t x y u) (hx : ev tm x = some (.int k a)) (hy : ev tm y = some (.int k b)) : xop e tm h o = some (.val (.bool (ltB a b)) h) :=
  x_bin ho hx hy (by simp only [xbin, xint, kk, Bool.not_true, cond_false, ileb_iff, nle, ltB_eq])
theorem x_leq (ho : o.op = .binOp .leq t x y u) (hx : ev tm x = some (.int k a)) (hy : ev tm y = some (.int k b)) : xop e tm h o = some (.val (.bool (leB a b)) h) :=
  x_bin ho hx hy (by simp only [xbin, xint, kk, Bool.not_true, cond_false, ileb_iff, leB_eq])
theorem x_gtr (ho : o.op = .binOp .gtr t x y u) (hx : ev tm x = some (.int k a)) (hy : ev tm y = some (.int k b)) : xop e tm h o = some (.val (.bool (ltB b a)) h) :=
  x_bin ho hx hy (by simp only [xbin, xint, kk, Bool.not_true, cond_false, ileb_iff, nle, ltB_eq])
theorem x_geq (ho : o.op = .binOp .geq t x y u) (hx : ev tm x = some (.int k a)) (hy : ev tm y = some (.int k b)) : xop e tm h o = some (.val (.bool (leB b a)) h) :=
  x_bin ho hx hy (by simp only [xbin, xint, kk, Bool.not_true, cond_false, ileb_iff, leB_eq])
theorem x_eqi (ho : o.op = .binOp .eql t x y u) (hx : ev tm x = some (.int k a)) (hy : ev tm y = some (.int k b)) : xop e tm h o = some (.val (.bool (eqB a b)) h) :=
  x_bin ho hx hy (by simp only [xbin, xint, kk, Bool.not_true, cond_false, ibeq_iff, eqB_eq])
theorem x_nei (ho : o.op = .binOp .neq t x y u) (hx : ev tm x = some (.int k a)) (hy : ev tm y = some (.int k b)) : xop e tm h o = some (.val (.bool (!eqB a b)) h) :=
  x_bin ho hx hy (by simp only [xbin, xint, kk, Bool.not_true, cond_false, ibeq_iff, eqB_eq])
theorem x_eqs {a b : ByteArray} (ho : o.op = .binOp .eql t x y u) (hx : ev tm x = some (.string a)) (hy : ev tm y = some (.string b)) : xop e tm h o = some (.val (.bool (seB a.data.toList b.data.toList)) h) :=
  x_bin ho hx hy (by simp only [xbin, xstr, bytesEq_iff, beq_dec, seB_eq])
theorem x_nes {a b : ByteArray} (ho : o.op = .binOp .neq t x y u) (hx : ev tm x = some (.string a)) (hy : ev tm y = some (.string b)) : xop e tm h o = some (.val (.bool (!seB a.data.toList b.data.toList)) h) :=
  x_bin ho hx hy (by simp only [xbin, xstr, bytesEq_iff, beq_dec, seB_eq])
end
theorem x_lenS {x : Operand} {t : TypeId} {ts : List TypeId} {s : ByteArray} (ho : o.op = .call { callee := .builtin .len, args := ⟨[x]⟩, argTypes := ⟨t :: ts⟩ }) (hu : e.under t = some .string) (hx : ev tm x = some (.string s)) :
    xop e tm h o = some (.val (.int .i64 (s.data.toList.length : Nat)) h) := by
  unfold xop; rw [ho]; simp only [evs, hx, xbuiltin, hu, llen_eq]; rfl
theorem x_lenL {x : Operand} {t el : TypeId} {ts : List TypeId} {a : Option Addr} {n cp : Nat} (ho : o.op = .call { callee := .builtin .len, args := ⟨[x]⟩, argTypes := ⟨t :: ts⟩ }) (hu : e.under t = some (.slice el)) (hx : ev tm x = some (.slice a n cp)) :
    xop e tm h o = some (.val (.int .i64 (n : Nat)) h) := by
  unfold xop; rw [ho]; simp only [evs, hx, xbuiltin, hu]; rfl
theorem x_idxS {t : TypeId} {x i : Operand} {s : ByteArray} {j : Nat} {k : IntKind} {b : UInt8} (ho : o.op = .index t x i) (hu : e.under t = some .string) (hx : ev tm x = some (.string s)) (hi : ev tm i = some (.int k (j : Nat))) (hb : s.data.toList[j]? = some b) :
    xop e tm h o = some (.val (.int .u8 b.toNat) h) := by
  have hk : nat? (.int k (j : Nat)) = some j := rfl
  unfold xop; rw [ho]; simp only [hx, hi, bind2, hu, hk, lget_eq, hb, byteVal]; rfl
theorem x_call {f : FuncId} {args : Array Operand} {ts : Array TypeId} {vs : List Value} (ho : o.op = .call { callee := .value (.func f), args, argTypes := ts }) (hf : fnOk e f = true) (ha : evs tm args.toList = some vs) :
    xop e tm h o = some (.enter f vs) := by
  unfold xop; rw [ho]; simp only [ev, ha, invokeA, hf, cond_true, lapp_eq, List.nil_append, List.append_nil]
theorem x_ext {x : Operand} {i : Nat} {vs : List Value} {v : Value} (ho : o.op = .extract x i) (hx : ev tm x = some (.tuple ⟨vs⟩)) (hv : vs[i]? = some v) : xop e tm h o = some (.val v h) := by
  unfold xop; rw [ho]; simp only [hx, bind1, lget_eq, hv, ret]
end Go.SX
namespace Go.SX
open Go.RowKit
variable {e : E} {h h' : H}
/-! ### an operation sees its operands alone -/
def reads : Operand → Tmp → Prop
  | .tmp t, s => t = s
  | _, _ => False
def Agree (xs : List Operand) (a b : T Value) : Prop := ∀ x, x ∈ xs → ∀ t, reads x t → a.get t = b.get t
theorem Agree.ev {xs : List Operand} {a b : T Value} (h : Agree xs a b) {x : Operand} (hx : x ∈ xs) : SX.ev a x = SX.ev b x := by
  cases x with
  | tmp t => exact h _ hx t rfl
  | _ => rfl
theorem Agree.evs {a b : T Value} : ∀ {xs : List Operand}, Agree xs a b → SX.evs a xs = SX.evs b xs
  | [], _ => rfl
  | x :: xs, h => by
    simp only [SX.evs]
    rw [h.ev (List.mem_cons_self ..), Agree.evs (xs := xs) fun y hy => h y (List.mem_cons_of_mem _ hy)]
theorem Agree.sub {a b : T Value} {xs ys : List Operand} (h : Agree ys a b) (hs : ∀ x, x ∈ xs → x ∈ ys) : Agree xs a b := fun x hx => h x (hs x hx)
theorem Agree.evParts {a b : T Value} : ∀ {ps : List (Nat × Operand)}, Agree (ps.map (·.2)) a b → SX.evParts a ps = SX.evParts b ps
  | [], _ => rfl
  | (i, x) :: ps, h => by
    simp only [SX.evParts]
    rw [h.ev (x := x) (by simp), Agree.evParts (ps := ps) (h.sub fun y hy => by simp at hy ⊢; exact .inr hy)]
theorem Agree.oev {a b : T Value} {xs : List Operand} (h : Agree xs a b) {o : Option Operand} (ho : ∀ x, o = some x → x ∈ xs) : SX.oev a o = SX.oev b o := by
  cases o with
  | none => rfl
  | some x => simp only [SX.oev]; rw [h.ev (ho x rfl)]
theorem xfresh_agree {op : Op} {a b : T Value} (h : Agree op.operands.toList a b) : xfresh e a op = xfresh e b op := by
  cases op with
  | box el x => simp only [xfresh]; rw [h.ev (by simp [Op.operands])]
  | buildSlice t n ps => simp only [xfresh]; rw [Agree.evParts (h.sub fun x hx => by simpa [Op.operands] using hx)]
  | makeSlice t l c => simp only [xfresh]; rw [h.ev (x := l) (by simp [Op.operands]), h.ev (x := c) (by simp [Op.operands])]
  | makeMap t r => cases r <;> rfl
  | _ => rfl
theorem xop_agree {o : Oper} {a b : T Value} (hg : Agree o.op.operands.toList a b) : xop e a h o = xop e b h o := by
  obtain ⟨dst, op, ty, pos, after, guard⟩ := o
  simp only at hg
  have hf := xfresh_agree (e := e) hg
  cases op with
  | move x => simp only [xop]; rw [hg.ev (by simp [Op.operands])]
  | assign x => simp only [xop]; rw [hg.ev (by simp [Op.operands])]
  | pick c x y =>
    simp only [xop]
    rw [hg.ev (x := c) (by simp [Op.operands])]
    congr 1; funext v
    cases v <;> first | rfl | (rename_i t; cases t <;> simp only [cond_true, cond_false] <;> rw [hg.ev (by simp [Op.operands])])
  | alloc el => simp only [xop, hf]
  | box el x => simp only [xop, hf]
  | buildSlice t n ps => simp only [xop, hf]
  | makeMap t r => simp only [xop, hf]
  | makeSlice t l cp => simp only [xop, hf]
  | build t ps => simp only [xop]; rw [Agree.evParts (hg.sub fun x hx => by simpa [Op.operands] using hx)]
  | load t x => simp only [xop]; rw [hg.ev (by simp [Op.operands])]
  | store t x y => simp only [xop]; rw [hg.ev (x := x) (by simp [Op.operands]), hg.ev (x := y) (by simp [Op.operands])]
  | nilCheck x => simp only [xop]; rw [hg.ev (by simp [Op.operands])]
  | binOp op t x y u => simp only [xop]; rw [hg.ev (x := x) (by simp [Op.operands]), hg.ev (x := y) (by simp [Op.operands])]
  | unOp op t x => simp only [xop]; rw [hg.ev (by simp [Op.operands])]
  | convert s d x => simp only [xop]; rw [hg.ev (by simp [Op.operands])]
  | makeInterface t x => simp only [xop]; rw [hg.ev (by simp [Op.operands])]
  | makeFunc fn first cap =>
    simp only [xop]
    rw [Agree.evs (xs := first.toList) (hg.sub fun x hx => by simp [Op.operands]; exact .inl (by simpa using hx)), Agree.evs (xs := cap.toList) (hg.sub fun x hx => by simp [Op.operands]; exact .inr (by simpa using hx))]
  | slice t x lo hi mx =>
    simp only [xop]
    rw [hg.ev (x := x) (by simp [Op.operands]), hg.oev (o := lo) (fun y hy => by subst hy; simp [Op.operands]), hg.oev (o := hi) (fun y hy => by subst hy; simp [Op.operands]), hg.oev (o := mx) (fun y hy => by subst hy; simp [Op.operands])]
  | fieldAddr t x f => simp only [xop]; rw [hg.ev (by simp [Op.operands])]
  | indexAddr t x y => simp only [xop]; rw [hg.ev (x := x) (by simp [Op.operands]), hg.ev (x := y) (by simp [Op.operands])]
  | index t x y => simp only [xop]; rw [hg.ev (x := x) (by simp [Op.operands]), hg.ev (x := y) (by simp [Op.operands])]
  | lookup t x y ok => simp only [xop]; rw [hg.ev (x := x) (by simp [Op.operands]), hg.ev (x := y) (by simp [Op.operands])]
  | mapUpdate t m x y => simp only [xop]; rw [hg.ev (x := m) (by simp [Op.operands]), hg.ev (x := x) (by simp [Op.operands]), hg.ev (x := y) (by simp [Op.operands])]
  | insert t m x y => simp only [xop]; rw [hg.ev (x := m) (by simp [Op.operands]), hg.ev (x := x) (by simp [Op.operands]), hg.ev (x := y) (by simp [Op.operands])]
  | range t x => simp only [xop]; rw [hg.ev (by simp [Op.operands])]
  | next x b => simp only [xop]; rw [hg.ev (by simp [Op.operands])]
  | typeAssert x t u ok => simp only [xop]; rw [hg.ev (by simp [Op.operands])]
  | extract x i => simp only [xop]; rw [hg.ev (by simp [Op.operands])]
  | panic x => simp only [xop]; rw [hg.ev (by simp [Op.operands])]
  | call cl =>
    simp only [xop]
    have hargs := Agree.evs (xs := cl.args.toList) (hg.sub fun x hx => by simp [Op.operands, Call.operands]; exact .inr (by simpa using hx))
    rw [hargs]
    cases hc : cl.callee with
    | builtin bi => rfl
    | invoke r nm => simp only; rw [hg.ev (x := r) (by simp [Op.operands, Call.operands, hc])]
    | value f => simp only; rw [hg.ev (x := f) (by simp [Op.operands, Call.operands, hc])]
  | defer cl =>
    simp only [xop, resolveA]
    have hargs := Agree.evs (xs := cl.args.toList) (hg.sub fun x hx => by simp [Op.operands, Call.operands]; exact .inr (by simpa using hx))
    rw [hargs]
    cases hc : cl.callee with
    | builtin bi => rfl
    | invoke r nm => simp only; rw [hg.ev (x := r) (by simp [Op.operands, Call.operands, hc])]
    | value f => simp only; rw [hg.ev (x := f) (by simp [Op.operands, Call.operands, hc])]
  | _ => rfl
end Go.SX
namespace Go.SX
open Go.RowKit
variable {e : E} {h h' : H}
/-! ### memory that has grown -/
structure HLe (h h' : H) : Prop where
  b : ∀ r k, h.b.get r = some k → h'.b.get r = some k
  g : ∀ i, i < h.n → h'.g.get i = h.g.get i
  n : h.n ≤ h'.n
theorem HLe.refl (h : H) : HLe h h := ⟨fun _ _ q => q, fun _ _ => rfl, Nat.le_refl _⟩
theorem HLe.trans {a b c : H} (x : HLe a b) (y : HLe b c) : HLe a c := ⟨fun r k q => y.b r k (x.b r k q), fun i q => (y.g i (Nat.lt_of_lt_of_le q x.n)).trans (x.g i q), Nat.le_trans x.n y.n⟩
theorem HLe.obj (hl : HLe h h') {r : Nat} {o : AObj} (q : h.obj r = some o) : h'.obj r = some o := by
  unfold H.obj at q ⊢
  cases hk : h.b.get r with
  | none => rw [hk] at q; cases q
  | some k => rw [hk] at q; rw [hl.b _ _ hk]; exact q
theorem HLe.loadAt (hl : HLe h h') {r off n : Nat} {cs : List Value} (q : h.loadAt r off n = some cs) : h'.loadAt r off n = some cs := by
  unfold H.loadAt at q ⊢
  cases ho : h.obj r with
  | none => rw [ho] at q; cases q
  | some o => rw [ho] at q; rw [hl.obj ho]; exact q
theorem HLe.loadVar (hl : HLe h h') {t : TypeId} {r off : Nat} {v : Value} (q : loadVar e h t r off = some v) : loadVar e h' t r off = some v := by
  unfold SX.loadVar at q ⊢
  cases ha : isAgg e t with
  | none => rw [ha] at q; cases q
  | some b =>
    rw [ha] at q
    cases b with
    | true =>
      simp only at q ⊢
      cases hs : sizeOf e t with
      | none => rw [hs] at q; cases q
      | some n =>
        rw [hs] at q
        simp only at q ⊢
        cases hc : h.loadAt r off n with
        | none => rw [hc] at q; cases q
        | some cs => rw [hc] at q; rw [hl.loadAt hc]; exact q
    | false =>
      simp only at q ⊢
      cases hc : h.loadAt r off 1 with
      | none => rw [hc] at q; cases q
      | some cs => rw [hc] at q; rw [hl.loadAt hc]; exact q
theorem HLe.isSome (hl : HLe h h') {r off n : Nat} (q : (h.loadAt r off n).isSome = true) : (h'.loadAt r off n).isSome = true := by
  cases hc : h.loadAt r off n with
  | none => rw [hc] at q; cases q
  | some cs => rw [hl.loadAt hc]; rfl
theorem ret_mono {x : Option Value} {v : Value} {h1 : H} (q : ret h x = some (.val v h1)) : ret h' x = some (.val v h') := by
  cases x with
  | none => cases q
  | some u => simp only [ret, Option.some.injEq, R.val.injEq] at q ⊢; exact ⟨q.1, trivial⟩
theorem bind1_inv {x : Option Value} {f : Value → Option R} {r : R} (q : bind1 x f = some r) : ∃ v, x = some v ∧ f v = some r := by
  cases x with
  | none => cases q
  | some v => exact ⟨v, rfl, q⟩
theorem bind2_inv {x y : Option Value} {f : Value → Value → Option R} {r : R} (q : bind2 x y f = some r) : ∃ v w, x = some v ∧ y = some w ∧ f v w = some r := by
  cases x with
  | none => cases q
  | some v => cases y with
    | none => cases q
    | some w => exact ⟨v, w, rfl, rfl, q⟩
theorem val_inj {v u : Value} {h1 h2 : H} (q : some (R.val u h1) = some (R.val v h2)) : u = v ∧ h1 = h2 := by cases q; exact ⟨rfl, rfl⟩
theorem new_ne (o : AObj) : h.new o ≠ h := by
  intro q
  have := congrArg H.n q
  simp [H.new] at this
theorem xslice_mono (hl : HLe h h') {t : TypeId} {x : Value} {lo hi mx : Option Value} {v : Value} : xslice e h t x lo hi mx = some v → xslice e h' t x lo hi mx = some v := by
  unfold xslice
  cases mx with
  | some _ => exact id
  | none =>
    simp only
    split
    · exact id
    · exact id
    · exact id
    · rename_i n el a _
      intro q
      split at q
      · rename_i l m z _ _
        cases hc : (Nat.ble m n && (h.loadAt a.block a.off (n * z)).isSome) with
        | false => rw [hc] at q; cases q
        | true =>
          rw [hc, cond_true] at q
          rw [Bool.and_eq_true] at hc
          rw [hc.1, hl.isSome hc.2]; exact q
      · cases q
    · exact id
theorem xconv_mono (hl : HLe h h') {s d : TypeId} {x v : Value} : xconv e h s d x = some (.val v h) → xconv e h' s d x = some (.val v h') := by
  unfold xconv
  split
  · intro q; cases q; rfl
  · intro q; cases q; rfl
  · split
    · intro q; exact absurd (val_inj q).2 (new_ne _)
    · intro q; cases q
  · split
    · intro q; cases q; rfl
    · intro q; cases q
  · rename_i el a n _ _ _
    split
    · intro q
      cases hc : h.loadAt a.block a.off n with
      | none => rw [hc] at q; cases q
      | some cs =>
        rw [hc] at q; rw [hl.loadAt hc]
        simp only at q ⊢
        cases hb : bytesOf cs with
        | none => rw [hb] at q; cases q
        | some l => rw [hb] at q; cases q; rfl
    · intro q; cases q
  · intro q
    split at q
    · rename_i vs h1 h2
      simp only [h1, hl.obj h2]
      cases hb : Nat.beq s d with
      | false => rw [hb] at q; cases q
      | true => rw [hb, cond_true] at q; cases q; rfl
    · cases q
  · intro q; cases q
theorem len_mono (hl : HLe h h') {b : Builtin} {ats : List TypeId} {args : List Value} {v : Value} (hb : b = .len ∨ b = .cap ∨ b = .min ∨ b = .max) : xbuiltin e h b ats args = some (.val v h) → xbuiltin e h' b ats args = some (.val v h') := by
  unfold xbuiltin
  split
  · split
    · intro q; cases q; rfl
    · intro q; cases q; rfl
    · intro q; cases q; rfl
    · intro q
      rename_i r _
      cases ho : h.obj r with
      | none => rw [ho] at q; cases q
      | some o => rw [ho] at q; rw [hl.obj ho]; cases o <;> first | (cases q; done) | (cases q; rfl)
    · intro q; cases q
  · rcases hb with hb | hb | hb | hb <;> cases hb
  · rcases hb with hb | hb | hb | hb <;> cases hb
  · intro q; cases q; rfl
  · intro q; cases q; rfl
  · intro q; cases q
theorem bif_mono {b : Bool} {x v : Value} : (bif b then some (R.val x h) else none) = some (.val v h) → (bif b then some (R.val x h') else none) = some (.val v h') := by
  cases b with
  | false => intro q; cases q
  | true => intro q; rw [cond_true] at q ⊢; cases q; rfl
theorem bif_mono0 {b : Bool} {v : Value} {r : Option R} : (bif b then none else none) = some (R.val v h) → r = some (R.val v h') := by
  cases b <;> (intro q; cases q)
theorem map_mono (hl : HLe h h') {u : Value} {es : List MapEntry} : (match u with
          | .map none => some []
          | .map (some r) => (match h.obj r with | some (.map es _) => some es | _ => none)
          | _ => none) = some es → (match u with
          | .map none => some []
          | .map (some r) => (match h'.obj r with | some (.map es _) => some es | _ => none)
          | _ => none) = some es := by
  split
  · exact id
  · split
    · rename_i ho; intro q; rw [hl.obj ho]; exact q
    · intro q; cases q
  · intro q; cases q
theorem ubif {b : Bool} {p q p' q' : Option R} {v : Value} (h1 : p = some (.val v h) → p' = some (.val v h')) (h2 : q = some (.val v h) → q' = some (.val v h')) : (bif b then p else q) = some (.val v h) → (bif b then p' else q') = some (.val v h') := by
  cases b
  · exact h2
  · exact h1
theorem xop_mono (hl : HLe h h') {tm : T Value} {o : Oper} {v : Value} (he : eagerOp o.op = true) (hn : freshOp o.op = false) : xop e tm h o = some (.val v h) → xop e tm h' o = some (.val v h') := by
  obtain ⟨dst, op, ty, pos, after, guard⟩ := o
  simp only at he hn
  cases op <;> try (first | (cases he; done) | (cases hn; done))
  all_goals simp only [xop]
  case load t a =>
    intro q
    obtain ⟨u, h1, h2⟩ := bind1_inv q
    simp only [h1, bind1]
    split at h2
    · rename_i p
      cases hv : loadVar e h t p.block p.off with
      | none => rw [hv] at h2; cases h2
      | some w => rw [hv] at h2; rw [hl.loadVar hv]; exact ret_mono h2
    · cases h2
  case convert s d x =>
    intro q
    obtain ⟨u, h1, h2⟩ := bind1_inv q
    simp only [h1, bind1]; exact xconv_mono hl h2
  case slice t x lo hi mx =>
    intro q
    obtain ⟨u, h1, h2⟩ := bind1_inv q
    simp only [h1, bind1]
    split at h2
    · rename_i a b c h3 h4 h5
      try simp only [h3, h4, h5]
      cases hv : xslice e h t u a b c with
      | none => rw [hv] at h2; cases h2
      | some w => rw [hv] at h2; rw [xslice_mono hl hv]; exact ret_mono h2
    · cases h2
  case lookup t x i ok =>
    intro q
    obtain ⟨u, w, h1, h2, h3⟩ := bind2_inv q
    simp only [h1, h2, bind2]
    split at h3
    · split at h3
      · rename_i kd hkd
        try simp only [hkd]
        cases hb : keyOk kd w with
        | false => rw [hb] at h3; cases h3
        | true =>
          rw [hb, cond_true] at h3; rw [cond_true]
          rename_i el _ _
          have tail : ∀ es : List MapEntry, (match keyIdx kd w es 0 with
              | some (some j) => (match lget es j with
                | some m => some (R.val (bif ok then .tuple ⟨[m.val, .bool true]⟩ else m.val) h)
                | none => none)
              | some none => (match zeroOf e el with
                | some z => bif closedV z then some (R.val (bif ok then .tuple ⟨[z, .bool false]⟩ else z) h) else none
                | none => none)
              | none => none) = some (R.val v h) → (match keyIdx kd w es 0 with
              | some (some j) => (match lget es j with
                | some m => some (R.val (bif ok then .tuple ⟨[m.val, .bool true]⟩ else m.val) h')
                | none => none)
              | some none => (match zeroOf e el with
                | some z => bif closedV z then some (R.val (bif ok then .tuple ⟨[z, .bool false]⟩ else z) h') else none
                | none => none)
              | none => none) = some (R.val v h') := by
            intro es
            split
            · split
              · intro q; cases q; rfl
              · intro q; cases q
            · split
              · exact bif_mono
              · intro q; cases q
            · intro q; cases q
          cases u <;> try (cases h3; done)
          rename_i mr
          cases mr with
          | none => exact tail [] h3
          | some r =>
            simp only at h3 ⊢
            cases ho : h.obj r with
            | none => rw [ho] at h3; cases h3
            | some ob =>
              rw [ho] at h3; rw [hl.obj ho]
              cases ob <;> first | (cases h3; done) | (rename_i es _; exact tail es h3)
      · cases h3
    · cases h3
  case call cl =>
    cases hc : cl.callee with
    | builtin b =>
      simp only
      have hb : b = .len ∨ b = .cap ∨ b = .min ∨ b = .max := by
        obtain ⟨callee, args, ats⟩ := cl
        simp only at hc; subst hc
        cases b <;> first | (simp only [eagerOp] at he; cases he; done) | simp
      split
      · exact len_mono hl hb
      · intro q; cases q
    | invoke r n => obtain ⟨callee, args, ats⟩ := cl; simp only at hc; subst hc; cases he
    | value f => obtain ⟨callee, args, ats⟩ := cl; simp only at hc; subst hc; cases he
  all_goals ((try simp only [bind1, bind2, ret]); repeat' split)
  all_goals first
    | (intro q; cases q; rfl)
    | (intro q; cases q; done)
    | exact bif_mono
    | exact bif_mono0
    | (repeat' (first | apply ubif | (intro q; cases q; rfl) | (intro q; cases q; done)))
end Go.SX
namespace Go.SX
open Go.RowKit
/-! ### the order in which a region of open order is gone through here -/
inductive PI where
  | e (i : Nat)
  | x (i : Nat) (needs : Bool)
  deriving DecidableEq
def heapFree : Op → Bool
  | .load .. | .lookup .. | .slice .. | .convert .. | .call _ => false
  | o => !freshOp o
def candL (bs : List Nat) (ef : List (Nat × Oper)) (k : Nat) : List Oper → Nat → List Nat
  | [], _ => []
  | o :: l, i => bif eagerOp o.op && mayAt bs (maskAt bs i) i k ef then i :: candL bs ef k l (i + 1) else candL bs ef k l (i + 1)
def newc (arr : List Oper) (n : Nat) : List Nat := candL (masks [] arr) (efs arr 0) n arr 0
def dIdx (t : Tmp) : List Oper → Nat → Option Nat
  | [], _ => none
  | o :: l, i => match o.dst with | some d => (bif Nat.beq d t then some i else dIdx t l (i + 1)) | none => dIdx t l (i + 1)
theorem dIdx_eq {t : Tmp} : ∀ {l : List Oper} {i : Nat}, dIdx t l i = F.dstIdx t l i
  | [], _ => rfl
  | o :: l, i => by rw [F.dstIdx_cons]; simp only [dIdx, dIdx_eq (l := l)]; cases o.dst <;> rfl
def memN (i : Nat) : List Nat → Bool
  | [] => false
  | j :: l => Nat.beq i j || memN i l
def diffN (D : List Nat) : List Nat → List Nat
  | [] => []
  | i :: l => bif memN i D then diffN D l else i :: diffN D l
/-- what is done, is not plain, and may be asked again behind stage n -/
def floats (arr : List Oper) (D : List Nat) (i : Nat) : Bool := memN i D && (match lget arr i with | some o => !heapFree o.op | none => true)
def needsAt (arr : List Oper) (D : List Nat) : Nat → List (Nat × Oper) → Bool
  | n, [] => (newc arr n).any (floats arr D)
  | n, _ :: ef => (newc arr n).any (floats arr D) || needsAt arr D (n + 1) ef
def planGo (arr : List Oper) : List (Nat × Oper) → Nat → List Nat → List PI
  | [], n, D => (diffN D (newc arr n)).map .e
  | (i, _) :: ef, n, D => (diffN D (newc arr n)).map .e ++ .x i (needsAt arr (newc arr n ++ D) (n + 1) ef) :: planGo arr ef (n + 1) (i :: (newc arr n ++ D))
def plan (arr : List Oper) : List PI := planGo arr (efs arr 0) 0 []
/-- each operation sees what stands ahead of it -/
def visT (bs : List Nat) (arr : List Oper) (i : Nat) : Operand → Bool
  | .tmp t => (match dIdx t arr 0 with
    | none => true
    | some j => Nat.testBit (maskAt bs i) j || Nat.beq j i || Nat.testBit (maskAt bs j) i)
  | _ => true
def visO (bs : List Nat) (arr : List Oper) (i : Nat) (o : Oper) : Bool :=
  o.op.operands.toList.all (visT bs arr i) && (match o.guard with | some (j, _) => Nat.testBit (maskAt bs i) j && (match lget arr j with | some g => g.dst.isSome | none => false) | none => true)
def visAll (bs : List Nat) (arr : List Oper) : List Oper → Nat → Bool
  | [], _ => true
  | o :: l, i => visO bs arr i o && visAll bs arr l (i + 1)
/-- all that stands ahead of an operation has been -/
def predsIn (m : Nat) (D : List Nat) : List Oper → Nat → Bool
  | [], _ => true
  | _ :: l, j => (!Nat.testBit m j || memN j D) && predsIn m D l (j + 1)
def allIn (D : List Nat) : List Oper → Nat → Bool
  | [], _ => true
  | _ :: l, j => memN j D && allIn D l (j + 1)
def ordOk (arr : List Oper) : List PI → List Nat → Bool
  | [], D => allIn D arr 0
  | .e i :: pl, D => predsIn (maskAt (masks [] arr) i) D arr 0 && ordOk arr pl (i :: D)
  | .x i _ :: pl, D => predsIn (maskAt (masks [] arr) i) D arr 0 && ordOk arr pl (i :: D)
def drawOk (nt : Nat) (arr : List Oper) : Bool := dstOk nt arr && dok arr && visAll (masks [] arr) arr arr 0 && ordOk arr (plan arr) []
def sliceOk (v : Value) (h : H) : Bool := match v with | .slice (some a) _ _ => Nat.blt a.block h.n | _ => true
section
variable {P : Program} {e : E}
/-- the way through a region of open order -/
def WP (c : Ctx P e) (fn nt : Nat) (arr : List Oper) (k : List AIt) (df : List Deferred) (kd : CallKind) (rd : Option Nat) (xs : List AFr) : List PI → T Value → H → Prop
  | [], tm, h => W c (S fn nt tm k df kd rd xs h)
  | .e i :: pl, tm, h => ∃ o, arr[i]? = some o ∧
      ((wantedA arr tm o.guard = some false ∧ WP c fn nt arr k df kd rd xs pl (putD tm o.dst undefV) h) ∨
       (wantedA arr tm o.guard = some true ∧ freshOp o.op = false ∧ ∃ v, xop e tm h o = some (.val v h) ∧ veq v v = true ∧ sliceOk v h = true ∧ WP c fn nt arr k df kd rd xs pl (putD tm o.dst v) h) ∨
       (wantedA arr tm o.guard = some true ∧ freshOp o.op = true ∧ ∃ ob mk, xfresh e tm o.op = some (ob, mk) ∧ oeq ob ob = true ∧ veq (mk.at h.n) (mk.at h.n) = true ∧ WP c fn nt arr k df kd rd xs pl (putD tm o.dst (mk.at h.n)) (h.new ob)))
  | .x i nd :: pl, tm, h => ∃ o, arr[i]? = some o ∧
      ((wantedA arr tm o.guard = some false ∧ WP c fn nt arr k df kd rd xs pl (putD tm o.dst undefV) h) ∨
       (wantedA arr tm o.guard = some true ∧ ∃ v h2, xop e tm h o = some (.val v h2) ∧ h.n ≤ h2.n ∧ (nd = true → HLe h h2) ∧ WP c fn nt arr k df kd rd xs pl (putD tm o.dst v) h2) ∨
       (wantedA arr tm o.guard = some true ∧ ∃ h2, xop e tm h o = some (.skip h2) ∧ h.n ≤ h2.n ∧ (nd = true → HLe h h2) ∧ WP c fn nt arr k df kd rd xs pl (putD tm o.dst undefV) h2) ∨
       (wantedA arr tm o.guard = some true ∧ ∃ f args Q, xop e tm h o = some (.enter f args) ∧ Gives P e f args h Q ∧ ∀ v h2, Q v h2 → h.n ≤ h2.n ∧ (nd = true → HLe h h2) ∧ WP c fn nt arr k df kd rd xs pl (putD tm o.dst v) h2))
end
/-! ### facts -/
theorem memN_iff {i : Nat} : ∀ {l : List Nat}, memN i l = true ↔ i ∈ l
  | [] => by simp [memN]
  | j :: l => by
    simp only [memN, Bool.or_eq_true, memN_iff (l := l), List.mem_cons]
    constructor
    · rintro (h | h)
      · exact .inl (Nat.eq_of_beq_eq_true h)
      · exact .inr h
    · rintro (h | h)
      · subst h; exact .inl (beqT _)
      · exact .inr h
theorem seen_ext {bs : List Nat} {vals vals' : T Value} {me m : Nat} (hv : ∀ j, Nat.testBit m j = true → vals'.get j = vals.get j) : ∀ {arr : List Oper} {i : Nat} {tm : T Value}, seen bs vals' me m arr i tm = seen bs vals me m arr i tm := by
  intro arr
  induction arr with
  | nil => intros; rfl
  | cons o arr ih =>
    intro i tm
    simp only [seen, ih]
    cases hb : Nat.testBit m i with
    | true => rw [cond_true, cond_true, hv i hb]
    | false => rfl
theorem wantedV_ext {arr : List Oper} {vals vals' : T Value} {m : Nat} {g : Option (Nat × Bool)} (hv : ∀ j, Nat.testBit m j = true → vals'.get j = vals.get j) : wantedV arr vals' m g = wantedV arr vals m g := by
  unfold wantedV
  cases g with
  | none => rfl
  | some p =>
    obtain ⟨j, want⟩ := p
    simp only
    cases hb : Nat.testBit m j with
    | true => rw [hv j hb]
    | false => rfl
section
variable {e : E} {arr : List Oper} {tm0 : T Value}
/-- what is done may be done again -/
def Fact (e : E) (arr : List Oper) (tm0 vals : T Value) (h : H) (i : Nat) (o : Oper) (v : Value) : Prop :=
  (wantedV arr vals (maskAt (masks [] arr) i) o.guard = some false ∧ v = undefV) ∨
  (wantedV arr vals (maskAt (masks [] arr) i) o.guard = some true ∧ ∃ tmx, seen (masks [] arr) vals i (maskAt (masks [] arr) i) arr 0 tm0 = some tmx ∧
    ((freshOp o.op = false ∧ xop e tmx h o = some (.val v h) ∧ veq v v = true ∧ sliceOk v h = true) ∨
     (freshOp o.op = true ∧ ∃ ob mk r, xfresh e tmx o.op = some (ob, mk) ∧ v = mk.at r ∧ veq v v = true ∧ h.obj r = some ob ∧ oeq ob ob = true)))
theorem Fact.ext {vals vals' : T Value} {h : H} {i : Nat} {o : Oper} {v : Value} (hf : Fact e arr tm0 vals h i o v) (hv : ∀ j, Nat.testBit (maskAt (masks [] arr) i) j = true → vals'.get j = vals.get j) : Fact e arr tm0 vals' h i o v := by
  unfold Fact at hf ⊢
  rw [wantedV_ext hv, seen_ext hv]; exact hf
theorem heapFree_mono {tm : T Value} {o : Oper} {v : Value} {h h' : H} (hf : heapFree o.op = true) (he : eagerOp o.op = true) (q : xop e tm h o = some (.val v h)) : xop e tm h' o = some (.val v h') := by
  -- a memory above both
  have h1 : HLe ⟨.nil, .nil, 0⟩ h' := ⟨fun r k q => by simp [T.get] at q, fun i q => absurd q (Nat.not_lt_zero i), Nat.zero_le _⟩
  have h2 : xop e tm ⟨.nil, .nil, 0⟩ o = some (.val v ⟨.nil, .nil, 0⟩) := by
    obtain ⟨dst, op, ty, pos, after, guard⟩ := o
    simp only at hf he
    revert q
    cases op <;> try (first | (cases hf; done) | (cases he; done))
    all_goals simp only [xop]
    all_goals ((try simp only [bind1, bind2, ret]); repeat' split)
    all_goals first
      | (intro q; cases q; rfl)
      | (intro q; cases q; done)
      | (repeat' (first | apply ubif | (intro q; cases q; rfl) | (intro q; cases q; done)))
  have hn : freshOp o.op = false := by
    obtain ⟨dst, op, ty, pos, after, guard⟩ := o
    simp only at hf ⊢
    cases op <;> first | rfl | (cases hf; done)
  exact xop_mono h1 he hn h2
theorem sliceOk_mono {v : Value} {h h' : H} (hn : h.n ≤ h'.n) (q : sliceOk v h = true) : sliceOk v h' = true := by
  unfold sliceOk at q ⊢
  split at q
  · exact Nat.ble_eq_true_of_le (Nat.le_trans (Nat.le_of_ble_eq_true q) hn)
  · rfl
theorem Fact.grow {vals : T Value} {h h' : H} {i : Nat} {o : Oper} {v : Value} (hf : Fact e arr tm0 vals h i o v) (he : eagerOp o.op = true) (hl : HLe h h') : Fact e arr tm0 vals h' i o v := by
  rcases hf with hf | ⟨hw, tmx, hs, hf⟩
  · exact .inl hf
  · refine .inr ⟨hw, tmx, hs, ?_⟩
    rcases hf with ⟨q1, q2, q3, q4⟩ | ⟨q1, ob, mk, r, q2, q3, q4, q5, q6⟩
    · exact .inl ⟨q1, xop_mono hl he q1 q2, q3, sliceOk_mono hl.n q4⟩
    · exact .inr ⟨q1, ob, mk, r, q2, q3, q4, hl.obj q5, q6⟩
theorem Fact.free {vals : T Value} {h h' : H} {i : Nat} {o : Oper} {v : Value} (hf : Fact e arr tm0 vals h i o v) (he : eagerOp o.op = true) (hh : heapFree o.op = true) (hn : h.n ≤ h'.n) : Fact e arr tm0 vals h' i o v := by
  rcases hf with hf | ⟨hw, tmx, hs, hf⟩
  · exact .inl hf
  · refine .inr ⟨hw, tmx, hs, ?_⟩
    rcases hf with ⟨q1, q2, q3, q4⟩ | ⟨q1, _⟩
    · exact .inl ⟨q1, heapFree_mono hh he q2, q3, sliceOk_mono hn q4⟩
    · exfalso
      obtain ⟨dst, op, ty, pos, after, guard⟩ := o
      simp only at hh q1
      cases op <;> first | (cases q1; done) | (cases hh; done)
theorem Fact.again {vals : T Value} {h : H} {i : Nat} {o : Oper} {v : Value} (hf : Fact e arr tm0 vals h i o v) :
    (match wantedV arr vals (maskAt (masks [] arr) i) o.guard with
      | some true => (match seen (masks [] arr) vals i (maskAt (masks [] arr) i) arr 0 tm0, (some v : Option Value) with
        | some tm, some v => SX.again e tm h o v
        | _, _ => false)
      | some false => veq v undefV
      | none => false) = true := by
  rcases hf with ⟨hw, rfl⟩ | ⟨hw, tmx, hs, hf⟩
  · rw [hw]; rfl
  · rw [hw, hs]
    simp only [SX.again]
    rcases hf with ⟨q1, q2, q3, q4⟩ | ⟨q1, ob, mk, r, q2, q3, q4, q5, q6⟩
    · rw [q1, cond_false, q2]
      simp only [q3, Bool.true_and]
      exact q4
    · rw [q1, cond_true, q2]
      subst q3
      rw [idOf_at]
      simp only [q4, q5, q6, Bool.and_self]
/-- all that has been may be again at a stage -/
theorem stageB_of {n : Nat} {vals : T Value} {h : H} (hF : ∀ i o, arr[i]? = some o → eagerOp o.op = true → mayAt (masks [] arr) (maskAt (masks [] arr) i) i n (efs arr 0) = true → ∃ v, vals.get i = some v ∧ Fact e arr tm0 vals h i o v) :
    ∀ (l : List Oper) (i : Nat), l = arr.drop i → stageB e arr (masks [] arr) (efs arr 0) n tm0 vals h l i = true := by
  intro l
  induction l with
  | nil => intros; rfl
  | cons o l ih =>
    intro i hl
    obtain ⟨h1, h2, _⟩ := drop_cons hl
    simp only [stageB, ih (i + 1) h2, Bool.and_true]
    cases hc : (eagerOp o.op && mayAt (masks [] arr) (maskAt (masks [] arr) i) i n (efs arr 0)) with
    | false => rfl
    | true =>
      rw [Bool.and_eq_true] at hc
      obtain ⟨v, hv, hf⟩ := hF i o h1 hc.1 hc.2
      rw [cond_true, hv]
      exact hf.again
end
end Go.SX
namespace Go.SX
open Go.RowKit
section
variable {e : E} {arr : List Oper} {tm0 : T Value}
def curOf (arr : List Oper) (tm0 vals : T Value) (t : Tmp) : Option Value := match dIdx t arr 0 with
  | none => tm0.get t
  | some j => (match vals.get j with | some v => some v | none => tm0.get t)
def Live (arr : List Oper) (n i : Nat) : Prop := ∃ m, n ≤ m ∧ m ≤ (efs arr 0).length ∧ i ∈ newc arr m
structure DInv (e : E) (arr : List Oper) (tm0 : T Value) (n : Nat) (vals tmc : T Value) (h : H) : Prop where
  cum : ∀ t, tmc.get t = curOf arr tm0 vals t
  down : ∀ i v, vals.get i = some v → ∀ j, j < arr.length → Nat.testBit (maskAt (masks [] arr) i) j = true → ∃ u, vals.get j = some u
  fact : ∀ i o v, vals.get i = some v → arr[i]? = some o → eagerOp o.op = true → Live arr n i → Fact e arr tm0 vals h i o v
theorem dIdx_dst {arr : List Oper} (hu : uniqueOk arr = true) : ∀ {i j : Nat} {o : Oper} {d : Tmp}, arr[j]? = some o → o.dst = some d → dIdx d arr i = some (i + j) := by
  induction arr with
  | nil => intro i j o d h; simp at h
  | cons x xs ih =>
    intro i j o d hj hd
    simp only [uniqueOk, Bool.and_eq_true] at hu
    simp only [dIdx]
    cases j with
    | zero =>
      simp at hj; subst hj
      rw [hd]; simp only [beqT, cond_true, Nat.add_zero]
    | succ j =>
      simp at hj
      have := ih hu.2 (i := i + 1) hj hd
      cases hx : x.dst with
      | none => simp only; rw [this]; congr 1; omega
      | some d' =>
        have hne : d' ≠ d := by
          intro q; subst q
          rw [hx] at hu
          exact noWriter_get hu.1 hj hd
        simp only [beqF hne, cond_false]; rw [this]; congr 1; omega
theorem dIdx_inv {t : Tmp} : ∀ {arr : List Oper} {i j : Nat}, dIdx t arr i = some j → ∃ m o, j = i + m ∧ arr[m]? = some o ∧ o.dst = some t := by
  intro arr
  induction arr with
  | nil => intro i j h; cases h
  | cons x xs ih =>
    intro i j h
    simp only [dIdx] at h
    cases hx : x.dst with
    | none =>
      rw [hx] at h
      obtain ⟨m, o, h1, h2, h3⟩ := ih h
      exact ⟨m + 1, o, by omega, by simpa using h2, h3⟩
    | some d =>
      rw [hx] at h
      simp only at h
      cases hq : Nat.beq d t with
      | true =>
        rw [hq, cond_true] at h; cases h
        have := Nat.eq_of_beq_eq_true hq; subst this
        exact ⟨0, x, rfl, by simp, hx⟩
      | false =>
        rw [hq, cond_false] at h
        obtain ⟨m, o, h1, h2, h3⟩ := ih h
        exact ⟨m + 1, o, by omega, by simpa using h2, h3⟩
theorem curOf_set (hu : uniqueOk arr = true) {vals tmc : T Value} {i : Nat} {o : Oper} {v : Value} (hc : ∀ t, tmc.get t = curOf arr tm0 vals t) (ho : arr[i]? = some o) : ∀ t, (putD tmc o.dst v).get t = curOf arr tm0 (vals.set i v) t := by
  intro t
  unfold curOf
  cases hd : o.dst with
  | none =>
    show tmc.get t = _
    rw [hc]
    unfold curOf
    cases hx : dIdx t arr 0 with
    | none => rfl
    | some j =>
      obtain ⟨m, o', h1, h2, h3⟩ := dIdx_inv hx
      have : j ≠ i := by
        intro q; subst q
        rw [Nat.zero_add] at h1; subst h1
        rw [ho] at h2; cases h2; rw [hd] at h3; cases h3
      simp only [T.get_set]; rw [if_neg this]
  | some d =>
    simp only [putD, T.get_set]
    by_cases hq : t = d
    · subst hq
      rw [if_pos rfl, dIdx_dst hu (i := 0) ho hd]
      simp
    · rw [if_neg hq, hc]
      unfold curOf
      cases hx : dIdx t arr 0 with
      | none => rfl
      | some j =>
        obtain ⟨m, o', h1, h2, h3⟩ := dIdx_inv hx
        have : j ≠ i := by
          intro q; subst q
          rw [Nat.zero_add] at h1; subst h1
          rw [ho] at h2; cases h2; rw [hd] at h3; cases h3; exact hq rfl
        simp only []; rw [if_neg this]
theorem predsIn_get {m : Nat} {D : List Nat} : ∀ {l : List Oper} {k : Nat}, predsIn m D l k = true → ∀ j, k ≤ j → j < k + l.length → Nat.testBit m j = true → j ∈ D := by
  intro l
  induction l with
  | nil => intro k _ j h1 h2; simp at h2; omega
  | cons o l ih =>
    intro k h j h1 h2 hb
    simp only [predsIn, Bool.and_eq_true] at h
    by_cases hq : j = k
    · subst hq
      have := h.1
      rw [hb] at this
      exact memN_iff.1 (by simpa using this)
    · exact ih h.2 j (by omega) (by simp at h2; omega) hb
theorem seenOk_of {vals : T Value} {m : Nat} : ∀ {l : List Oper} {k : Nat}, (∀ j, k ≤ j → j < k + l.length → Nat.testBit m j = true → ∃ u, vals.get j = some u) → F.seenOk vals m l k = true := by
  intro l
  induction l with
  | nil => intros; rfl
  | cons o l ih =>
    intro k h
    have hs : F.seenOk vals m (o :: l) k = F.bb (F.tbit m k) (Option.rec (motive := fun _ => Bool) false (fun _ => F.seenOk vals m l (k + 1)) (F.tget vals k)) (F.seenOk vals m l (k + 1)) := rfl
    rw [hs, F.bb_eq, F.tbit_eq, F.tget_eq, ih fun j h1 h2 => h j (by omega) (by simp; omega)]
    cases hb : Nat.testBit m k with
    | false => rfl
    | true =>
      obtain ⟨u, hu⟩ := h k (Nat.le_refl _) (by simp) hb
      rw [hu]; rfl
theorem visAll_get {bs : List Nat} : ∀ {l : List Oper} {k : Nat}, visAll bs arr l k = true → ∀ {i : Nat} {o : Oper}, l[i]? = some o → visO bs arr (k + i) o = true := by
  intro l
  induction l with
  | nil => intro k _ i o h; simp at h
  | cons x l ih =>
    intro k h i o hi
    simp only [visAll, Bool.and_eq_true] at h
    cases i with
    | zero => simp at hi; subst hi; exact h.1
    | succ i => have := ih h.2 (by simpa using hi); rw [show k + (i + 1) = k + 1 + i by omega]; exact this
/-- an operation that comes sees, in the table of all, what it is to see -/
theorem sees (hu : uniqueOk arr = true) (hv : visAll (masks [] arr) arr arr 0 = true) {n : Nat} {vals tmc : T Value} {h : H} (hI : DInv e arr tm0 n vals tmc h) {i : Nat} {o : Oper} (ho : arr[i]? = some o) (hnone : vals.get i = none)
    (hpre : ∀ j, j < arr.length → Nat.testBit (maskAt (masks [] arr) i) j = true → ∃ u, vals.get j = some u) :
    ∃ tmx, seen (masks [] arr) vals i (maskAt (masks [] arr) i) arr 0 tm0 = some tmx ∧ Agree o.op.operands.toList tmx tmc ∧ (∀ b, wantedA arr tmc o.guard = some b → wantedV arr vals (maskAt (masks [] arr) i) o.guard = some b) := by
  have hvo := visAll_get hv ho
  rw [Nat.zero_add] at hvo
  simp only [visO, Bool.and_eq_true] at hvo
  have hilt : i < arr.length := (List.getElem?_eq_some_iff.1 ho).1
  obtain ⟨tmx, h1, h2⟩ := F.seen_slook (bs := masks [] arr) (me := i) (tm := tm0) hu (seenOk_of (vals := vals) (m := maskAt (masks [] arr) i) (l := arr) (k := 0) fun j _ hj hb => hpre j (by omega) hb)
  have hii : Nat.testBit (maskAt (masks [] arr) i) i = false := by
    cases q : Nat.testBit (maskAt (masks [] arr) i) i with
    | false => rfl
    | true => obtain ⟨u, hu⟩ := hpre i hilt q; rw [hnone] at hu; cases hu
  refine ⟨tmx, h1, ?_, ?_⟩
  · intro x hx t hr
    have hvx := List.all_eq_true.1 hvo.1 x hx
    cases x with
    | tmp s =>
      simp only [reads] at hr; subst hr
      rw [h2, hI.cum]
      unfold curOf
      simp only [visT] at hvx
      rw [← dIdx_eq]
      cases hd : dIdx s arr 0 with
      | none => rfl
      | some j =>
        rw [hd] at hvx
        simp only at hvx ⊢
        obtain ⟨m, o', hj, ho', _⟩ := dIdx_inv hd
        rw [Nat.zero_add] at hj; subst hj
        have hjlt : j < arr.length := (List.getElem?_eq_some_iff.1 ho').1
        cases hb : Nat.testBit (maskAt (masks [] arr) i) j with
        | true =>
          obtain ⟨u, hu⟩ := hpre j hjlt hb
          rw [cond_true, hu]
        | false =>
          rw [cond_false]
          rw [hb] at hvx
          simp only [Bool.false_or, Bool.or_eq_true] at hvx
          have hnj : vals.get j = none := by
            rcases hvx with q | q
            · have := Nat.eq_of_beq_eq_true q; subst this; exact hnone
            · cases hg : vals.get j with
              | none => rfl
              | some v => obtain ⟨u, hu⟩ := hI.down j v hg i hilt q; rw [hnone] at hu; cases hu
          have : (Nat.beq j i || Nat.testBit (maskAt (masks [] arr) j) i) = true := by rw [Bool.or_eq_true]; exact hvx
          rw [this, cond_true, hnj]
    | _ => exact absurd hr (by simp [reads])
  · intro b hw
    unfold wantedA at hw
    unfold wantedV
    cases hg : o.guard with
    | none => rw [hg] at hw; exact hw
    | some p =>
      obtain ⟨j, want⟩ := p
      rw [hg] at hw hvo
      simp only [Bool.and_eq_true] at hw hvo ⊢
      rw [hvo.2.1, cond_true]
      cases hj : lget arr j with
      | none => rw [hj] at hvo; exact absurd hvo.2.2 (by simp)
      | some g =>
        rw [hj] at hw hvo
        simp only at hw hvo ⊢
        cases hgd : g.dst with
        | none => rw [hgd] at hvo; exact absurd hvo.2.2 (by simp)
        | some d =>
          rw [hgd] at hw
          simp only at hw ⊢
          rw [lget_at] at hj
          rw [hI.cum] at hw
          unfold curOf at hw
          rw [dIdx_dst hu (i := 0) hj hgd] at hw
          simp only [Nat.zero_add] at hw
          obtain ⟨u, huu⟩ := hpre j ((List.getElem?_eq_some_iff.1 hj).1) hvo.2.1
          rw [huu] at hw ⊢
          exact hw
end
end Go.SX
namespace Go.SX
open Go.RowKit
variable {P : Program} {e : E} {c : Ctx P e} {arr : List Oper} {tm0 : T Value} {fn nt : Nat} {k : List AIt} {df : List Deferred} {kd : CallKind} {rd : Option Nat} {xs : List AFr}
theorem HLe.new {h : H} (hf : Fresh h) (o : AObj) : HLe h (h.new o) :=
  ⟨fun r k q => by simp only [H.new, T.get_set]; rw [if_neg (Nat.ne_of_lt (hf.lt r k q).1)]; exact q, fun i q => rfl, Nat.le_succ _⟩
theorem Fresh.new {h : H} (hf : Fresh h) (o : AObj) : Fresh (h.new o) := by
  refine ⟨fun r k q => ?_, fun g ms q => Nat.lt_succ_of_lt (hf.g g ms q)⟩
  simp only [H.new, T.get_set] at q ⊢
  split at q
  · rename_i hr; subst hr; cases q; exact ⟨Nat.lt_succ_self _, Nat.lt_succ_self _⟩
  · have := hf.lt r k q; exact ⟨Nat.lt_succ_of_lt this.1, Nat.lt_succ_of_lt this.2⟩
theorem obj_new (h : H) (o : AObj) : (h.new o).obj h.n = some o := by simp [H.new, H.obj, T.get_set]
theorem mask_lt (he : edgesOk arr 0 = true) : ∀ {i j : Nat}, Nat.testBit (maskAt (masks [] arr) i) j = true → j < i := by
  intro i
  induction i using Nat.strongRecOn with
  | ind i ih =>
    intro j hb
    obtain ⟨o, x, h1, h2, h3, h4⟩ := mask_bit hb
    have hx : x.on < i := by
      have := edgesOk_get he h1
      rw [Nat.zero_add] at this
      exact edgesBack_mem this h2 h3
    rcases h4 with h4 | ⟨_, h4⟩
    · omega
    · have := ih x.on hx h4; omega
theorem DInv.add (hed : edgesOk arr 0 = true) (hu : uniqueOk arr = true) {n : Nat} {vals tmc : T Value} {h h' : H} (hI : DInv e arr tm0 n vals tmc h) {i : Nat} {o : Oper} {v : Value} (ho : arr[i]? = some o) (hnone : vals.get i = none)
    (hpre : ∀ j, j < arr.length → Nat.testBit (maskAt (masks [] arr) i) j = true → ∃ u, vals.get j = some u) (hgrow : ∀ j o v, vals.get j = some v → arr[j]? = some o → eagerOp o.op = true → Live arr n j → Fact e arr tm0 vals h j o v → Fact e arr tm0 vals h' j o v)
    (hnew : eagerOp o.op = true → Fact e arr tm0 vals h' i o v) : DInv e arr tm0 n (vals.set i v) (putD tmc o.dst v) h' := by
  have hkeep : ∀ j w, vals.get j = some w → ∀ b, b < arr.length → Nat.testBit (maskAt (masks [] arr) j) b = true → (vals.set i v).get b = vals.get b := by
    intro j w hj b hb hbit
    rw [T.get_set, if_neg]
    intro q; subst q
    obtain ⟨u, hu⟩ := hI.down j w hj b hb hbit
    rw [hnone] at hu; cases hu
  have hlt : i < arr.length := (List.getElem?_eq_some_iff.1 ho).1
  have hbits : ∀ j, j < arr.length → ∀ b, Nat.testBit (maskAt (masks [] arr) j) b = true → b < arr.length := by
    intro j hj b hb
    exact Nat.lt_trans (mask_lt hed hb) hj
  refine ⟨curOf_set hu hI.cum ho, ?_, ?_⟩
  · intro j w hj b hb hbit
    rw [T.get_set] at hj
    split at hj
    · rename_i q; subst q
      obtain ⟨u, hu⟩ := hpre b hb hbit
      refine ⟨u, ?_⟩
      rw [T.get_set, if_neg]; exact hu
      intro q; subst q; rw [hnone] at hu; cases hu
    · obtain ⟨u, hu⟩ := hI.down j w hj b hb hbit
      refine ⟨u, ?_⟩
      rw [hkeep j w hj b hb hbit]; exact hu
  · intro j o' w hj ho' he hl
    rw [T.get_set] at hj
    split at hj
    · rename_i q; subst q
      cases hj
      rw [ho] at ho'; cases ho'
      refine (hnew he).ext fun b hb => ?_
      rw [T.get_set, if_neg]
      intro q; subst q
      obtain ⟨u, hu⟩ := hpre b (hbits b hlt b hb) hb
      rw [hnone] at hu; cases hu
    · have hjlt : j < arr.length := (List.getElem?_eq_some_iff.1 ho').1
      exact (hgrow j o' w hj ho' he hl (hI.fact j o' w hj ho' he hl)).ext fun b hb => hkeep j w hj b (hbits j hjlt b hb) hb
/-- the operations that come at a stage, one after the other -/
theorem eagers (hed : edgesOk arr 0 = true) (hu : uniqueOk arr = true) (hv : visAll (masks [] arr) arr arr 0 = true) {n : Nat} {D0 : List Nat} {tail : List PI} :
    ∀ (l : List Oper) (i : Nat) (vals tmc : T Value) (h : H) (D : List Nat), l = arr.drop i → DInv e arr tm0 n vals tmc h → Fresh h → (∀ j, j ∈ D ↔ ∃ u, vals.get j = some u) → (∀ j, i ≤ j → (j ∈ D0 ↔ ∃ u, vals.get j = some u)) →
      ordOk arr ((diffN D0 (candL (masks [] arr) (efs arr 0) n l i)).map .e ++ tail) D = true → WP c fn nt arr k df kd rd xs ((diffN D0 (candL (masks [] arr) (efs arr 0) n l i)).map .e ++ tail) tmc h →
      ∃ vals1 tmc1 h1 D1, stageA e arr (masks [] arr) (efs arr 0) n tm0 l i vals h = some (vals1, h1) ∧ DInv e arr tm0 n vals1 tmc1 h1 ∧ Fresh h1 ∧ (∀ j, j ∈ D1 ↔ ∃ u, vals1.get j = some u) ∧
        (∀ j, (∃ u, vals1.get j = some u) ↔ ((∃ u, vals.get j = some u) ∨ j ∈ candL (masks [] arr) (efs arr 0) n l i)) ∧ ordOk arr tail D1 = true ∧ WP c fn nt arr k df kd rd xs tail tmc1 h1 := by
  intro l
  induction l with
  | nil =>
    intro i vals tmc h D hl hI hfr hD hD0 ho hw
    exact ⟨vals, tmc, h, D, rfl, hI, hfr, hD, fun j => by simp [candL], ho, hw⟩
  | cons o l ih =>
    intro i vals tmc h D hl hI hfr hD hD0 hor hw
    obtain ⟨ho, hl', hlt⟩ := drop_cons hl
    simp only [stageA]
    simp only [candL] at hor hw ⊢
    cases hc : eagerOp o.op && mayAt (masks [] arr) (maskAt (masks [] arr) i) i n (efs arr 0) with
    | false =>
      rw [hc] at hor hw
      simp only [cond_false] at hor hw ⊢
      have hc' : (eagerOp o.op && (vals.get i).isNone && mayAt (masks [] arr) (maskAt (masks [] arr) i) i n (efs arr 0)) = false := by
        cases h1 : eagerOp o.op <;> cases h2 : mayAt (masks [] arr) (maskAt (masks [] arr) i) i n (efs arr 0) <;> simp_all
      rw [hc', cond_false]
      exact ih (i + 1) vals tmc h D hl' hI hfr hD (fun j hj => hD0 j (by omega)) hor hw
    | true =>
      rw [hc] at hor hw
      simp only [cond_true] at hor hw ⊢
      rw [Bool.and_eq_true] at hc
      rw [hc.1, hc.2]
      simp only [Bool.true_and, Bool.and_true]
      cases hg : vals.get i with
      | some u =>
        simp only [Option.isNone_some, cond_false]
        have hmem : memN i D0 = true := memN_iff.2 ((hD0 i (Nat.le_refl _)).2 ⟨u, hg⟩)
        simp only [diffN, hmem, cond_true] at hor hw
        obtain ⟨vals1, tmc1, h1, D1, q1, q2, q3, q4, q5, q6, q7⟩ := ih (i + 1) vals tmc h D hl' hI hfr hD (fun j hj => hD0 j (by omega)) hor hw
        refine ⟨vals1, tmc1, h1, D1, q1, q2, q3, q4, fun j => ?_, q6, q7⟩
        rw [q5, List.mem_cons]
        constructor
        · rintro (a | a); exact .inl a; exact .inr (.inr a)
        · rintro (a | a | a)
          · exact .inl a
          · subst a; exact .inl ⟨u, hg⟩
          · exact .inr a
      | none =>
        simp only [Option.isNone_none, cond_true]
        have hmem : memN i D0 = false := by
          cases q : memN i D0 with
          | false => rfl
          | true => obtain ⟨u, hu⟩ := (hD0 i (Nat.le_refl _)).1 (memN_iff.1 q); rw [hg] at hu; cases hu
        simp only [diffN, hmem, cond_false, List.map_cons, List.cons_append, ordOk, Bool.and_eq_true, WP] at hor hw
        obtain ⟨hpr, hor⟩ := hor
        have hpre : ∀ j, j < arr.length → Nat.testBit (maskAt (masks [] arr) i) j = true → ∃ u, vals.get j = some u := fun j hj hb => (hD j).1 (predsIn_get hpr j (Nat.zero_le _) (by omega) hb)
        obtain ⟨tmx, hs, hag, hgd⟩ := sees hu hv hI ho hg hpre
        obtain ⟨o2, ho2, hw⟩ := hw
        rw [ho] at ho2; cases ho2
        -- how it goes on
        have next : ∀ {v : Value} {h2 : H}, HLe h h2 → Fresh h2 → Fact e arr tm0 vals h2 i o v → WP c fn nt arr k df kd rd xs ((diffN D0 (candL (masks [] arr) (efs arr 0) n l (i + 1))).map .e ++ tail) (putD tmc o.dst v) h2 →
            ∃ vals1 tmc1 h1 D1, stageA e arr (masks [] arr) (efs arr 0) n tm0 l (i + 1) (vals.set i v) h2 = some (vals1, h1) ∧ DInv e arr tm0 n vals1 tmc1 h1 ∧ Fresh h1 ∧ (∀ j, j ∈ D1 ↔ ∃ u, vals1.get j = some u) ∧
              (∀ j, (∃ u, vals1.get j = some u) ↔ ((∃ u, vals.get j = some u) ∨ j ∈ i :: candL (masks [] arr) (efs arr 0) n l (i + 1))) ∧ ordOk arr tail D1 = true ∧ WP c fn nt arr k df kd rd xs tail tmc1 h1 := by
          intro v h2 hle hfr2 hfact hwp
          have hI2 := hI.add hed hu (h' := h2) ho hg hpre (fun j o' w hj ho' he _ hf => hf.grow he hle) (fun _ => hfact)
          obtain ⟨vals1, tmc1, h1, D1, q1, q2, q3, q4, q5, q6, q7⟩ := ih (i + 1) (vals.set i v) (putD tmc o.dst v) h2 (i :: D) hl' hI2 hfr2 (fun j => by
            rw [List.mem_cons, T.get_set]
            by_cases q : j = i
            · subst q; simp
            · rw [if_neg q]; simp [q, hD]) (fun j hj => by rw [T.get_set, if_neg (by omega)]; exact hD0 j (by omega)) hor hwp
          refine ⟨vals1, tmc1, h1, D1, q1, q2, q3, q4, fun j => ?_, q6, q7⟩
          rw [q5, List.mem_cons, T.get_set]
          by_cases q : j = i
          · subst q; simp
          · rw [if_neg q]; simp [q]
        rcases hw with ⟨hwa, hwp⟩ | ⟨hwa, hnf, v, hx, hvq, hsl, hwp⟩ | ⟨hwa, hnf, ob, mk, hx, hoe, hvq, hwp⟩
        · rw [hgd _ hwa]
          simp only
          exact next (.refl h) hfr (.inl ⟨hgd _ hwa, rfl⟩) hwp
        · rw [hgd _ hwa, hs]
          simp only
          rw [← xop_agree hag] at hx
          rw [hnf, cond_false, hx]
          simp only
          exact next (.refl h) hfr (.inr ⟨hgd _ hwa, tmx, hs, .inl ⟨hnf, hx, hvq, hsl⟩⟩) hwp
        · rw [hgd _ hwa, hs]
          simp only
          rw [← xfresh_agree hag] at hx
          rw [hnf, cond_true, hx]
          simp only
          exact next (HLe.new hfr ob) (hfr.new ob) (.inr ⟨hgd _ hwa, tmx, hs, .inr ⟨hnf, ob, mk, h.n, hx, rfl, hvq, obj_new h ob, hoe⟩⟩) hwp
end Go.SX
namespace Go.SX
open Go.RowKit
variable {P : Program} {e : E} {c : Ctx P e} {arr : List Oper} {tm0 tm tm' : T Value} {fn nt : Nat} {k : List AIt} {df : List Deferred} {kd : CallKind} {rd : Option Nat} {xs : List AFr} {h : H}
/-- items that are no region under way -/
def Plain (k : List AIt) : Prop := ∀ it, it ∈ k → (∀ a r, it ≠ .ops a r) ∧ (∀ a n v, it ≠ .dops a n v)
theorem IRels.plain {ρ : Rho} {k : List AIt} {k' : List Item} (hk : IRels ρ k k') : Plain k := by
  induction hk with
  | nil => intro it h; simp at h
  | cons ha _ ih =>
    intro it hit
    rcases List.mem_cons.1 hit with q | q
    · subst q; cases ha <;> exact ⟨fun _ _ q => by (cases q), fun _ _ _ q => by cases q⟩
    · exact ih it q
theorem W.plain {cd : Code} (h1 : Plain k → W c (S fn nt tm (.code cd :: k) df kd rd xs h)) : W c (S fn nt tm (.code cd :: k) df kd rd xs h) := by
  intro ρ fr cs w hM
  obtain ⟨hi, ⟨lo, cs1, hcs1, hlo, hf, hcs⟩, hbot⟩ := hM
  have hb := hf.run rfl
  simp only at hb
  generalize hft : fr.todo = td at hb
  cases hb with
  | plain ht hk =>
    cases hk with
    | cons ha hk => exact h1 hk.plain ρ fr cs w ⟨hi, ⟨lo, cs1, hcs1, hlo, hf, hcs⟩, hbot⟩
theorem W.weakPlain (hp : Plain k) (hs : TSub tm' tm) (h1 : W c (S fn nt tm' k df kd rd xs h)) : W c (S fn nt tm k df kd rd xs h) := by
  intro ρ fr cs w hM
  obtain ⟨hi, ⟨lo, cs1, hcs1, hlo, hf, hcs⟩, hbot⟩ := hM
  refine h1 ρ fr cs w ⟨hi, ⟨lo, cs1, hcs1, hlo, ?_, hcs⟩, bottom_top hbot rfl⟩
  have hb := hf.run rfl
  refine { fn := hf.fn, kind := hf.kind, kinds := hf.kinds, nt := hf.nt, mode := hf.mode, defers := hf.defers, round := hf.round, run := fun _ => ?_, off := fun q => absurd rfl q }
  simp only at hb ⊢
  generalize fr.todo = td at hb ⊢
  cases hb with
  | plain ht hk => exact .plain (ht.sub hs) hk
  | ops ht hd hk => exact absurd rfl ((hp _ (List.mem_cons_self ..)).1 _ _)
  | dops => exact absurd rfl ((hp _ (List.mem_cons_self ..)).2 _ _ _)
/-- a call out of a region of open order -/
theorem W.dopsCall {n i : Nat} {o : Oper} {vals vals1 tm1 : T Value} {h1 : H} {f : FuncId} {args : List Value} (hA : stageA e arr (masks [] arr) (efs arr 0) n tm0 arr 0 vals h = some (vals1, h1)) (hB : stageB e arr (masks [] arr) (efs arr 0) n tm0 vals1 h1 arr 0 = true)
    (hef : (efs arr 0)[n]? = some (i, o)) (hw : wantedV arr vals1 (maskAt (masks [] arr) i) o.guard = some true) (hs : seen (masks [] arr) vals1 i (maskAt (masks [] arr) i) arr 0 tm0 = some tm1) (hxo : xop e tm1 h1 o = some (.enter f args))
    (hc : Call c ⟨fn, nt, tm0, .dops arr n vals1 :: k, df, .run, kd, rd⟩ xs h1 f args) : W c (S fn nt tm0 (.dops arr n vals :: k) df kd rd xs h) := by
  intro ρ fr cs w hM
  obtain ⟨hi, ⟨lo, cs1, rfl, hlo, hf, hcs⟩, hbot⟩ := hM
  simp only at hi hlo hf hcs hbot
  have hmf : fr.mode = .run := by have := hf.mode; exact this.run_eq
  have hb := hf.run rfl
  simp only at hb
  generalize hft : fr.todo = ft at hb
  cases hb with
  | plain ht hk => cases hk with | cons ha _ => cases ha
  | @dops ops n fuel t vals L todo _ k' hD hfu htd _ hk =>
    subst htd
    obtain ⟨hi1, hup, hD1⟩ := stageA_sound (w := w) (l := ops.toList) (k := 0) (by simp) hA hi hlo hD
    obtain ⟨ρ2, w2, tmps2, todo2, L2, hst, hext, hi2, hnt2, hD2, ⟨f0, t0, hgo, hl0⟩, hor⟩ := drain (P := P) (cs := cs1 ++ c.base) (K := k') c.ok (Nat.le_refl h1.n) (Nat.le_trans hlo hup) hB fuel t L ρ w fr hi1 hD1 hfu hf.nt hmf hft
    have hcs2 : SRel ρ2 lo xs cs1 := hcs.mono hext (Nat.le_refl _)
    have hlo1 := Nat.le_trans hlo hup
    rcases hor with ⟨i2, o2, fuel2, t2, htd2, hr2, hef2, ho2, hl2⟩ | ⟨_, hall⟩
    · rw [hef] at hef2
      cases hef2
      have hmask := ready_mask hD2 hr2
      obtain ⟨hlt, hLi, _⟩ := ready_mem hD2.size hr2
      have hcall : FRel ρ2 lo h1.n true ⟨fn, nt, tm0, .dops ops.toList n vals1 :: k, df, .run, kd, rd⟩ { fr with tmps := tmps2, todo := .inRegion ops todo2 :: k' } :=
        { fn := hf.fn, kind := hf.kind, kinds := hf.kinds, nt := hnt2, mode := hf.mode.mono hext.le, defers := hf.defers.mono hext.le, round := hf.round.mono (fun _ _ q => hext.le.ι _ _ q),
          run := (fun _ => .dops hD2 hl0 hgo (fun _ => ⟨i, o, _, hef, htd2⟩) (hk.mono hext.le)), off := fun q => absurd rfl q }
      have hwr := hD2.wanted hmask hw
      have hT := hD2.seen hLi hmask hs
      have hsx := xop_sound (P := P) (a := ⟨tmps2, fr.defers⟩) c.ok hi2 hT hxo
      have hdf : fr.roundOf = none ∨ ∀ c, o.op ≠ .defer c := by
        right; intro cl hcl
        unfold xop at hxo; rw [hcl] at hxo; simp only at hxo
        split at hxo <;> cases hxo
      have hg := stepG_oper (P := P) (w := w2) (cs := cs1 ++ c.base) (fr := { fr with tmps := tmps2, todo := .inRegion ops todo2 :: k' }) (K := k') hmf (by show Item.inRegion ops todo2 :: k' = _; rw [htd2]) ho2 hwr hdf
      rw [eval_act] at hg
      obtain ⟨args', hr, ha⟩ := hsx
      exact c.back (hst.trans (.one (ap_enter (by rw [hg]) (hcall.run rfl).notCall hr))) (hc ρ2 lo _ cs1 w2 args' hi2 hlo1 hcall rfl hcs2 (bottom_top hbot rfl) ha)
    · exfalso
      have hlt : i < ops.size := by
        have := (efs_get hef).2.1
        rw [Nat.sub_zero, arr_get] at this
        exact (Array.getElem?_eq_some_iff.1 this).1
      have := (hD2.efs n i o hef).1 (hall i hlt)
      omega
theorem candL_mem {bs : List Nat} {ef : List (Nat × Oper)} {n : Nat} : ∀ {l : List Oper} {k i : Nat} {o : Oper}, l[i]? = some o → eagerOp o.op = true → mayAt bs (maskAt bs (k + i)) (k + i) n ef = true → k + i ∈ candL bs ef n l k := by
  intro l
  induction l with
  | nil => intro k i o h; simp at h
  | cons x l ih =>
    intro k i o h he hm
    simp only [candL]
    cases i with
    | zero =>
      simp at h; subst h
      rw [Nat.add_zero] at hm ⊢
      rw [he, hm]; simp
    | succ i =>
      have := ih (k := k + 1) (by simpa using h) he (by rw [show k + 1 + i = k + (i + 1) by omega]; exact hm)
      rw [show k + 1 + i = k + (i + 1) by omega] at this
      cases (eagerOp x.op && mayAt bs (maskAt bs k) k n ef) with
      | true => rw [cond_true]; exact List.mem_cons_of_mem _ this
      | false => rw [cond_false]; exact this
theorem allIn_get {D : List Nat} : ∀ {l : List Oper} {k : Nat}, allIn D l k = true → ∀ j, k ≤ j → j < k + l.length → j ∈ D := by
  intro l
  induction l with
  | nil => intro k _ j h1 h2; simp at h2; omega
  | cons o l ih =>
    intro k h j h1 h2
    simp only [allIn, Bool.and_eq_true] at h
    by_cases q : j = k
    · subst q; exact memN_iff.1 h.1
    · exact ih h.2 j (by omega) (by simp at h2; omega)
theorem allVals_of (hu : uniqueOk arr = true) {vals : T Value} (hall : ∀ j, j < arr.length → ∃ u, vals.get j = some u) :
    ∃ tm1, allVals vals arr 0 tm0 = some tm1 ∧ ∀ t, tm1.get t = curOf arr tm0 vals t := by
  have key : ∀ (l : List Oper) (i : Nat) (tm : T Value), l = arr.drop i → uniqueOk l = true → ∃ tm1, allVals vals l i tm = some tm1 ∧ ∀ t, tm1.get t = match dIdx t l i with | none => tm.get t | some j => (match vals.get j with | some v => some v | none => tm.get t) := by
    intro l
    induction l with
    | nil => intro i tm _ _; exact ⟨tm, rfl, fun t => rfl⟩
    | cons o l ih =>
      intro i tm hl hul
      obtain ⟨h1, h2, h3⟩ := drop_cons hl
      obtain ⟨u, hg⟩ := hall i h3
      simp only [uniqueOk, Bool.and_eq_true] at hul
      obtain ⟨tm1, q1, q2⟩ := ih (i + 1) (putD tm o.dst u) h2 hul.2
      refine ⟨tm1, by simp only [allVals, hg]; exact q1, fun t => ?_⟩
      rw [q2]
      simp only [dIdx]
      cases hd : o.dst with
      | none => rfl
      | some d =>
        simp only
        by_cases hq : d = t
        · subst hq
          have hno : dIdx d l (i + 1) = none := by
            rw [hd] at hul
            rw [dIdx_eq]; exact F.dstIdx_none hul.1
          rw [hno, beqT, cond_true]
          simp only [putD, T.get_set, if_true, hg]
        · rw [beqF hq, cond_false]
          have : (putD tm (some d) u).get t = tm.get t := by simp only [putD, T.get_set]; rw [if_neg (fun w => hq w.symm)]
          rw [this]
  obtain ⟨tm1, q1, q2⟩ := key arr 0 tm0 rfl hu
  exact ⟨tm1, q1, q2⟩
theorem needsAt_false : ∀ {ef : List (Nat × Oper)} {n : Nat} {D : List Nat}, needsAt arr D n ef = false → ∀ m, n ≤ m → m ≤ n + ef.length → ∀ j, j ∈ newc arr m → floats arr D j = false := by
  intro ef
  induction ef with
  | nil =>
    intro n D h m h1 h2 j hj
    have : m = n := by simp at h2; omega
    subst this
    simp only [needsAt] at h
    have := List.any_eq_false.1 h j hj
    simpa using this
  | cons p ef ih =>
    intro n D h m h1 h2 j hj
    simp only [needsAt, Bool.or_eq_false_iff] at h
    by_cases q : m = n
    · subst q
      have := List.any_eq_false.1 h.1 j hj
      simpa using this
    · exact ih h.2 m (by omega) (by simp at h2; omega) j hj
theorem candL_eager {bs : List Nat} {ef : List (Nat × Oper)} {n : Nat} : ∀ {l : List Oper} {k j : Nat}, j ∈ candL bs ef n l k → ∃ m o, j = k + m ∧ l[m]? = some o ∧ eagerOp o.op = true := by
  intro l
  induction l with
  | nil => intro k j h; simp [candL] at h
  | cons x l ih =>
    intro k j h
    simp only [candL] at h
    cases hc : (eagerOp x.op && mayAt bs (maskAt bs k) k n ef) with
    | true =>
      rw [hc, cond_true] at h
      rcases List.mem_cons.1 h with q | q
      · rw [Bool.and_eq_true] at hc
        exact ⟨0, x, by omega, by simp, hc.1⟩
      · obtain ⟨m, o, h1, h2, h3⟩ := ih q
        exact ⟨m + 1, o, by omega, by simpa using h2, h3⟩
    | false =>
      rw [hc, cond_false] at h
      obtain ⟨m, o, h1, h2, h3⟩ := ih h
      exact ⟨m + 1, o, by omega, by simpa using h2, h3⟩
theorem memN_congr {D D' : List Nat} (hd : ∀ j, j ∈ D ↔ j ∈ D') (j : Nat) : memN j D = memN j D' := by
  rw [Bool.eq_iff_iff, memN_iff, memN_iff]; exact hd j
theorem predsIn_congr {m : Nat} {D D' : List Nat} (hd : ∀ j, j ∈ D ↔ j ∈ D') : ∀ {l : List Oper} {k : Nat}, predsIn m D l k = predsIn m D' l k
  | [], _ => rfl
  | _ :: l, k => by simp only [predsIn, memN_congr hd, predsIn_congr hd (l := l)]
theorem allIn_congr {D D' : List Nat} (hd : ∀ j, j ∈ D ↔ j ∈ D') : ∀ {l : List Oper} {k : Nat}, allIn D l k = allIn D' l k
  | [], _ => rfl
  | _ :: l, k => by simp only [allIn, memN_congr hd, allIn_congr hd (l := l)]
theorem ordOk_congr : ∀ {pl : List PI} {D D' : List Nat}, (∀ j, j ∈ D ↔ j ∈ D') → ordOk arr pl D = ordOk arr pl D'
  | [], _, _, hd => allIn_congr hd
  | .e i :: pl, D, D', hd => by
    simp only [ordOk, predsIn_congr hd]
    rw [ordOk_congr (pl := pl) (D := i :: D) (D' := i :: D') fun j => by simp [hd]]
  | .x i nd :: pl, D, D', hd => by
    simp only [ordOk, predsIn_congr hd]
    rw [ordOk_congr (pl := pl) (D := i :: D) (D' := i :: D') fun j => by simp [hd]]
theorem stages (hed : edgesOk arr 0 = true) (hu : uniqueOk arr = true) (hv : visAll (masks [] arr) arr arr 0 = true) (hpk : Plain k) :
    ∀ (ef : List (Nat × Oper)) (n : Nat) (D : List Nat) (vals tmc : T Value) (h : H), ef = (efs arr 0).drop n → n ≤ (efs arr 0).length → DInv e arr tm0 n vals tmc h → (∀ j, j ∈ D ↔ ∃ u, vals.get j = some u) →
      (∀ j u, vals.get j = some u → (∃ o, arr[j]? = some o ∧ eagerOp o.op = true) ∨ ∃ m o, m < n ∧ (efs arr 0)[m]? = some (j, o)) → ordOk arr (planGo arr ef n D) D = true → WP c fn nt arr k df kd rd xs (planGo arr ef n D) tmc h → W c (S fn nt tm0 (.dops arr n vals :: k) df kd rd xs h) := by
  intro ef
  induction ef with
  | nil =>
    intro n D vals tmc h hef hn hI hD hDe hor hw
    refine W.fresh fun hfr => ?_
    simp only [planGo] at hor hw
    obtain ⟨vals1, tmc1, h1, D1, q1, q2, q3, q4, q5, q6, q7⟩ := eagers (tail := []) hed hu hv arr 0 vals tmc h D (by simp) hI hfr hD (fun j _ => hD j) (by simpa [newc] using hor) (by simpa [newc] using hw)
    have hB := stageB_of (e := e) (n := n) (vals := vals1) (h := h1) (tm0 := tm0) (fun i o ho he hm => by
      have hmem := candL_mem (k := 0) ho he (by rw [Nat.zero_add]; exact hm)
      rw [Nat.zero_add] at hmem
      obtain ⟨u, hu'⟩ := (q5 i).2 (.inr hmem)
      exact ⟨u, hu', q2.fact i o u hu' ho he ⟨n, Nat.le_refl _, hn, hmem⟩⟩) arr 0 (by simp)
    obtain ⟨tm1, a1, a2⟩ := allVals_of (tm0 := tm0) hu (fun j hj => (q4 j).1 (allIn_get q6 j (Nat.zero_le _) (by omega)))
    have hnone : lget (efs arr 0) n = none := by
      rw [lget_at]
      have := congrArg List.length hef
      simp at this
      exact List.getElem?_eq_none (by omega)
    refine W.step (x1 := S fn nt tm1 k df kd rd xs h1) ?_ (W.weakPlain hpk (tm' := tmc1) (fun i v hi => by rw [a2, ← q2.cum]; exact hi) q7)
    simp only [SX.step, exec, q1, hB, hnone, a1, cond_true]
  | cons p ef ih =>
    intro n D vals tmc h hef hn hI hD hDe hor hw
    obtain ⟨i, o⟩ := p
    refine W.fresh fun hfr => ?_
    obtain ⟨hefn, hef', hnlt⟩ := drop_cons hef
    have ho : arr[i]? = some o := by have := (efs_get hefn).2.1; rw [Nat.sub_zero] at this; exact this
    have hne : eagerOp o.op = false := (efs_get hefn).2.2
    simp only [planGo] at hor hw
    obtain ⟨vals1, tmc1, h1, D1, q1, q2, q3, q4, q5, q6, q7⟩ := eagers hed hu hv arr 0 vals tmc h D (by simp) hI hfr hD (fun j _ => hD j) hor hw
    have hB := stageB_of (e := e) (n := n) (vals := vals1) (h := h1) (tm0 := tm0) (fun i o ho he hm => by
      have hmem := candL_mem (k := 0) ho he (by rw [Nat.zero_add]; exact hm)
      rw [Nat.zero_add] at hmem
      obtain ⟨u, hu'⟩ := (q5 i).2 (.inr hmem)
      exact ⟨u, hu', q2.fact i o u hu' ho he ⟨n, Nat.le_refl _, hn, hmem⟩⟩) arr 0 (by simp)
    simp only [ordOk, Bool.and_eq_true, WP] at q6 q7
    obtain ⟨hpr, hor2⟩ := q6
    obtain ⟨o2, ho2, hw2⟩ := q7
    rw [ho] at ho2; cases ho2
    have hnone : vals1.get i = none := by
      cases hg : vals1.get i with
      | none => rfl
      | some u =>
        exfalso
        rcases (q5 i).1 ⟨u, hg⟩ with ⟨u', hu'⟩ | hm
        · rcases hDe i u' hu' with ⟨o', ho', he'⟩ | ⟨m, o', hm, hm'⟩
          · rw [ho] at ho'; cases ho'; rw [hne] at he'; cases he'
          · have := efs_mono hm' hefn hm; omega
        · obtain ⟨m, o', hm1, hm2, hm3⟩ := candL_eager hm
          rw [Nat.zero_add] at hm1; subst hm1
          rw [ho] at hm2; cases hm2; rw [hne] at hm3; cases hm3
    have hilt : i < arr.length := (List.getElem?_eq_some_iff.1 ho).1
    have hpre : ∀ j, j < arr.length → Nat.testBit (maskAt (masks [] arr) i) j = true → ∃ u, vals1.get j = some u := fun j hj hb => (q4 j).1 (predsIn_get hpr j (Nat.zero_le _) (by omega) hb)
    obtain ⟨tmx, hs, hag, hgd⟩ := sees hu hv q2 ho hnone hpre
    have hlg : lget (efs arr 0) n = some (i, o) := by rw [lget_at]; exact hefn
    have hmemD : ∀ j, (∃ u, vals1.get j = some u) ↔ j ∈ newc arr n ++ D := by
      intro j
      rw [q5, List.mem_append, hD]
      exact or_comm
    have next : ∀ {v : Value} {h2 : H}, h1.n ≤ h2.n → (needsAt arr (newc arr n ++ D) (n + 1) ef = true → HLe h1 h2) → WP c fn nt arr k df kd rd xs (planGo arr ef (n + 1) (i :: (newc arr n ++ D))) (putD tmc1 o.dst v) h2 →
        W c (S fn nt tm0 (.dops arr (n + 1) (vals1.set i v) :: k) df kd rd xs h2) := by
      intro v h2 hn2 hle hwp
      have hI1 : DInv e arr tm0 (n + 1) vals1 tmc1 h1 := ⟨q2.cum, q2.down, fun j o' w a b d l => q2.fact j o' w a b d (by obtain ⟨m, l1, l2, l3⟩ := l; exact ⟨m, by omega, l2, l3⟩)⟩
      have hI2 := hI1.add hed hu (h' := h2) (v := v) ho hnone hpre (fun j o' w hj ho' he hl hf => by
        cases hnd : needsAt arr (newc arr n ++ D) (n + 1) ef with
        | true => exact hf.grow he (hle hnd)
        | false =>
          obtain ⟨m, l1, l2, l3⟩ := hl
          have hlen : (n + 1) + ef.length = (efs arr 0).length := by
            have := congrArg List.length hef
            simp at this; omega
          have hfl := needsAt_false hnd m l1 (by omega) j l3
          have hmj : memN j (newc arr n ++ D) = true := memN_iff.2 ((hmemD j).1 ⟨w, hj⟩)
          unfold floats at hfl
          rw [hmj, lget_at, ho'] at hfl
          simp only [Bool.true_and, Bool.not_eq_false'] at hfl
          exact hf.free he hfl hn2) (fun he => by rw [hne] at he; cases he)
      refine ih (n + 1) (i :: (newc arr n ++ D)) (vals1.set i v) (putD tmc1 o.dst v) h2 hef' hnlt hI2 ?_ ?_ ?_ hwp
      · intro j
        rw [List.mem_cons, T.get_set]
        by_cases q : j = i
        · subst q; simp
        · rw [if_neg q]; simp only [q, false_or]; exact (hmemD j).symm
      · intro j u hj
        rw [T.get_set] at hj
        split at hj
        · rename_i q; subst q; exact .inr ⟨n, o, Nat.lt_succ_self _, hefn⟩
        · rcases (q5 j).1 ⟨u, hj⟩ with ⟨u', hu'⟩ | hm
          · rcases hDe j u' hu' with a | ⟨m, o', a1, a2⟩
            · exact .inl a
            · exact .inr ⟨m, o', by omega, a2⟩
          · obtain ⟨m, o', hm1, hm2, hm3⟩ := candL_eager hm
            rw [Nat.zero_add] at hm1; subst hm1
            exact .inl ⟨o', hm2, hm3⟩
      · rw [← hor2]
        refine ordOk_congr fun j => ?_
        rw [List.mem_cons, List.mem_cons, q4, hmemD]
    rcases hw2 with ⟨hwa, hwp⟩ | ⟨hwa, v, h2, hx, hn2, hle, hwp⟩ | ⟨hwa, h2, hx, hn2, hle, hwp⟩ | ⟨hwa, f, args, Q, hx, hG, hwp⟩
    · refine W.step (x1 := S fn nt tm0 (.dops arr (n + 1) (vals1.set i undefV) :: k) df kd rd xs h1) ?_ (next (Nat.le_refl _) (fun _ => .refl _) hwp)
      simp only [SX.step, exec, q1, hB, hlg, hgd _ hwa, cond_true]
    · rw [← xop_agree hag] at hx
      refine W.step (x1 := S fn nt tm0 (.dops arr (n + 1) (vals1.set i v) :: k) df kd rd xs h2) ?_ (next hn2 hle hwp)
      simp only [SX.step, exec, q1, hB, hlg, hgd _ hwa, hs, hx, cond_true, act, finish, ofOpt]
    · rw [← xop_agree hag] at hx
      refine W.step (x1 := S fn nt tm0 (.dops arr (n + 1) (vals1.set i undefV) :: k) df kd rd xs h2) ?_ (next hn2 hle hwp)
      simp only [SX.step, exec, q1, hB, hlg, hgd _ hwa, hs, hx, cond_true, act, finish, ofOpt]
    · rw [← xop_agree hag] at hx
      refine W.dopsCall q1 hB hefn (hgd _ hwa) hs hx (hG c _ _ fun v h2 hq => ⟨⟨fn, nt, tm0, .dops arr (n + 1) (vals1.set i v) :: k, df, .run, kd, rd⟩, by simp only [finish, hlg], ?_⟩)
      obtain ⟨a1, a2, a3⟩ := hwp v h2 hq
      exact next a1 a2 a3
/-- A region of open order, gone through in one order. -/
theorem W.draw {id : Nat} {arr : Array Oper} {pl : List PI} (hd : drawOk nt arr.toList = true) (hp : plan arr.toList = pl) (h1 : Plain k → WP c fn nt arr.toList k df kd rd xs pl tm h) : W c (S fn nt tm (.code (.region id arr true) :: k) df kd rd xs h) := by
  refine W.plain fun hpk => ?_
  replace h1 := h1 hpk
  unfold drawOk at hd
  simp only [Bool.and_eq_true] at hd
  obtain ⟨⟨⟨d1, d2⟩, d3⟩, d4⟩ := hd
  refine W.step (x1 := S fn nt tm (.dops arr.toList 0 .nil :: k) df kd rd xs h) (by simp only [SX.step, exec, d1, d2, Bool.not_true, cond_false, cond_true]) ?_
  have hdp := dok_parts d2
  subst hp
  refine stages hdp.2.1 hdp.2.2 d3 hpk _ 0 [] .nil tm h (by simp) (Nat.zero_le _) ⟨?_, fun i v q => by simp [T.get] at q, fun i o v q => by simp [T.get] at q⟩ (fun j => by simp [T.get]) (fun j u q => by simp [T.get] at q) d4 h1
  intro t
  unfold curOf
  cases dIdx t arr.toList 0 with
  | none => rfl
  | some j => simp [T.get]
end Go.SX
namespace Go.SX
open Go.RowKit
/-! ### values that are equal to themselves for this machine -/
mutual
def nf : Value → Bool
  | .float .. | .complex .. | .chan _ => false
  | .func _ a b => nfA a && nfA b
  | .iface _ v => nf v
  | .agg a => nfA a
  | .tuple a => nfA a
  | _ => true
def nfA : Array Value → Bool
  | ⟨l⟩ => nfL l
def nfL : List Value → Bool
  | [] => true
  | v :: l => nf v && nfL l
end
mutual
theorem veq_self : ∀ (v : Value), nf v = true → veq v v = true
  | .bool b, _ => by cases b <;> rfl
  | .int k n, _ => by simp only [veq, kk, ibeq_iff]; simp
  | .string s, _ => by simp only [veq, bytesEq_iff]; simp
  | .pointer none, _ => rfl
  | .pointer (some a), _ => by simp only [veq, beqT]; simp
  | .slice none n c, _ => by simp only [veq, beqT]; simp
  | .slice (some a) n c, _ => by simp only [veq, beqT]; simp
  | .map none, _ => rfl
  | .map (some r), _ => by simp only [veq, beqT]
  | .func f ⟨a⟩ ⟨b⟩, h => by
    simp only [nf, nfA, Bool.and_eq_true] at h
    simp only [veq, veqA, veqL_self a h.1, veqL_self b h.2, Bool.and_true]
    simp
  | .nilFunc, _ => rfl
  | .nilIface, _ => rfl
  | .iface t v, h => by simp only [nf] at h; simp only [veq, veq_self v h, beqT, Bool.and_true]
  | .agg ⟨a⟩, h => by simp only [nf, nfA] at h; simp only [veq, veqA, veqL_self a h]
  | .tuple ⟨a⟩, h => by simp only [nf, nfA] at h; simp only [veq, veqA, veqL_self a h]
  | .float .., h => by simp [nf] at h
  | .complex .., h => by simp [nf] at h
  | .chan _, h => by simp [nf] at h
theorem veqL_self : ∀ (l : List Value), nfL l = true → veqL l l = true
  | [], _ => rfl
  | v :: l, h => by
    simp only [nfL, Bool.and_eq_true] at h
    simp only [veqL, veq_self v h.1, veqL_self l h.2, Bool.and_self]
end
variable {P : Program} {e : E} {c : Ctx P e} {arr : List Oper} {tm : T Value} {fn nt : Nat} {k : List AIt} {df : List Deferred} {kd : CallKind} {rd : Option Nat} {xs : List AFr} {h h' : H} {pl : List PI} {i : Nat} {nd : Bool} {o : Oper}
theorem WP.nil (h1 : W c (S fn nt tm k df kd rd xs h)) : WP c fn nt arr k df kd rd xs [] tm h := h1
theorem WP.val {v : Value} {d : Tmp} (ho : arr[i]? = some o) (hx : xop e tm h o = some (.val v h)) (hd : o.dst = some d) (hw : wantedA arr tm o.guard = some true) (hf : freshOp o.op = false) (hq : nf v = true) (hs : sliceOk v h = true)
    (h1 : WP c fn nt arr k df kd rd xs pl (tm.set d v) h) : WP c fn nt arr k df kd rd xs (.e i :: pl) tm h :=
  ⟨o, ho, .inr (.inl ⟨hw, hf, v, hx, veq_self v hq, hs, by simp only [putD, hd]; exact h1⟩)⟩
theorem WP.not (ho : arr[i]? = some o) (hw : wantedA arr tm o.guard = some false) (h1 : WP c fn nt arr k df kd rd xs pl (putD tm o.dst undefV) h) : WP c fn nt arr k df kd rd xs (.e i :: pl) tm h :=
  ⟨o, ho, .inl ⟨hw, h1⟩⟩
theorem WP.notX (ho : arr[i]? = some o) (hw : wantedA arr tm o.guard = some false) (h1 : WP c fn nt arr k df kd rd xs pl (putD tm o.dst undefV) h) : WP c fn nt arr k df kd rd xs (.x i nd :: pl) tm h :=
  ⟨o, ho, .inl ⟨hw, h1⟩⟩
theorem WP.fresh {ob : AObj} {mk : Mk} {d : Tmp} (ho : arr[i]? = some o) (hf : freshOp o.op = true) (hx : xfresh e tm o.op = some (ob, mk)) (hd : o.dst = some d) (hw : wantedA arr tm o.guard = some true) (hq : oeq ob ob = true)
    (h1 : WP c fn nt arr k df kd rd xs pl (tm.set d (mk.at h.n)) (h.new ob)) : WP c fn nt arr k df kd rd xs (.e i :: pl) tm h :=
  ⟨o, ho, .inr (.inr ⟨hw, hf, ob, mk, hx, hq, veq_self _ (by cases mk <;> rfl), by simp only [putD, hd]; exact h1⟩)⟩
theorem WP.valX {v : Value} {d : Tmp} (ho : arr[i]? = some o) (hx : xop e tm h o = some (.val v h')) (hd : o.dst = some d) (hw : wantedA arr tm o.guard = some true) (hn : h.n ≤ h'.n) (hl : nd = true → HLe h h')
    (h1 : WP c fn nt arr k df kd rd xs pl (tm.set d v) h') : WP c fn nt arr k df kd rd xs (.x i nd :: pl) tm h :=
  ⟨o, ho, .inr (.inl ⟨hw, v, h', hx, hn, hl, by simp only [putD, hd]; exact h1⟩)⟩
theorem WP.effX (ho : arr[i]? = some o) (hw : wantedA arr tm o.guard = some true) (hx : xop e tm h o = some (.skip h')) (hn : h.n ≤ h'.n) (hl : nd = true → HLe h h')
    (h1 : WP c fn nt arr k df kd rd xs pl (putD tm o.dst undefV) h') : WP c fn nt arr k df kd rd xs (.x i nd :: pl) tm h :=
  ⟨o, ho, .inr (.inr (.inl ⟨hw, h', hx, hn, hl, h1⟩))⟩
theorem WP.callX {f : FuncId} {args : List Value} {Q : Value → H → Prop} {d : Tmp} (ho : arr[i]? = some o) (hx : xop e tm h o = some (.enter f args)) (hd : o.dst = some d) (hw : wantedA arr tm o.guard = some true) (hG : Gives P e f args h Q)
    (hl : ∀ v h2, Q v h2 → h.n ≤ h2.n ∧ (nd = true → HLe h h2)) (h1 : ∀ v h2, Q v h2 → WP c fn nt arr k df kd rd xs pl (tm.set d v) h2) : WP c fn nt arr k df kd rd xs (.x i nd :: pl) tm h :=
  ⟨o, ho, .inr (.inr (.inr ⟨hw, f, args, Q, hx, hG, fun v h2 q => ⟨(hl v h2 q).1, (hl v h2 q).2, by simp only [putD, hd]; exact h1 v h2 q⟩⟩))⟩
theorem wantedA_agree {a b : T Value} (hab : ∀ t, a.get t = b.get t) (arr : List Oper) (g : Option (Nat × Bool)) : wantedA arr a g = wantedA arr b g := by
  unfold wantedA
  cases g with
  | none => rfl
  | some p =>
    obtain ⟨j, want⟩ := p
    simp only
    cases lget arr j with
    | none => rfl
    | some o =>
      simp only
      cases o.dst with
      | none => rfl
      | some d => simp only [hab]
theorem agree_all {a b : T Value} (hab : ∀ t, a.get t = b.get t) (l : List Operand) : Agree l a b := fun _ _ t _ => hab t
theorem putD_agree {a b : T Value} (hab : ∀ t, a.get t = b.get t) (d : Option Tmp) (v : Value) : ∀ t, (putD a d v).get t = (putD b d v).get t := by
  intro t
  cases d with
  | none => exact hab t
  | some d => simp only [putD, T.get_set, hab]
theorem WP.agree (hpk : Plain k) : ∀ {pl : List PI} {a b : T Value} {h : H}, (∀ t, a.get t = b.get t) → WP c fn nt arr k df kd rd xs pl a h → WP c fn nt arr k df kd rd xs pl b h
  | [], a, b, h, hab, hw => W.weakPlain hpk (fun i v hi => by rw [← hab]; exact hi) hw
  | .e i :: pl, a, b, h, hab, hw => by
    obtain ⟨o, ho, hw⟩ := hw
    refine ⟨o, ho, ?_⟩
    rcases hw with ⟨q1, q2⟩ | ⟨q1, q2, v, q3, q4, q5, q6⟩ | ⟨q1, q2, ob, mk, q3, q4, q5, q6⟩
    · exact .inl ⟨by rw [← wantedA_agree hab]; exact q1, WP.agree hpk (putD_agree hab _ _) q2⟩
    · exact .inr (.inl ⟨by rw [← wantedA_agree hab]; exact q1, q2, v, by rw [← xop_agree (agree_all hab _)]; exact q3, q4, q5, WP.agree hpk (putD_agree hab _ _) q6⟩)
    · exact .inr (.inr ⟨by rw [← wantedA_agree hab]; exact q1, q2, ob, mk, by rw [← xfresh_agree (agree_all hab _)]; exact q3, q4, q5, WP.agree hpk (putD_agree hab _ _) q6⟩)
  | .x i nd :: pl, a, b, h, hab, hw => by
    obtain ⟨o, ho, hw⟩ := hw
    refine ⟨o, ho, ?_⟩
    rcases hw with ⟨q1, q2⟩ | ⟨q1, v, h2, q3, q4, q5, q6⟩ | ⟨q1, h2, q3, q4, q5, q6⟩ | ⟨q1, f, args, Q, q3, q4, q5⟩
    · exact .inl ⟨by rw [← wantedA_agree hab]; exact q1, WP.agree hpk (putD_agree hab _ _) q2⟩
    · exact .inr (.inl ⟨by rw [← wantedA_agree hab]; exact q1, v, h2, by rw [← xop_agree (agree_all hab _)]; exact q3, q4, q5, WP.agree hpk (putD_agree hab _ _) q6⟩)
    · exact .inr (.inr (.inl ⟨by rw [← wantedA_agree hab]; exact q1, h2, by rw [← xop_agree (agree_all hab _)]; exact q3, q4, q5, WP.agree hpk (putD_agree hab _ _) q6⟩))
    · exact .inr (.inr (.inr ⟨by rw [← wantedA_agree hab]; exact q1, f, args, Q, by rw [← xop_agree (agree_all hab _)]; exact q3, q4, fun v h2 hq => ⟨(q5 v h2 hq).1, (q5 v h2 hq).2.1, WP.agree hpk (putD_agree hab _ _) (q5 v h2 hq).2.2⟩⟩))
theorem set_agree {d : Tmp} {B b : Bool} (hv : tm.get d = some (.bool B)) (hb : B = b) : ∀ t, (tm.set d (.bool b)).get t = tm.get t := by
  intro t
  rw [T.get_set]
  split
  · rename_i q; subst q; rw [hv, hb]
  · rfl
theorem WP.splitE (hpk : Plain k) {o g : Oper} {j : Nat} {want B : Bool} {d : Tmp} (_ho : arr[i]? = some o) (_hg : o.guard = some (j, want)) (_hj : arr[j]? = some g) (_hd : g.dst = some d) (hv : tm.get d = some (.bool B))
    (h1 : B = true → WP c fn nt arr k df kd rd xs (.e i :: pl) (tm.set d (.bool true)) h) (h0 : B = false → WP c fn nt arr k df kd rd xs (.e i :: pl) (tm.set d (.bool false)) h) : WP c fn nt arr k df kd rd xs (.e i :: pl) tm h := by
  cases hB : B with
  | true => exact WP.agree hpk (set_agree hv hB) (h1 hB)
  | false => exact WP.agree hpk (set_agree hv hB) (h0 hB)
theorem WP.splitX (hpk : Plain k) {o g : Oper} {j : Nat} {want B : Bool} {d : Tmp} (_ho : arr[i]? = some o) (_hg : o.guard = some (j, want)) (_hj : arr[j]? = some g) (_hd : g.dst = some d) (hv : tm.get d = some (.bool B))
    (h1 : B = true → WP c fn nt arr k df kd rd xs (.x i nd :: pl) (tm.set d (.bool true)) h) (h0 : B = false → WP c fn nt arr k df kd rd xs (.x i nd :: pl) (tm.set d (.bool false)) h) : WP c fn nt arr k df kd rd xs (.x i nd :: pl) tm h := by
  cases hB : B with
  | true => exact WP.agree hpk (set_agree hv hB) (h1 hB)
  | false => exact WP.agree hpk (set_agree hv hB) (h0 hB)
/-- an operation that comes and is wanted -/
def WPG (c : Ctx P e) (fn nt : Nat) (arr : List Oper) (k : List AIt) (df : List Deferred) (kd : CallKind) (rd : Option Nat) (xs : List AFr) (p : PI) (o : Oper) (pl : List PI) (tm : T Value) (h : H) : Prop :=
  wantedA arr tm o.guard = some true → WP c fn nt arr k df kd rd xs (p :: pl) tm h
/-- the operation that a place of the way names -/
def PI.at (arr : List Oper) : PI → Option Oper
  | .e i => arr[i]?
  | .x i _ => arr[i]?
theorem WP.on {p : PI} (_ho : p.at arr = some o) (hw : wantedA arr tm o.guard = some true) (h1 : WPG c fn nt arr k df kd rd xs p o pl tm h) : WP c fn nt arr k df kd rd xs (p :: pl) tm h := h1 hw
theorem WPG.val {v : Value} {d : Tmp} (hx : xop e tm h o = some (.val v h)) (ho : arr[i]? = some o) (hd : o.dst = some d) (hf : freshOp o.op = false) (hq : nf v = true) (hs : sliceOk v h = true)
    (h1 : WP c fn nt arr k df kd rd xs pl (tm.set d v) h) : WPG c fn nt arr k df kd rd xs (.e i) o pl tm h := fun hw => WP.val ho hx hd hw hf hq hs h1
theorem WPG.fresh {ob : AObj} {mk : Mk} {d : Tmp} (hx : xfresh e tm o.op = some (ob, mk)) (ho : arr[i]? = some o) (hf : freshOp o.op = true) (hd : o.dst = some d) (hq : oeq ob ob = true)
    (h1 : WP c fn nt arr k df kd rd xs pl (tm.set d (mk.at h.n)) (h.new ob)) : WPG c fn nt arr k df kd rd xs (.e i) o pl tm h := fun hw => WP.fresh ho hf hx hd hw hq h1
theorem WPG.valX {v : Value} {d : Tmp} (hx : xop e tm h o = some (.val v h')) (ho : arr[i]? = some o) (hd : o.dst = some d) (hn : h.n ≤ h'.n) (hl : nd = true → HLe h h')
    (h1 : WP c fn nt arr k df kd rd xs pl (tm.set d v) h') : WPG c fn nt arr k df kd rd xs (.x i nd) o pl tm h := fun hw => WP.valX ho hx hd hw hn hl h1
theorem WPG.effX (hx : xop e tm h o = some (.skip h')) (ho : arr[i]? = some o) (hn : h.n ≤ h'.n) (hl : nd = true → HLe h h')
    (h1 : WP c fn nt arr k df kd rd xs pl (putD tm o.dst undefV) h') : WPG c fn nt arr k df kd rd xs (.x i nd) o pl tm h := fun hw => WP.effX ho hw hx hn hl h1
theorem WPG.callX {f : FuncId} {args : List Value} {Q : Value → H → Prop} {d : Tmp} (hx : xop e tm h o = some (.enter f args)) (ho : arr[i]? = some o) (hd : o.dst = some d) (hG : Gives P e f args h Q)
    (hl : ∀ v h2, Q v h2 → h.n ≤ h2.n ∧ (nd = true → HLe h h2)) (h1 : ∀ v h2, Q v h2 → WP c fn nt arr k df kd rd xs pl (tm.set d v) h2) : WPG c fn nt arr k df kd rd xs (.x i nd) o pl tm h := fun hw => WP.callX ho hx hd hw hG hl h1
end Go.SX
namespace Go.SX
open Go.RowKit
variable {e : E} {tm : T Value} {h h' : H} {o : Oper}
/-! ### one cell, and some -/
def cell (h : H) (r off : Nat) : Option Value := match h.obj r with
  | some (.cells cs) => cs[off]?
  | some (.ro cs) => cs[off]?
  | _ => none
theorem load_cell {t : TypeId} {r off : Nat} {v : Value} (ht : isAgg e t = some false) (hc : cell h r off = some v) : loadVar e h t r off = some v := by
  have : loadVar e h t r off = F.load1 h r off := by rw [← F.loadVar_eq]; simp only [F.loadVar, ht, F.ob]
  rw [this]
  unfold cell at hc
  simp only [F.load1, F.obj_eq, F.ob]
  cases ho : h.obj r with
  | none => rw [ho] at hc; cases hc
  | some ob => rw [ho] at hc; cases ob <;> first | (cases hc; done) | (simp only [F.lget_eq, lget_eq]; exact hc)
theorem HLe.cell (hl : HLe h h') {r off : Nat} {v : Value} (q : cell h r off = some v) : SX.cell h' r off = some v := by
  unfold SX.cell at q ⊢
  cases ho : h.obj r with
  | none => rw [ho] at q; cases q
  | some ob => rw [ho] at q; rw [hl.obj ho]; exact q
theorem loadAt_cell {r off n : Nat} {cs : List Value} (hl : h.loadAt r off n = some cs) {j : Nat} {v : Value} (hj : cs[j]? = some v) : cell h r (off + j) = some v := by
  unfold H.loadAt at hl
  unfold cell
  have key : ∀ ds : List Value, (bif Nat.ble (off + n) (llen ds) then some (ltake n (ldrop off ds)) else none) = some cs → ds[off + j]? = some v := by
    intro ds q
    cases hb : Nat.ble (off + n) (llen ds) with
    | false => rw [hb] at q; cases q
    | true =>
      rw [hb, cond_true] at q
      simp only [ltake_eq, ldrop_eq, Option.some.injEq] at q
      subst q
      rw [List.getElem?_take] at hj
      split at hj
      · rw [List.getElem?_drop] at hj; exact hj
      · cases hj
  cases ho : h.obj r with
  | none => rw [ho] at hl; cases hl
  | some ob => rw [ho] at hl; cases ob <;> first | (cases hl; done) | exact key _ hl
theorem loadAt_sub {r off N : Nat} {cs : List Value} (hl : h.loadAt r off N = some cs) {i n : Nat} (hn : i + n ≤ N) : h.loadAt r (off + i) n = some ((cs.drop i).take n) := by
  unfold H.loadAt at hl ⊢
  have key : ∀ ds : List Value, (bif Nat.ble (off + N) (llen ds) then some (ltake N (ldrop off ds)) else none) = some cs → (bif Nat.ble (off + i + n) (llen ds) then some (ltake n (ldrop (off + i) ds)) else none) = some ((cs.drop i).take n) := by
    intro ds q
    cases hb : Nat.ble (off + N) (llen ds) with
    | false => rw [hb] at q; cases q
    | true =>
      have hb2 := Nat.le_of_ble_eq_true hb
      rw [Nat.ble_eq_true_of_le (show off + i + n ≤ llen ds by omega)]
      rw [hb, cond_true] at q
      simp only [ltake_eq, ldrop_eq, Option.some.injEq, cond_true] at q ⊢
      subst q
      rw [List.drop_take, List.drop_drop, List.take_take, Nat.min_eq_left (by omega)]
  cases ho : h.obj r with
  | none => rw [ho] at hl; cases hl
  | some ob => rw [ho] at hl; cases ob <;> first | (cases hl; done) | exact key _ hl
theorem loadAt_len {r off n : Nat} {cs : List Value} (hl : h.loadAt r off n = some cs) : cs.length = n := by
  unfold H.loadAt at hl
  have key : ∀ ds : List Value, (bif Nat.ble (off + n) (llen ds) then some (ltake n (ldrop off ds)) else none) = some cs → cs.length = n := by
    intro ds q
    cases hb : Nat.ble (off + n) (llen ds) with
    | false => rw [hb] at q; cases q
    | true =>
      have hb2 := Nat.le_of_ble_eq_true hb
      rw [hb, cond_true] at q
      simp only [llen_eq] at hb2
      simp only [ltake_eq, ldrop_eq, Option.some.injEq] at q
      subst q
      simp only [List.length_take, List.length_drop]; omega
  cases ho : h.obj r with
  | none => rw [ho] at hl; cases hl
  | some ob => rw [ho] at hl; cases ob <;> first | (cases hl; done) | exact key _ hl
theorem flat_len {α : Type} {enc : α → List Value} {z : Nat} : ∀ {l : List α}, (∀ x, x ∈ l → (enc x).length = z) → (l.flatMap enc).length = l.length * z
  | [], _ => by simp
  | x :: l, h => by
    rw [List.flatMap_cons, List.length_append, h x (List.mem_cons_self ..), flat_len fun y hy => h y (List.mem_cons_of_mem _ hy), List.length_cons, Nat.succ_mul]; omega
theorem flat_at {α : Type} {enc : α → List Value} {z : Nat} : ∀ {l : List α}, (∀ x, x ∈ l → (enc x).length = z) → ∀ {i : Nat} {x : α}, l[i]? = some x → ((l.flatMap enc).drop (i * z)).take z = enc x
  | [], _, i, x, hx => by simp at hx
  | y :: l, h, 0, x, hx => by
    simp only [List.getElem?_cons_zero, Option.some.injEq] at hx
    subst hx
    rw [List.flatMap_cons, Nat.zero_mul, List.drop_zero, List.take_append_of_le_length (by rw [h y (List.mem_cons_self ..)]; omega), List.take_of_length_le (by rw [h y (List.mem_cons_self ..)]; omega)]
  | y :: l, h, i + 1, x, hx => by
    have hy := h y (List.mem_cons_self ..)
    rw [List.flatMap_cons, Nat.succ_mul, show i * z + z = (enc y).length + i * z by omega, List.drop_append, List.drop_eq_nil_of_le (by omega), List.nil_append, Nat.add_sub_cancel_left]
    exact flat_at (fun w hw => h w (List.mem_cons_of_mem _ hw)) (by simpa using hx)
/-- a slice that reads as a list -/
def Sl {α : Type} (h : H) (enc : α → List Value) (z : Nat) (v : Value) (l : List α) : Prop :=
  (∃ cp, v = .slice none 0 cp ∧ l = []) ∨ ∃ r off cp, v = .slice (some ⟨r, off, some z⟩) l.length cp ∧ h.loadAt r off (l.length * z) = some (l.flatMap enc) ∧ (∀ x, x ∈ l → (enc x).length = z) ∧ r < h.n ∧ l.length ≤ capLo cp
theorem Sl.grow {α : Type} {enc : α → List Value} {z : Nat} {v : Value} {l : List α} (hs : Sl h enc z v l) (hl : HLe h h') : Sl h' enc z v l := by
  rcases hs with q | ⟨r, off, cp, q1, q2, q3, q4, q5⟩
  · exact .inl q
  · exact .inr ⟨r, off, cp, q1, hl.loadAt q2, q3, Nat.lt_of_lt_of_le q4 hl.n, q5⟩
theorem Sl.nil {α : Type} {enc : α → List Value} {z cp : Nat} : Sl h enc z (.slice none 0 cp) [] := .inl ⟨cp, rfl, rfl⟩
/-- what one sees of such a slice -/
structure SlV {α : Type} (h : H) (enc : α → List Value) (z : Nat) (a : Option Addr) (cp : Nat) (l : List α) : Prop where
  at_ : ∀ i x, l[i]? = some x → ∃ r off, a = some ⟨r, off, some z⟩ ∧ h.loadAt r (off + i * z) z = some (enc x) ∧ r < h.n
  sl : Sl h enc z (.slice a l.length cp) l
theorem Sl.view {α : Type} {enc : α → List Value} {z : Nat} {v : Value} {l : List α} (hs : Sl h enc z v l) :
    ∃ a cp, v = .slice a l.length cp ∧ ∀ i x, l[i]? = some x → ∃ r off, a = some ⟨r, off, some z⟩ ∧ h.loadAt r (off + i * z) z = some (enc x) ∧ r < h.n := by
  rcases hs with ⟨cp, rfl, rfl⟩ | ⟨r, off, cp, rfl, q2, q3, q4, q5⟩
  · exact ⟨none, cp, rfl, fun i x hx => by simp at hx⟩
  · refine ⟨_, cp, rfl, fun i x hx => ⟨r, off, rfl, ?_, q4⟩⟩
    have hi := (List.getElem?_eq_some_iff.1 hx).1
    rw [← flat_at q3 hx]
    refine loadAt_sub q2 ?_
    have : (i + 1) * z ≤ l.length * z := Nat.mul_le_mul_right z hi
    rw [Nat.succ_mul] at this; exact this
/-- a beginning of a slice -/
theorem Sl.take {α : Type} {enc : α → List Value} {z n cp : Nat} {a : Option Addr} {l : List α} (hs : Sl h enc z (.slice a n cp) l) (i : Nat) (hi : i ≤ l.length) : Sl h enc z (.slice a i cp) (l.take i) := by
  rcases hs with ⟨cp', q, rfl⟩ | ⟨r, off, cp', q, q2, q3, q4, q5⟩
  · cases q; have : i = 0 := by simpa using hi
    subst this; exact .inl ⟨_, rfl, rfl⟩
  · cases q
    have hlen : (l.take i).length = i := by rw [List.length_take]; omega
    refine .inr ⟨r, off, cp, by rw [hlen], ?_, fun x hx => q3 x (List.mem_of_mem_take hx), q4, by rw [hlen]; omega⟩
    have h2 := loadAt_sub q2 (i := 0) (n := i * z) (by have := Nat.mul_le_mul_right z hi; omega)
    rw [hlen]
    have e1 : (l.take i).flatMap enc = (l.flatMap enc).take (i * z) := by
      have e2 : l.flatMap enc = (l.take i).flatMap enc ++ (l.drop i).flatMap enc := by rw [← List.flatMap_append, List.take_append_drop]
      have e3 := flat_len (l := l.take i) (z := z) fun x hx => q3 x (List.mem_of_mem_take hx)
      rw [hlen] at e3
      generalize (l.take i).flatMap enc = A at e2 e3
      rw [e2, List.take_append_of_le_length (by omega), List.take_of_length_le (by omega)]
    rw [e1]; simpa using h2
theorem slice_ok {r o n cp : Nat} {sp : Option Nat} (hr : r < h.n) : sliceOk (.slice (some ⟨r, o, sp⟩) n cp) h = true := by
  unfold sliceOk; exact Nat.ble_eq_true_of_le hr
/-! ### operations on memory -/
structure FieldAt (e : E) (s : TypeId) (f off : Nat) : Prop where
  ex : ∃ fs fd z, e.under s = some (.struct fs) ∧ lget fs.toList f = some fd ∧ sizeOf e fd.type = some (Nat.succ z) ∧ fd.offset = off
theorem x_fld {s : TypeId} {x : Operand} {f off r p : Nat} {sp : Option Nat} (ho : o.op = .fieldAddr s x f) (hf : FieldAt e s f off) (hx : ev tm x = some (.pointer (some ⟨r, p, sp⟩))) : xop e tm h o = some (.val (.pointer (some ⟨r, p + off, none⟩)) h) := by
  obtain ⟨fs, fd, z, h1, h2, h3, h4⟩ := hf.ex
  unfold xop; rw [ho]; simp only [h1, h2, h3, hx, bind1, h4]
theorem x_idxA {t el : TypeId} {x i : Operand} {k : IntKind} {z n cp j r p : Nat} {sp : Option Nat} (ho : o.op = .indexAddr t x i) (hu : e.under t = some (.slice el)) (hz : sizeOf e el = some z) (hx : ev tm x = some (.slice (some ⟨r, p, sp⟩) n cp)) (hi : ev tm i = some (.int k (j : Nat))) (hj : j < n) :
    xop e tm h o = some (.val (.pointer (some ⟨r, p + j * z, none⟩)) h) := by
  have hk : nat? (.int k (j : Nat)) = some j := rfl
  unfold xop; rw [ho]; simp only [hx, hi, bind2, hu, hz, hk]
  have : Nat.blt j n = true := by unfold Nat.blt; exact Nat.ble_eq_true_of_le hj
  rw [this, cond_true]
theorem x_load {t : TypeId} {a : Operand} {r p : Nat} {v : Value} {sp : Option Nat} (ho : o.op = .load t a) (ha : ev tm a = some (.pointer (some ⟨r, p, sp⟩))) (ht : isAgg e t = some false) (hc : cell h r p = some v) : xop e tm h o = some (.val v h) := by
  unfold xop; rw [ho]; simp only [ha, bind1, load_cell ht hc, ret]
theorem x_loadA {t : TypeId} {a : Operand} {r p n : Nat} {cs : List Value} {sp : Option Nat} (ho : o.op = .load t a) (ha : ev tm a = some (.pointer (some ⟨r, p, sp⟩))) (ht : isAgg e t = some true) (hz : sizeOf e t = some n) (hc : h.loadAt r p n = some cs) :
    xop e tm h o = some (.val (.agg ⟨cs⟩) h) := by
  unfold xop; rw [ho]; simp only [ha, bind1, loadVar, ht, hz, hc, ret]
/-- a block of one's own -/
structure Own (h : H) (r : Nat) (cs : List Value) : Prop where
  b : h.b.get r = some ⟨.cells cs, r, 0⟩
  g : h.g.get r = none
def H.upd (h : H) (r : Nat) (cs : List Value) : H := { h with b := h.b.set r ⟨.cells cs, r, 0⟩ }
theorem Own.new (hf : Fresh h) (cs : List Value) : Own (h.new (.cells cs)) h.n cs := by
  refine ⟨by simp [H.new, T.get_set], ?_⟩
  show h.g.get h.n = none
  cases hg : h.g.get h.n with
  | none => rfl
  | some ms => exact absurd (hf.g _ _ hg) (Nat.lt_irrefl _)
theorem Own.lt (hf : Fresh h) {r : Nat} {cs : List Value} (ho : Own h r cs) : r < h.n := (hf.lt _ _ ho.b).1
theorem Own.grow {r : Nat} {cs : List Value} (hf : Fresh h) (ho : Own h r cs) (hl : HLe h h') : Own h' r cs := ⟨hl.b _ _ ho.b, by rw [hl.g _ (ho.lt hf)]; exact ho.g⟩
theorem Own.cell {r : Nat} {cs : List Value} (ho : Own h r cs) (off : Nat) : cell h r off = cs[off]? := by
  unfold SX.cell H.obj; rw [ho.b]
theorem Own.obj {r : Nat} {cs : List Value} (ho : Own h r cs) : h.obj r = some (.cells cs) := by unfold H.obj; rw [ho.b]
theorem Own.loadAt {r : Nat} {cs : List Value} (ho : Own h r cs) {off n : Nat} (hn : off + n ≤ cs.length) : h.loadAt r off n = some ((cs.drop off).take n) := by
  unfold H.loadAt; rw [ho.obj]; simp only [llen_eq, ltake_eq, ldrop_eq, Nat.ble_eq_true_of_le hn, cond_true]
theorem Own.upd {r : Nat} {cs cs' : List Value} (ho : Own h r cs) : Own (h.upd r cs') r cs' := ⟨by simp [H.upd, T.get_set], ho.g⟩
theorem Own.upd_ne {r s : Nat} {cs ds cs' : List Value} (ho : Own h r cs) (hne : r ≠ s) : Own (h.upd s cs') r cs := ⟨by simp only [H.upd, T.get_set]; rw [if_neg hne]; exact ho.b, ho.g⟩
theorem Fresh.upd (hf : Fresh h) {r : Nat} {cs cs' : List Value} (ho : Own h r cs) : Fresh (h.upd r cs') := by
  refine ⟨fun s k q => ?_, hf.g⟩
  simp only [H.upd, T.get_set] at q
  split at q
  · rename_i q2; subst q2; cases q; exact ⟨ho.lt hf, ho.lt hf⟩
  · exact hf.lt s k q
/-- memory behind a store, but for the block itself -/
theorem HLe.upd {r : Nat} {cs cs' : List Value} {h0 : H} (hl : HLe h0 h) (hr : h0.n ≤ r) (hf : Fresh h0) : HLe h0 (h.upd r cs') :=
  ⟨fun s k q => by simp only [H.upd, T.get_set]; rw [if_neg (Nat.ne_of_lt (Nat.lt_of_lt_of_le (hf.lt s k q).1 hr))]; exact hl.b s k q, hl.g, hl.n⟩
theorem storeAt_own {r off : Nat} {cs vs : List Value} (ho : Own h r cs) (hn : off + vs.length ≤ cs.length) (h1 : allOne vs = true) : h.storeAt r off vs = some (h.upd r (cs.take off ++ (vs ++ cs.drop (off + vs.length)))) := by
  unfold H.storeAt
  rw [ho.b]
  simp only [llen_eq, ltake_eq, ldrop_eq, lapp_eq, Nat.ble_eq_true_of_le hn, h1, Bool.and_self, cond_true]
  simp only [H.lone, ho.g, H.upd]
theorem x_store {t : TypeId} {a x : Operand} {r p n : Nat} {v : Value} {sp : Option Nat} {cs : List Value} (ho : o.op = .store t a x) (ha : ev tm a = some (.pointer (some ⟨r, p, sp⟩))) (hx : ev tm x = some v) (hz : sizeOf e t = some n) (hv : (vcells v).length = n)
    (hw : Own h r cs) (hn : p + n ≤ cs.length) (h1 : allOne (vcells v) = true) : xop e tm h o = some (.skip (h.upd r (cs.take p ++ (vcells v ++ cs.drop (p + n))))) := by
  unfold xop; rw [ho]; simp only [ha, hx, bind2, storeVar, hz, llen_eq, hv, beqT, cond_true]
  rw [storeAt_own hw (by rw [hv]; exact hn) h1, hv]
theorem x_alloc {el : TypeId} {z : Value} (ho : o.op = .alloc el) (hz : zeroOf e el = some z) (hc : closedV z = true) : xop e tm h o = some (.val (.pointer (some ⟨h.n, 0, none⟩)) (h.new (.cells (vcells z)))) := by
  unfold xop; rw [ho]; simp only [xfresh, hz, hc, cond_true, Mk.at]
theorem x_box {el : TypeId} {x : Operand} {v : Value} (ho : o.op = .box el x) (hx : ev tm x = some v) : xop e tm h o = some (.val (.pointer (some ⟨h.n, 0, none⟩)) (h.new (.cells (vcells v)))) := by
  unfold xop; rw [ho]; simp only [xfresh, hx, Mk.at]
end Go.SX
namespace Go.SX
/-! ### facts of a program, as instances -/
class UnderT (e : E) (t : TypeId) (d : outParam TypeDesc) : Prop where
  h : e.under t = some d
class StringT (e : E) (t : TypeId) : Prop where
  h : e.under t = some .string
class SliceT (e : E) (t : TypeId) (el : outParam TypeId) (z : outParam Nat) : Prop where
  u : e.under t = some (.slice el)
  z : sizeOf e el = some z
class ScalarT (e : E) (t : TypeId) : Prop where
  a : isAgg e t = some false
  z : sizeOf e t = some 1
class AggT (e : E) (t : TypeId) (n : outParam Nat) : Prop where
  a : isAgg e t = some true
  z : sizeOf e t = some n
class FieldT (e : E) (s : TypeId) (f : Nat) (off : outParam Nat) : Prop where
  h : FieldAt e s f off
class ZeroT (e : E) (t : TypeId) (z : outParam Value) : Prop where
  h : zeroOf e t = some z
  c : closedV z = true
class BytesT (e : E) (t : TypeId) (n : outParam Nat) : Prop where
  h : ∃ i, e.info t = some i ∧ i.bytes = n
class FuncT (e : E) (f : FuncId) (F : outParam Func) : Prop where
  h : e.fn.get f = some F
  ok : fnOk e f = true
theorem FieldAt.mk' {e : E} {s f off : Nat} (h : (match e.under s with
    | some (.struct fs) => (match lget fs.toList f with
      | some fd => (match sizeOf e fd.type with | some (Nat.succ _) => Nat.beq fd.offset off | _ => false)
      | none => false)
    | _ => false) = true) : FieldAt e s f off := by
  split at h
  · rename_i fs h1
    split at h
    · rename_i fd h2
      split at h
      · rename_i z h3
        exact ⟨fs, fd, z, h1, h2, h3, Nat.eq_of_beq_eq_true h⟩
      · cases h
    · cases h
  · cases h
theorem bytes_mk {e : E} {t n : Nat} (h : (match e.info t with | some i => Nat.beq i.bytes n | none => false) = true) : ∃ i, e.info t = some i ∧ i.bytes = n := by
  split at h
  · rename_i i h1; exact ⟨i, h1, Nat.eq_of_beq_eq_true h⟩
  · cases h
class SmallT (e : E) (el : TypeId) (nb : outParam Nat) : Prop where
  h : (match e.info el with | some i => Nat.beq i.bytes nb && (match i.zero with | some z => closedV z && Nat.beq (llen (vcells z)) i.size | none => false) | none => false) = true
theorem small_ok {e : E} {el : TypeId} {nb n : Nat} [hs : SmallT e el nb] (h1 : n ≤ 4611686018427387904) (h2 : (2 * n + 192) * nb ≤ 281474976710656) : small e el n = true := by
  have hh := hs.h
  unfold small
  cases hi : e.info el with
  | none => rw [hi] at hh; cases hh
  | some i =>
    rw [hi] at hh
    simp only [Bool.and_eq_true] at hh ⊢
    rw [Nat.eq_of_beq_eq_true hh.1]
    exact ⟨⟨Nat.ble_eq_true_of_le h1, Nat.ble_eq_true_of_le h2⟩, hh.2⟩
/-- where the parts of a struct lie -/
class StructT (e : E) (t : TypeId) (z : outParam Value) (pl : outParam (List (Nat × Nat))) : Prop where
  h : ∃ fs, e.under t = some (.struct fs) ∧ zeroOf e t = some z ∧ closedV z = true ∧ allSized e fs.toList = true ∧ ∀ i, place e fs.toList i = pl[i]?
class ArrT (e : E) (t : TypeId) (z : outParam Value) (n : outParam Nat) : Prop where
  h : ∃ m el, e.under t = some (.array m el) ∧ zeroOf e t = some z ∧ closedV z = true ∧ sizeOf e el = some n
def placeL (e : E) : List Field → Option (List (Nat × Nat))
  | [] => some []
  | f :: fs => match sizeOf e f.type, placeL e fs with | some n, some l => some ((f.offset, n) :: l) | _, _ => none
theorem placeL_ok {e : E} : ∀ {fs : List Field} {l : List (Nat × Nat)}, placeL e fs = some l → allSized e fs = true ∧ ∀ i, place e fs i = l[i]?
  | [], l, h => by cases h; exact ⟨rfl, fun i => by cases i <;> rfl⟩
  | f :: fs, l, h => by
    simp only [placeL] at h
    cases h1 : sizeOf e f.type with
    | none => rw [h1] at h; cases h
    | some n =>
      cases h2 : placeL e fs with
      | none => rw [h1, h2] at h; cases h
      | some l2 =>
        rw [h1, h2] at h; cases h
        obtain ⟨q1, q2⟩ := placeL_ok h2
        refine ⟨by simp only [allSized, h1, q1, Option.isSome_some, Bool.and_self], fun i => ?_⟩
        cases i with
        | zero => simp only [place, lget, beqT, cond_true, h1]; rfl
        | succ i => exact q2 i
theorem x_idxAT {e : E} {tm : T Value} {h : H} {o : Oper} {t el : TypeId} {x i : Operand} {k : IntKind} {z n cp j r p : Nat} {sp : Option Nat} [hs : SliceT e t el z] (ho : o.op = .indexAddr t x i) (hx : ev tm x = some (.slice (some ⟨r, p, sp⟩) n cp)) (hi : ev tm i = some (.int k (j : Nat))) (hj : j < n) :
    xop e tm h o = some (.val (.pointer (some ⟨r, p + j * z, none⟩)) h) := x_idxA ho hs.u hs.z hx hi hj
end Go.SX
namespace Go.SX
open Go.RowKit
/-! ### the table of temporaries as a list -/
def lk : List (Nat × Value) → Nat → Option Value
  | [], _ => none
  | (j, v) :: l, i => bif Nat.beq j i then some v else lk l i
theorem sk_get : ∀ (l : List (Nat × Value)) (i : Nat), (sk l).get i = lk l i
  | [], i => rfl
  | (j, v) :: l, i => by
    simp only [sk, T.get_set, lk, sk_get l i]
    by_cases h : i = j
    · subst h; rw [if_pos rfl, beqT, cond_true]
    · rw [if_neg h, beqF (fun q => h q.symm), cond_false]
def evL (l : List (Nat × Value)) : Operand → Option Value
  | .tmp t => lk l t
  | .const v => bif closedV v then some v else none
  | .global _ => none
  | .func f => some (.func (.func f) #[] #[])
theorem evL_eq (l : List (Nat × Value)) (x : Operand) : ev (sk l) x = evL l x := by
  cases x with
  | tmp t => exact sk_get l t
  | _ => rfl
theorem E.l {l : List (Nat × Value)} {x : Operand} {r : Option Value} (h : evL l x = r) : ev (sk l) x = r := by rw [evL_eq]; exact h
def evsL (l : List (Nat × Value)) : List Operand → Option (List Value)
  | [] => some []
  | x :: xs => match evL l x, evsL l xs with | some v, some vs => some (v :: vs) | _, _ => none
theorem E.s {l : List (Nat × Value)} : ∀ {xs : List Operand} {r : Option (List Value)}, evsL l xs = r → evs (sk l) xs = r
  | [], _, h => h
  | x :: xs, r, h => by
    simp only [evs, evL_eq, E.s (l := l) (xs := xs) rfl]
    exact h
def evPartsL (l : List (Nat × Value)) : List (Nat × Operand) → Option (List (Nat × Value))
  | [] => some []
  | (i, x) :: xs => match evL l x, evPartsL l xs with | some v, some vs => some ((i, v) :: vs) | _, _ => none
theorem E.p {l : List (Nat × Value)} : ∀ {xs : List (Nat × Operand)} {r : Option (List (Nat × Value))}, evPartsL l xs = r → evParts (sk l) xs = r
  | [], _, h => h
  | (i, x) :: xs, r, h => by
    simp only [evParts, evL_eq, E.p (l := l) (xs := xs) rfl]
    exact h
def wantedL (arr : List Oper) (l : List (Nat × Value)) : Option (Nat × Bool) → Option Bool
  | none => some true
  | some (j, want) => match arr[j]? with
    | some o => (match o.dst with
      | some d => (match lk l d with
        | some (.bool b) => some (bif b then want else !want)
        | some _ => some false
        | none => none)
      | none => some false)
    | none => some false
theorem E.w {arr : List Oper} {l : List (Nat × Value)} {g : Option (Nat × Bool)} {r : Option Bool} (h : wantedL arr l g = r) : wantedA arr (sk l) g = r := by
  rw [← h]
  cases g with
  | none => rfl
  | some p =>
    obtain ⟨j, want⟩ := p
    simp only [wantedA, wantedL, lget_at]
    cases arr[j]? with
    | none => rfl
    | some o =>
      simp only
      cases o.dst with
      | none => rfl
      | some d => simp only [sk_get]; rfl
def hasL (l : List (Nat × Value)) : List (Nat × Value) → Prop
  | [] => True
  | (i, v) :: s => lk l i = some v ∧ hasL l s
theorem hasL.has {l : List (Nat × Value)} : ∀ {s : List (Nat × Value)}, hasL l s → Has (sk l) s
  | [], _ => trivial
  | (i, v) :: _, h => ⟨by rw [sk_get]; exact h.1, h.2.has⟩
def argsL : List Value → Nat → List (Nat × Value) → List (Nat × Value)
  | [], _, l => l
  | v :: vs, i, l => argsL vs (i + 1) ((i, v) :: l)
theorem argsL_eq : ∀ (vs : List Value) (i : Nat) (l : List (Nat × Value)), T.ofList vs i (sk l) = sk (argsL vs i l)
  | [], _, _ => rfl
  | v :: vs, i, l => argsL_eq vs (i + 1) ((i, v) :: l)
def resL (l : List (Nat × Value)) : List ResultVar → Option (List Value)
  | [] => some []
  | .tmp t :: r => (match lk l t, resL l r with | some v, some vs => some (v :: vs) | _, _ => none)
  | .cell _ _ :: _ => none
theorem resL_eq {e : E} {h : H} {l : List (Nat × Value)} : ∀ {rs : List ResultVar} {vs : List Value}, resL l rs = some vs → resultsA e h (sk l) rs = some vs
  | [], _, h => h
  | .tmp t :: r, vs, hr => by
    simp only [resL] at hr
    simp only [resultsA, sk_get]
    cases hv : lk l t with
    | none => rw [hv] at hr; cases hr
    | some v =>
      cases hs : resL l r with
      | none => rw [hv, hs] at hr; cases hr
      | some us => rw [hv, hs] at hr; rw [resL_eq hs]; exact hr
  | .cell _ _ :: _, _, h => by simp [resL] at h
variable {P : Program} {e : E} {c : Ctx P e} {arr : List Oper} {l : List (Nat × Value)} {fn nt : Nat} {k k' : List AIt} {df : List Deferred} {kd : CallKind} {rd : Option Nat} {xs : List AFr} {h h' : H} {pl : List PI} {i : Nat} {nd : Bool} {o : Oper}
/-! ### the rules over lists -/
theorem V.body {f : FuncId} {F : Func} {C : Code} {args : List Value} {Q : Value → H → Prop} (hF : e.fn.get f = some F) (hb : F.body = some C)
    (h1 : ∀ (c : Ctx P e) (x : AFr) (xs : List AFr), (∀ v h', Q v h' → ∃ x', finish x v = some x' ∧ W c ⟨x', xs, h'⟩) → W c (S f F.ntmps (sk (argsL args 0 [])) [.code C] [] .normal none (x :: xs) h)) : Gives P e f args h Q :=
  Gives.body hF hb fun c x xs hk => by
    have : T.ofList args 0 .nil = sk (argsL args 0 []) := argsL_eq args 0 []
    rw [this]; exact h1 c x xs hk
theorem V.on {rest : List Oper} (hw : wantedL arr l o.guard = some true) (h1 : WG c fn nt (sk l) arr o rest k df kd rd xs h) : W c (S fn nt (sk l) (.ops arr (o :: rest) :: k) df kd rd xs h) := W.on (E.w hw) h1
theorem V.val {rest : List Oper} {v : Value} {d : Tmp} (hx : xop e (sk l) h o = some (.val v h')) (hd : o.dst = some d) (h1 : W c (S fn nt (sk ((d, v) :: l)) (.ops arr rest :: k) df kd rd xs h')) : WG c fn nt (sk l) arr o rest k df kd rd xs h := WG.val hx hd h1
theorem V.eff {rest : List Oper} (hx : xop e (sk l) h o = some (.skip h')) (hd : o.dst = none) (h1 : W c (S fn nt (sk l) (.ops arr rest :: k) df kd rd xs h')) : WG c fn nt (sk l) arr o rest k df kd rd xs h := WG.eff hx (by simp only [putD, hd]; exact h1)
theorem V.call {rest : List Oper} {f : FuncId} {args : List Value} {Q : Value → H → Prop} {d : Tmp} (hx : xop e (sk l) h o = some (.enter f args)) (hd : o.dst = some d) (hF : Gives P e f args h Q)
    (h1 : ∀ v h', Q v h' → W c (S fn nt (sk ((d, v) :: l)) (.ops arr rest :: k) df kd rd xs h')) : WG c fn nt (sk l) arr o rest k df kd rd xs h := WG.call hx hd hF h1
theorem V.not {rest : List Oper} {d : Tmp} (hw : wantedL arr l o.guard = some false) (hd : o.dst = some d) (h1 : W c (S fn nt (sk ((d, undefV) :: l)) (.ops arr rest :: k) df kd rd xs h)) : W c (S fn nt (sk l) (.ops arr (o :: rest) :: k) df kd rd xs h) := W.not (E.w hw) (by simp only [putD, hd]; exact h1)
theorem V.notN {rest : List Oper} (hw : wantedL arr l o.guard = some false) (hd : o.dst = none) (h1 : W c (S fn nt (sk l) (.ops arr rest :: k) df kd rd xs h)) : W c (S fn nt (sk l) (.ops arr (o :: rest) :: k) df kd rd xs h) := W.not (E.w hw) (by simp only [putD, hd]; exact h1)
theorem V.split {rest : List Oper} {g : Oper} {j : Nat} {want B : Bool} {d : Tmp} (hg : o.guard = some (j, want)) (hj : arr[j]? = some g) (hd : g.dst = some d) (hv : lk l d = some (.bool B))
    (h1 : B = true → W c (S fn nt (sk ((d, .bool true) :: l)) (.ops arr (o :: rest) :: k) df kd rd xs h)) (h0 : B = false → W c (S fn nt (sk ((d, .bool false) :: l)) (.ops arr (o :: rest) :: k) df kd rd xs h)) :
    W c (S fn nt (sk l) (.ops arr (o :: rest) :: k) df kd rd xs h) := W.split hg hj hd (by rw [sk_get]; exact hv) h1 h0
theorem V.cond {x : Operand} {a b : Code} {t : Bool} (hv : evL l x = some (.bool t)) (h1 : t = true → W c (S fn nt (sk l) (.code a :: k) df kd rd xs h)) (h2 : t = false → W c (S fn nt (sk l) (.code b :: k) df kd rd xs h)) :
    W c (S fn nt (sk l) (.code (.cond x a b) :: k) df kd rd xs h) := W.cond (E.l hv) h1 h2
theorem V.condT {x : Operand} {a b : Code} (hv : evL l x = some (.bool true)) (h1 : W c (S fn nt (sk l) (.code a :: k) df kd rd xs h)) : W c (S fn nt (sk l) (.code (.cond x a b) :: k) df kd rd xs h) := W.condT (E.l hv) h1
theorem V.condF {x : Operand} {a b : Code} (hv : evL l x = some (.bool false)) (h1 : W c (S fn nt (sk l) (.code b :: k) df kd rd xs h)) : W c (S fn nt (sk l) (.code (.cond x a b) :: k) df kd rd xs h) := W.condF (E.l hv) h1
theorem V.ret {F : Func} {vs : List Value} {x : AFr} {Q : Value → H → Prop} (hk : ∀ v h', Q v h' → ∃ x', finish x v = some x' ∧ W c ⟨x', xs, h'⟩) (hF : e.fn.get fn = some F) (hr : resL l F.results.toList = some vs) (hq : Q (tup vs) h) :
    W c (S fn nt (sk l) (.code .ret :: k) [] .normal none (x :: xs) h) := W.ret hF (resL_eq hr) hk hq
theorem V.rounds {α : Type} {b : Code} (μ : α → Nat) (slots : α → List (Nat × Value)) (I : α → H → Prop) (a0 : α) (hs : hasL l (slots a0)) (h0 : I a0 h)
    (h1 : ∀ a h, I a h → (∀ a' l' h', μ a' < μ a → I a' h' → hasL l' (slots a') → W c (S fn nt (sk l') (.inLoop b :: k) df kd rd xs h')) → W c (S fn nt (sk (slots a)) (.code b :: .inLoop b :: k) df kd rd xs h)) :
    W c (S fn nt (sk l) (.code (.loop b) :: k) df kd rd xs h) :=
  W.rounds μ slots I a0 hs.has h0 fun a h hi ih => h1 a h hi fun a' l' h' hlt hi' hs' => ih a' (sk l') h' hlt hi' hs'.has
/-- what a stretch of code leaves -/
theorem V.keep (s : List (Nat × Value)) {cd : Code} (hs : hasL l s) (h1 : W c (S fn nt (sk s) (.code cd :: k) df kd rd xs h)) : W c (S fn nt (sk l) (.code cd :: k) df kd rd xs h) := W.weak (TSub.sk hs.has) h1
theorem VP.on {p : PI} (ho : p.at arr = some o) (hw : wantedL arr l o.guard = some true) (h1 : WPG c fn nt arr k df kd rd xs p o pl (sk l) h) : WP c fn nt arr k df kd rd xs (p :: pl) (sk l) h := WP.on ho (E.w hw) h1
theorem VP.val {v : Value} {d : Tmp} (hx : xop e (sk l) h o = some (.val v h)) (ho : arr[i]? = some o) (hd : o.dst = some d) (hf : freshOp o.op = false) (hq : nf v = true) (hs : sliceOk v h = true)
    (h1 : WP c fn nt arr k df kd rd xs pl (sk ((d, v) :: l)) h) : WPG c fn nt arr k df kd rd xs (.e i) o pl (sk l) h := WPG.val hx ho hd hf hq hs h1
theorem VP.fresh {ob : AObj} {mk : Mk} {d : Tmp} (hx : xfresh e (sk l) o.op = some (ob, mk)) (ho : arr[i]? = some o) (hf : freshOp o.op = true) (hd : o.dst = some d) (hq : oeq ob ob = true)
    (h1 : WP c fn nt arr k df kd rd xs pl (sk ((d, mk.at h.n) :: l)) (h.new ob)) : WPG c fn nt arr k df kd rd xs (.e i) o pl (sk l) h := WPG.fresh hx ho hf hd hq h1
theorem VP.valX {v : Value} {d : Tmp} (hx : xop e (sk l) h o = some (.val v h')) (ho : arr[i]? = some o) (hd : o.dst = some d) (hn : h.n ≤ h'.n) (hl : nd = true → HLe h h')
    (h1 : WP c fn nt arr k df kd rd xs pl (sk ((d, v) :: l)) h') : WPG c fn nt arr k df kd rd xs (.x i nd) o pl (sk l) h := WPG.valX hx ho hd hn hl h1
theorem VP.effX (hx : xop e (sk l) h o = some (.skip h')) (ho : arr[i]? = some o) (hd : o.dst = none) (hn : h.n ≤ h'.n) (hl : nd = true → HLe h h')
    (h1 : WP c fn nt arr k df kd rd xs pl (sk l) h') : WPG c fn nt arr k df kd rd xs (.x i nd) o pl (sk l) h := WPG.effX hx ho hn hl (by simp only [putD, hd]; exact h1)
theorem VP.callX {f : FuncId} {args : List Value} {Q : Value → H → Prop} {d : Tmp} (hx : xop e (sk l) h o = some (.enter f args)) (ho : arr[i]? = some o) (hd : o.dst = some d) (hG : Gives P e f args h Q)
    (hl : ∀ v h2, Q v h2 → h.n ≤ h2.n ∧ (nd = true → HLe h h2)) (h1 : ∀ v h2, Q v h2 → WP c fn nt arr k df kd rd xs pl (sk ((d, v) :: l)) h2) : WPG c fn nt arr k df kd rd xs (.x i nd) o pl (sk l) h := WPG.callX hx ho hd hG hl h1
theorem VP.not {p : PI} {d : Tmp} (ho : p.at arr = some o) (hw : wantedL arr l o.guard = some false) (hd : o.dst = some d) (h1 : WP c fn nt arr k df kd rd xs pl (sk ((d, undefV) :: l)) h) : WP c fn nt arr k df kd rd xs (p :: pl) (sk l) h := by
  cases p with
  | e i => exact WP.not ho (E.w hw) (by simp only [putD, hd]; exact h1)
  | x i nd => exact WP.notX ho (E.w hw) (by simp only [putD, hd]; exact h1)
theorem VP.notN {p : PI} (ho : p.at arr = some o) (hw : wantedL arr l o.guard = some false) (hd : o.dst = none) (h1 : WP c fn nt arr k df kd rd xs pl (sk l) h) : WP c fn nt arr k df kd rd xs (p :: pl) (sk l) h := by
  cases p with
  | e i => exact WP.not ho (E.w hw) (by simp only [putD, hd]; exact h1)
  | x i nd => exact WP.notX ho (E.w hw) (by simp only [putD, hd]; exact h1)
theorem VP.split (hpk : Plain k) {p : PI} {g : Oper} {j : Nat} {want B : Bool} {d : Tmp} (ho : p.at arr = some o) (hg : o.guard = some (j, want)) (hj : arr[j]? = some g) (hd : g.dst = some d) (hv : lk l d = some (.bool B))
    (h1 : B = true → WP c fn nt arr k df kd rd xs (p :: pl) (sk ((d, .bool true) :: l)) h) (h0 : B = false → WP c fn nt arr k df kd rd xs (p :: pl) (sk ((d, .bool false) :: l)) h) : WP c fn nt arr k df kd rd xs (p :: pl) (sk l) h := by
  cases p with
  | e i => exact WP.splitE hpk ho hg hj hd (by rw [sk_get]; exact hv) h1 h0
  | x i nd => exact WP.splitX hpk ho hg hj hd (by rw [sk_get]; exact hv) h1 h0
end Go.SX
namespace Go.SX
open Go.RowKit
variable {e : E} {tm : T Value} {h h' : H} {o : Oper}
/-! ### more operations -/
theorem Own.loadAll {r n : Nat} {cs : List Value} (ho : Own h r cs) (hn : cs.length = n) : h.loadAt r 0 n = some cs := by
  have := ho.loadAt (off := 0) (n := n) (by omega)
  rw [this, List.drop_zero, List.take_of_length_le (by omega)]
theorem x_callV {f : FuncId} {x : Operand} {args : Array Operand} {ts : Array TypeId} {fi cap vs : List Value} (ho : o.op = .call { callee := .value x, args, argTypes := ts }) (hx : ev tm x = some (.func (.func f) ⟨fi⟩ ⟨cap⟩)) (hf : fnOk e f = true) (ha : evs tm args.toList = some vs) :
    xop e tm h o = some (.enter f (fi ++ vs ++ cap)) := by
  unfold xop; rw [ho]; simp only [hx, ha, invokeA, hf, cond_true, lapp_eq]
theorem x_makeFunc {f : Fn} {fi cap : Array Operand} {a b : List Value} (ho : o.op = .makeFunc f fi cap) (hp : plainFn f = true) (ha : evs tm fi.toList = some a) (hb : evs tm cap.toList = some b) : xop e tm h o = some (.val (.func f ⟨a⟩ ⟨b⟩) h) := by
  unfold xop; rw [ho]; simp only [hp, ha, hb, cond_true]
theorem x_nilCheck {x : Operand} {a : Addr} (ho : o.op = .nilCheck x) (hx : ev tm x = some (.pointer (some a))) : xop e tm h o = some (.val (.pointer (some a)) h) := by
  unfold xop; rw [ho]; simp only [hx, bind1]
def fillP (pl : List (Nat × Nat)) (cells : List Value) : List (Nat × Value) → Option (List Value)
  | [] => some cells
  | (i, v) :: rest => match pl[i]? with
    | none => none
    | some (off, size) => bif Nat.beq (llen (vcells v)) size && Nat.ble (off + size) (llen cells) then
        fillP pl (lapp (ltake off cells) (lapp (vcells v) (ldrop (off + size) cells))) rest else none
theorem fillP_eq {pl : List (Nat × Nat)} {place : Nat → Option (Nat × Nat)} (hp : ∀ i, place i = pl[i]?) : ∀ (vs : List (Nat × Value)) (cells : List Value), fillL place cells vs = fillP pl cells vs
  | [], _ => rfl
  | (i, v) :: rest, cells => by
    simp only [fillL, fillP, hp]
    cases pl[i]? with
    | none => rfl
    | some p => simp only [fillP_eq hp rest]
theorem x_build {t : TypeId} {ps : Array (Nat × Operand)} {z : Value} {pl : List (Nat × Nat)} {vs : List (Nat × Value)} {cs : List Value} [hs : StructT e t z pl] (ho : o.op = .build t ps) (hv : evParts tm ps.toList = some vs) (hf : fillP pl (vcells z) vs = some cs) :
    xop e tm h o = some (.val (.agg ⟨cs⟩) h) := by
  obtain ⟨fs, h1, h2, h3, h4, h5⟩ := hs.h
  unfold xop; rw [ho]; simp only [h1, h2, hv, h3, h4, Bool.and_self, cond_true, fillP_eq h5, hf]
def fillN (n : Nat) (cells : List Value) : List (Nat × Value) → Option (List Value) := fillL (fun i => some (i * n, n)) cells
theorem x_buildA {t : TypeId} {ps : Array (Nat × Operand)} {z : Value} {n : Nat} {vs : List (Nat × Value)} {cs : List Value} [hs : ArrT e t z n] (ho : o.op = .build t ps) (hv : evParts tm ps.toList = some vs) (hf : fillN n (vcells z) vs = some cs) :
    xop e tm h o = some (.val (.agg ⟨cs⟩) h) := by
  obtain ⟨m, el, h1, h2, h3, h4⟩ := hs.h
  unfold fillN at hf
  unfold xop; rw [ho]; simp only [h1, h2, hv, h3, h4, cond_true, hf]
/-- a part of an array that is held as a value -/
theorem x_idxG {t el : TypeId} {x i : Operand} {k : IntKind} {cs : List Value} {m j : Nat} {v : Value} (ho : o.op = .index t x i) (hu : e.under t = some (.array m el)) (hz : sizeOf e el = some 1) (ha : isAgg e el = some false) (hx : ev tm x = some (.agg ⟨cs⟩)) (hi : ev tm i = some (.int k (j : Nat))) (hj : j < m) (hv : cs[j]? = some v) :
    xop e tm h o = some (.val v h) := by
  have hk : nat? (.int k (j : Nat)) = some j := rfl
  have hb : Nat.blt j m = true := by unfold Nat.blt; exact Nat.ble_eq_true_of_le hj
  unfold xop; rw [ho]; simp only [hx, hi, bind2, hu, hz, hk, hb, cond_true, partOf, ha, lget_eq, Nat.mul_one, hv, SX.ret]
class PtrT (e : E) (t : TypeId) : Prop where
  h : ∃ u, e.under t = some (.pointer u)
theorem x_eqp {t u : TypeId} {x y : Operand} {b : Option Addr} [hp : PtrT e t] (ho : o.op = .binOp .eql t x y u) (hx : ev tm x = some (.pointer b)) (hy : ev tm y = some (.pointer none)) : xop e tm h o = some (.val (.bool b.isNone) h) := by
  obtain ⟨w, hu⟩ := hp.h
  unfold xop; rw [ho]; simp only [hx, hy, bind2, xbin, xcmp]
  cases b <;> simp [aeq, hu, ret]
theorem x_eqn {t u el : TypeId} {z : Nat} {x y : Operand} {b : Option Addr} {n cp n' cp' : Nat} [hs : SliceT e t el z] (ho : o.op = .binOp .eql t x y u) (hx : ev tm x = some (.slice b n cp)) (hy : ev tm y = some (.slice none n' cp')) : xop e tm h o = some (.val (.bool b.isNone) h) := by
  have hu := hs.u
  unfold xop; rw [ho]; simp only [hx, hy, bind2, xbin, xcmp]
  cases b <;> simp [aeq, hu, ret]
/-- a beginning -/
theorem x_sliceTo {t el : TypeId} {z : Nat} {x y : Operand} {k : IntKind} {a : Option Addr} {n cp j : Nat} [hs : SliceT e t el z] (ho : o.op = .slice t x none (some y) none) (hx : ev tm x = some (.slice a n cp)) (hy : ev tm y = some (.int k (j : Nat)))
    (ha : ∀ p, a = some p → p.spot = some z ∧ j ≤ capLo cp) (hn : a = none → j = 0 ∧ n = 0) : xop e tm h o = some (.val (.slice a j cp) h) := by
  have hk : nat? (.int k (j : Nat)) = some j := rfl
  unfold xop; rw [ho]; simp only [hx, hy, bind1, oev, xslice, hs.u, hs.z, bound, hk]
  cases a with
  | none => obtain ⟨rfl, rfl⟩ := hn rfl; simp only [ret]; rw [hs.z]; rfl
  | some p =>
    obtain ⟨q1, q2⟩ := ha p rfl
    obtain ⟨b, of, sp⟩ := p
    simp only at q1; subst q1
    simp only [ret]
    rw [hs.z]
    simp only [Nat.ble_eq_true_of_le q2, beqT, Bool.and_self, cond_true, Nat.zero_mul, Nat.add_zero, Nat.sub_zero, Nat.mul_zero, ret]
/-- a slice of parts -/
theorem x_bslice {t el : TypeId} {z0 : Value} {z m : Nat} {ps : Array (Nat × Operand)} {vs : List (Nat × Value)} {cs : List Value} [hs : SliceT e t el z] [hz : ZeroT e el z0] (ho : o.op = .buildSlice t m ps) (hv : evParts tm ps.toList = some vs) (hl : Nat.beq (llen (vcells z0)) z = true)
    (hb : Nat.ble (m * z) 16777216 = true) (hf : fillN z (zerosL (vcells z0) m) vs = some cs) : xop e tm h o = some (.val (.slice (some ⟨h.n, 0, some z⟩) m (capE m)) (h.new (.cells cs))) := by
  unfold fillN at hf
  unfold xop; rw [ho]; simp only [xfresh, hs.u, hs.z, hz.h, hz.c, hv, hl, hb, Bool.and_self, cond_true, hf, Mk.at]
variable {P : Program} {c : Ctx P e} {arr : List Oper} {l : List (Nat × Value)} {fn nt : Nat} {k k' : List AIt} {df : List Deferred} {kd : CallKind} {rd : Option Nat} {xs : List AFr} {pl : List PI} {i : Nat} {nd : Bool}
theorem HLe.new' (hf : Fresh h) (cs : List Value) : HLe h (h.new (.cells cs)) ∧ Own (h.new (.cells cs)) h.n cs := ⟨HLe.new hf _, Own.new hf cs⟩
/-- a new block -/
theorem V.new {rest : List Oper} {v : Nat → Value} {d : Tmp} {cs : List Value} (hx : xop e (sk l) h o = some (.val (v h.n) (h.new (.cells cs)))) (hd : o.dst = some d)
    (h1 : ∀ r h1, HLe h h1 → Own h1 r cs → h.n ≤ r → r < h1.n → Fresh h1 → W c (S fn nt (sk ((d, v r) :: l)) (.ops arr rest :: k) df kd rd xs h1)) : WG c fn nt (sk l) arr o rest k df kd rd xs h := by
  intro hw
  refine W.fresh fun hf => ?_
  exact W.on hw (V.val hx hd (h1 _ _ (HLe.new hf _) (Own.new hf cs) (Nat.le_refl _) (Nat.lt_succ_self _) (Fresh.new hf _)))
theorem V.box {rest : List Oper} {d : Tmp} {el : TypeId} {x : Operand} {v : Value} (ho : o.op = .box el x) (hx : evL l x = some v) (hd : o.dst = some d)
    (h1 : ∀ r h1, HLe h h1 → Own h1 r (vcells v) → h.n ≤ r → r < h1.n → Fresh h1 → W c (S fn nt (sk ((d, .pointer (some ⟨r, 0, none⟩)) :: l)) (.ops arr rest :: k) df kd rd xs h1)) : WG c fn nt (sk l) arr o rest k df kd rd xs h :=
  V.new (v := fun r => .pointer (some ⟨r, 0, none⟩)) (x_box ho (E.l hx)) hd h1
theorem V.alloc {rest : List Oper} {d : Tmp} {el : TypeId} {z : Value} [hz : ZeroT e el z] (ho : o.op = .alloc el) (hd : o.dst = some d)
    (h1 : ∀ r h1, HLe h h1 → Own h1 r (vcells z) → h.n ≤ r → r < h1.n → Fresh h1 → W c (S fn nt (sk ((d, .pointer (some ⟨r, 0, none⟩)) :: l)) (.ops arr rest :: k) df kd rd xs h1)) : WG c fn nt (sk l) arr o rest k df kd rd xs h :=
  V.new (v := fun r => .pointer (some ⟨r, 0, none⟩)) (x_alloc ho hz.h hz.c) hd h1
/-- a store into one's own block -/
theorem V.store {rest : List Oper} {t : TypeId} {a x : Operand} {r p n : Nat} {v : Value} {sp : Option Nat} {cs : List Value} (ho : o.op = .store t a x) (ha : evL l a = some (.pointer (some ⟨r, p, sp⟩))) (hx : evL l x = some v) (hz : sizeOf e t = some n) (hv : (vcells v).length = n)
    (hw : Own h r cs) (hn : p + n ≤ cs.length) (hone : allOne (vcells v) = true) (hd : o.dst = none)
    (h1 : Own (h.upd r (cs.take p ++ (vcells v ++ cs.drop (p + n)))) r (cs.take p ++ (vcells v ++ cs.drop (p + n))) → W c (S fn nt (sk l) (.ops arr rest :: k) df kd rd xs (h.upd r (cs.take p ++ (vcells v ++ cs.drop (p + n)))))) : WG c fn nt (sk l) arr o rest k df kd rd xs h :=
  V.eff (x_store ho (E.l ha) (E.l hx) hz hv hw hn hone) hd (h1 hw.upd)
/-- a result in memory -/
theorem V.retCell {F : Func} {x : AFr} {Q : Value → H → Prop} {t : Tmp} {ty : TypeId} {r p : Nat} {sp : Option Nat} {v : Value} (hk : ∀ v h', Q v h' → ∃ x', finish x v = some x' ∧ W c ⟨x', xs, h'⟩) (hF : e.fn.get fn = some F) (hr : F.results.toList = [.cell t ty])
    (ht : lk l t = some (.pointer (some ⟨r, p, sp⟩))) (hl : loadVar e h ty r p = some v) (hq : Q v h) : W c (S fn nt (sk l) (.code .ret :: k) [] .normal none (x :: xs) h) :=
  W.ret hF (vs := [v]) (by rw [hr]; simp only [resultsA, sk_get, ht, hl]) hk hq
end Go.SX
namespace Go.SX
open Go.RowKit
variable {e : E} {tm : T Value} {h h' : H} {o : Oper}
/-! ### what is forgotten -/
theorem killFrom_get {at_ : Nat} : ∀ {ms : List Nat} {b : T ABlk} (s : Nat), (killFrom b at_ ms).get s = b.get s ∨ (s ∈ ms ∧ ∃ k, b.get s = some k)
  | [], b, s => .inl rfl
  | m :: ms, b, s => by
    simp only [killFrom]
    have key : ∀ b' : T ABlk, (b'.get s = b.get s ∨ (s = m ∧ ∃ k, b.get s = some k)) → (killFrom b' at_ ms).get s = b.get s ∨ (s ∈ m :: ms ∧ ∃ k, b.get s = some k) := by
      intro b' hb
      rcases killFrom_get (ms := ms) (b := b') (at_ := at_) s with q | ⟨q1, k, q2⟩
      · rw [q]
        rcases hb with q3 | ⟨q3, q4⟩
        · exact .inl q3
        · exact .inr ⟨by rw [q3]; exact List.mem_cons_self .., q4⟩
      · refine .inr ⟨List.mem_cons_of_mem _ q1, ?_⟩
        rcases hb with q3 | ⟨q3, q4⟩
        · exact ⟨k, by rw [← q3]; exact q2⟩
        · exact q4
    refine key _ ?_
    cases hm : b.get m with
    | none => exact .inl rfl
    | some k =>
      simp only
      cases beyond k at_ with
      | false => exact .inl rfl
      | true =>
        simp only [cond_true, T.get_set]
        by_cases q : s = m
        · exact .inr ⟨q, k, by rw [q]; exact hm⟩
        · exact .inl (by rw [if_neg q])
theorem killAll_get {keep : Nat} : ∀ {ms : List Nat} {b : T ABlk} (s : Nat), (killAll b keep ms).get s = b.get s ∨ (s ∈ ms ∧ ∃ k, b.get s = some k)
  | [], b, s => .inl rfl
  | m :: ms, b, s => by
    simp only [killAll]
    have key : ∀ b' : T ABlk, (b'.get s = b.get s ∨ (s = m ∧ ∃ k, b.get s = some k)) → (killAll b' keep ms).get s = b.get s ∨ (s ∈ m :: ms ∧ ∃ k, b.get s = some k) := by
      intro b' hb
      rcases killAll_get (ms := ms) (b := b') (keep := keep) s with q | ⟨q1, k, q2⟩
      · rw [q]
        rcases hb with q3 | ⟨q3, q4⟩
        · exact .inl q3
        · exact .inr ⟨by rw [q3]; exact List.mem_cons_self .., q4⟩
      · refine .inr ⟨List.mem_cons_of_mem _ q1, ?_⟩
        rcases hb with q3 | ⟨q3, q4⟩
        · exact ⟨k, by rw [← q3]; exact q2⟩
        · exact q4
    refine key _ ?_
    cases Nat.beq m keep with
    | true => exact .inl rfl
    | false =>
      simp only [cond_false]
      cases hm : b.get m with
      | none => exact .inl rfl
      | some k =>
        simp only
        cases hk : k.obj with
        | cells cs =>
          simp only [T.get_set]
          by_cases q : s = m
          · exact .inr ⟨q, k, by rw [q]; exact hm⟩
          · exact .inl (by rw [if_neg q])
        | _ => exact .inl rfl
/-- all members of a group are of it -/
def Tied (h : H) (g : Nat) : Prop := ∀ ms, h.g.get g = some ms → ∀ m, m ∈ ms → ∃ k, h.b.get m = some k ∧ k.grp = g
theorem Tied.eq {g m : Nat} {ms : List Nat} {k : ABlk} (ht : Tied h g) (h1 : h.g.get g = some ms) (h2 : m ∈ ms) (h3 : h.b.get m = some k) : k.grp = g := by
  obtain ⟨k', q1, q2⟩ := ht ms h1 m h2
  rw [h3] at q1; cases q1; exact q2
/-- nothing but a group changes -/
structure Local (h h' : H) (g : Nat) : Prop where
  b : ∀ s k, h.b.get s = some k → k.grp ≠ g → h'.b.get s = some k
  g : ∀ i, i ≠ g → h'.g.get i = h.g.get i
  n : h.n ≤ h'.n
theorem Local.le {g : Nat} {h0 : H} (hl : Local h h' g) (h1 : HLe h0 h) (hf : Fresh h0) (hg : h0.n ≤ g) : HLe h0 h' :=
  ⟨fun s k q => hl.b s k (h1.b s k q) (Nat.ne_of_lt (Nat.lt_of_lt_of_le (hf.lt s k q).2 hg)), fun i q => (hl.g i (Nat.ne_of_lt (Nat.lt_of_lt_of_le q hg))).trans (h1.g i q), Nat.le_trans h1.n hl.n⟩
theorem Local.own {g r : Nat} {cs : List Value} (hl : Local h h' g) (ho : Own h r cs) (hr : g ≠ r) : Own h' r cs := ⟨hl.b r _ ho.b (fun q => hr q.symm), by rw [hl.g r (fun q => hr q.symm)]; exact ho.g⟩
/-- a slice in a group of one's own -/
def Mine (z n0 : Nat) (h : H) (g : Nat) (v : Value) : Prop := ∃ r off n cp k cs, v = .slice (some ⟨r, off, some z⟩) n cp ∧ h.b.get r = some k ∧ k.obj = .cells cs ∧ k.grp = g ∧ n0 ≤ g ∧ Tied h g ∧ off + capLo cp * z ≤ cs.length
def OwnS (z n0 : Nat) (h : H) (v : Value) : Prop := (∃ cp, v = .slice none 0 cp) ∨ ∃ g, Mine z n0 h g v
def Apart (h : H) (v : Value) (r : Nat) : Prop := ∀ b off sp n cp k, v = .slice (some ⟨b, off, sp⟩) n cp → h.b.get b = some k → k.grp ≠ r
theorem OwnS.own {z n0 r n cp : Nat} {cs : List Value} (ho : Own h r cs) (hn : n0 ≤ r) (hc : capLo cp * z ≤ cs.length) : OwnS z n0 h (.slice (some ⟨r, 0, some z⟩) n cp) :=
  .inr ⟨r, r, 0, n, cp, _, cs, rfl, ho.b, rfl, rfl, hn, (show Tied h r from fun ms hm => by rw [ho.g] at hm; cases hm), by omega⟩
theorem OwnS.nil {z n0 cp : Nat} : OwnS z n0 h (.slice none 0 cp) := .inl ⟨cp, rfl⟩
theorem OwnS.grow {z n0 : Nat} {v : Value} (ho : OwnS z n0 h v) (hf : Fresh h) (hl : HLe h h') : OwnS z n0 h' v := by
  rcases ho with q | ⟨g, r, off, n, cp, k, cs, q1, q2, q3, q4, q5, q6, q7⟩
  · exact .inl q
  · refine .inr ⟨g, r, off, n, cp, k, cs, q1, hl.b r k q2, q3, q4, q5, ?_, q7⟩
    intro ms hms m hm
    have hgl : g < h.n := by rw [← q4]; exact (hf.lt r k q2).2
    rw [hl.g g hgl] at hms
    obtain ⟨k1, w1, w2⟩ := q6 ms hms m hm
    exact ⟨k1, hl.b m k1 w1, w2⟩
theorem Apart.grow {v : Value} {r z : Nat} {α : Type} {enc : α → List Value} {L : List α} (ha : Apart h v r) (hs : OwnS z 0 h v) (hl : HLe h h') : Apart h' v r := by
  intro b off sp n cp k q hk
  rcases hs with ⟨cp', w⟩ | ⟨g, r1, off1, n1, cp1, k1, cs, q1, q2, q3, q4, q5, q6, q7⟩
  · rw [q] at w; cases w
  · rw [q] at q1; cases q1
    have := hl.b _ _ q2
    rw [this] at hk; cases hk
    exact ha _ off _ n cp _ q q2
theorem Apart.nil {n cp r : Nat} : Apart h (.slice none n cp) r := fun _ _ _ _ _ _ q => by cases q
theorem Apart.own {b off n cp r : Nat} {sp : Option Nat} {cs : List Value} (ho : Own h b cs) (hn : b ≠ r) : Apart h (.slice (some ⟨b, off, sp⟩) n cp) r := fun _ _ _ _ _ k q hk => by
  cases q; rw [ho.b] at hk; cases hk; exact hn
theorem capLo_U (n : Nat) : capLo (capU n) = n := by simp only [capLo, capU]; omega
theorem capLo_E (n : Nat) : capLo (capE n) = n := by simp only [capLo, capE]; omega
theorem Local.new (hf : Fresh h) (ob : AObj) : Local h (h.new ob) h.n :=
  ⟨fun s k q _ => by simp only [H.new, T.get_set]; rw [if_neg (Nat.ne_of_lt (hf.lt s k q).1)]; exact q, fun _ _ => rfl, Nat.le_succ _⟩
theorem x_append {α : Type} {enc : α → List Value} {st xt el el2 : TypeId} {z z2 nb n0 : Nat} {x y : Operand} {a b : Value} {l m : List α} [hs : SliceT e st el z] [hs2 : SliceT e xt el2 z2] [hsm : SmallT e el nb]
    (ho : o.op = .call { callee := .builtin .append, args := ⟨[x, y]⟩, argTypes := ⟨[st, xt]⟩ }) (hx : ev tm x = some a) (hy : ev tm y = some b) (sa : Sl h enc z a l) (sb : Sl h enc z b m) (hf : Fresh h) (hn0 : n0 ≤ h.n) (own : OwnS z n0 h a)
    (hb : (2 * (l.length + m.length) + 192) * nb ≤ 281474976710656) (hb2 : l.length + m.length ≤ 4611686018427387904) (hone : ∀ x, allOne (enc x) = true) :
    ∃ v h', xop e tm h o = some (.val v h') ∧ Sl h' enc z v (l ++ m) ∧ h.n ≤ h'.n ∧ (∀ h0, HLe h0 h → Fresh h0 → h0.n ≤ n0 → HLe h0 h') ∧ OwnS z n0 h' v ∧ (∀ r cs, r < h.n → Own h r cs → Apart h a r → Own h' r cs ∧ Apart h' v r) := by
  have hsmall : small e el (l.length + m.length) = true := small_ok hb2 hb
  have hxop : ∀ v h', xappend e h st a b = some (v, h') → xop e tm h o = some (.val v h') := by
    intro v h' hq
    unfold xop; rw [ho]
    simp only [evs, hx, hy, xbuiltin, hs2.u, hq]
  have hall : ∀ l : List α, allOne (l.flatMap enc) = true := by
    have happ : ∀ p q : List Value, allOne p = true → allOne q = true → allOne (p ++ q) = true := by
      intro p q hp hq
      induction p with
      | nil => exact hq
      | cons v p ih =>
        simp only [allOne, Bool.and_eq_true, List.cons_append] at hp ⊢
        exact ⟨hp.1, ih hp.2⟩
    intro l
    induction l with
    | nil => rfl
    | cons v l ih => rw [List.flatMap_cons]; exact happ _ _ (hone v) ih
  -- the second
  have hfirst : lenA b = some m.length ∧ firstCells h z m.length b = some (m.flatMap enc) := by
    rcases sb with ⟨cp, rfl, rfl⟩ | ⟨r, off, cp, rfl, q2, q3, q4, q5⟩
    · exact ⟨rfl, rfl⟩
    · exact ⟨rfl, q2⟩
  have hz : ∀ w, w ∈ m → (enc w).length = z := by
    rcases sb with ⟨cp, rfl, rfl⟩ | ⟨r, off, cp, rfl, q2, q3, q4, q5⟩
    · intro w hw; cases hw
    · exact q3
  have hlm := flat_len hz
  -- what stands in a new block
  have fresh : ∀ (h' : H) (L : List α), (∀ w, w ∈ L → (enc w).length = z) → h'.b.get h.n = some ⟨.cells (L.flatMap enc), h.n, 0⟩ ∨ (∃ g co, h'.b.get h.n = some ⟨.cells (L.flatMap enc), g, co⟩) → h.n < h'.n → Sl h' enc z (.slice (some ⟨h.n, 0, some z⟩) L.length (capU L.length)) L := by
    intro h' L hL hg hlt
    have hfl := flat_len hL
    refine .inr ⟨h.n, 0, capU L.length, rfl, ?_, hL, hlt, by rw [capLo_U]; exact Nat.le_refl _⟩
    have hob : h'.obj h.n = some (.cells (L.flatMap enc)) := by
      unfold H.obj
      rcases hg with q | ⟨g, co, q⟩ <;> rw [q]
    unfold H.loadAt
    rw [hob]
    simp only [llen_eq, ltake_eq, ldrop_eq, hfl, Nat.zero_add, Nat.ble_eq_true_of_le (Nat.le_refl _), cond_true, List.drop_zero]
    rw [List.take_of_length_le (by omega)]
  rcases sa with ⟨cp, rfl, rfl⟩ | ⟨r, off, cp, rfl, q2, q3, q4, q5⟩
  · simp only [List.length_nil, Nat.zero_add] at hsmall
    by_cases hm : m.length = 0
    · have : m = [] := List.eq_nil_of_length_eq_zero hm
      subst this
      refine ⟨_, _, hxop (.slice none 0 cp) h ?_, .inl ⟨cp, rfl, rfl⟩, Nat.le_refl _, fun h0 q _ _ => q, .inl ⟨cp, rfl⟩, fun r cs _ q _ => ⟨q, Apart.nil⟩⟩
      unfold xappend
      simp only [List.length_nil] at hsmall hfirst
      simp only [hs.u, hs.z, hfirst.1, hfirst.2, List.length_nil, Nat.zero_add, hsmall, Bool.not_true, cond_false, beqT, cond_true]
    · refine ⟨_, _, hxop (.slice (some ⟨h.n, 0, some z⟩) m.length (capU m.length)) (h.new (.cells (m.flatMap enc))) ?_, ?_, Nat.le_succ _, ?_, ?_, ?_⟩
      · unfold xappend
        simp only [hs.u, hs.z, hfirst.1, hfirst.2, Nat.zero_add, hsmall, Bool.not_true, cond_false, beqF hm]
      · simpa using fresh (h.new (.cells (m.flatMap enc))) m hz (.inl (by simp [H.new, T.get_set])) (Nat.lt_succ_self _)
      · exact fun h0 q1 q2 q3 => q1.trans (HLe.new hf _)
      · exact OwnS.own (Own.new hf _) hn0 (by rw [capLo_U, hlm]; exact Nat.le_refl _)
      · intro r cs hr q _
        exact ⟨q.grow hf (HLe.new hf _), Apart.own (Own.new hf _) (Nat.ne_of_gt hr)⟩
  · have hzz : ∀ w, w ∈ l ++ m → (enc w).length = z := by
      intro w hw
      rcases List.mem_append.1 hw with q | q
      · exact q3 w q
      · exact hz w q
    have hll := flat_len q3
    have hlen : (l ++ m).length = l.length + m.length := List.length_append
    rcases own with ⟨cp', q⟩ | ⟨g, r', off', n', cp', k, cs, q, hk, hc, hg, hng, ht, hcap⟩
    · cases q
    · cases q
      by_cases hroom : l.length + m.length ≤ capLo cp
      · -- in place
        have hmul : (l.length + m.length) * z ≤ capLo cp * z := Nat.mul_le_mul_right z hroom
        rw [Nat.add_mul] at hmul
        have hst : ∃ h', h.storeAt r (off + l.length * z) (m.flatMap enc) = some h' ∧ Local h h' g ∧ h'.n = h.n ∧ Tied h' g ∧ h'.b.get r = some ⟨.cells (cs.take (off + l.length * z) ++ (m.flatMap enc ++ cs.drop (off + l.length * z + m.length * z))), k.grp, k.co⟩ := by
          unfold H.storeAt
          rw [hk]
          simp only [hc, llen_eq, ltake_eq, ldrop_eq, lapp_eq, hlm, Nat.ble_eq_true_of_le (show off + l.length * z + m.length * z ≤ cs.length by omega), hall m, Bool.and_self, cond_true]
          refine ⟨_, rfl, ?_, ?_, ?_, ?_⟩
          · refine ⟨fun s ks hs hne => ?_, fun i hi => ?_, ?_⟩
            · simp only [T.get_set]
              have hsr : s ≠ r := by
                intro q; subst q; rw [hk] at hs; cases hs; exact hne hg
              rw [if_neg hsr]
              unfold H.lone
              cases hgm : h.g.get k.grp with
              | none => exact hs
              | some ms =>
                simp only
                rcases killAll_get (keep := r) (ms := ms) (b := h.b) s with q | ⟨q, _⟩
                · rw [q]; exact hs
                · exact absurd (ht.eq (by rw [← hg]; exact hgm) q hs) hne
            · unfold H.lone
              cases hgm : h.g.get k.grp with
              | none => rfl
              | some ms => simp only [T.get_set]; rw [if_neg (by rw [hg]; exact hi)]
            · unfold H.lone; cases h.g.get k.grp <;> exact Nat.le_refl _
          · unfold H.lone; cases h.g.get k.grp <;> rfl
          · intro ms hms m1 hm1
            unfold H.lone at hms ⊢
            cases hgm : h.g.get k.grp with
            | none => rw [hgm] at hms; simp only at hms; rw [← hg, hgm] at hms; cases hms
            | some ms0 =>
              rw [hgm] at hms
              simp only [T.get_set] at hms ⊢
              rw [if_pos hg.symm] at hms
              cases hms
              simp only [List.mem_singleton] at hm1
              subst hm1
              rw [if_pos rfl]
              exact ⟨_, rfl, hg⟩
          · simp only [T.get_set, if_true]
        obtain ⟨h', hst, hlo, hnn, htd, hget⟩ := hst
        refine ⟨_, _, hxop (.slice (some ⟨r, off, some z⟩) (l.length + m.length) cp) h' ?_, ?_, by rw [hnn]; exact Nat.le_refl _, fun h0 a1 a2 a3 => hlo.le a1 a2 (Nat.le_trans a3 hng), ?_, ?_⟩
        · unfold xappend
          simp only [hs.u, hs.z, hfirst.1, hfirst.2, hsmall, Bool.not_true, cond_false, beqT, Nat.ble_eq_true_of_le hroom, cond_true, hst]
        · have hold : cs.take (off + l.length * z) = cs.take off ++ l.flatMap enc := by
            have q2' := q2
            unfold H.loadAt H.obj at q2'
            rw [hk] at q2'
            simp only [hc, llen_eq, ltake_eq, ldrop_eq, Nat.ble_eq_true_of_le (show off + l.length * z ≤ cs.length by omega), cond_true, Option.some.injEq] at q2'
            rw [← q2', List.take_add]
          refine .inr ⟨r, off, cp, by rw [hlen], ?_, hzz, by rw [hnn]; exact q4, by rw [hlen]; exact hroom⟩
          unfold H.loadAt H.obj
          rw [hget]
          have e1 : (cs.take off).length = off := by rw [List.length_take]; omega
          simp only [llen_eq, ltake_eq, ldrop_eq]
          rw [hold, hlen, Nat.add_mul, List.flatMap_append]
          have e2 : (cs.take off ++ l.flatMap enc ++ (m.flatMap enc ++ cs.drop (off + l.length * z + m.length * z))).length = cs.length := by
            simp only [List.length_append, e1, hll, hlm, List.length_drop]; omega
          rw [e2, Nat.ble_eq_true_of_le (by omega), cond_true, List.append_assoc, List.drop_append_of_le_length (by omega), List.drop_of_length_le (by omega), List.nil_append, ← List.append_assoc,
            List.take_append_of_le_length (by rw [List.length_append]; omega), List.take_of_length_le (by rw [List.length_append]; omega)]
        · refine .inr ⟨g, r, off, _, cp, _, _, rfl, hget, rfl, hg, hng, htd, ?_⟩
          simp only [List.length_append, List.length_take, List.length_drop, hlm]; omega
        · intro s cs' hs' hos hap
          have hne := hap r off (some z) _ cp k rfl hk
          rw [hg] at hne
          refine ⟨hlo.own hos hne, fun b1 o1 sp1 n1 cp1 k1 q hk1 => ?_⟩
          cases q
          rw [hget] at hk1; cases hk1
          rw [hg]; exact hne
      · have hroomb : Nat.ble (l.length + m.length) (capLo cp) = false := by
          cases hq : Nat.ble (l.length + m.length) (capLo cp) with
          | false => rfl
          | true => exact absurd (Nat.le_of_ble_eq_true hq) hroom
        have hfm : (l ++ m).flatMap enc = l.flatMap enc ++ m.flatMap enc := List.flatMap_append
        cases hex : capExact cp with
        | true =>
          refine ⟨_, _, hxop (.slice (some ⟨h.n, 0, some z⟩) (l.length + m.length) (capU (l.length + m.length))) (h.new (.cells (l.flatMap enc ++ m.flatMap enc))) ?_, ?_, Nat.le_succ _, ?_, ?_, ?_⟩
          · unfold xappend
            simp only [hs.u, hs.z, hfirst.1, hfirst.2, hsmall, Bool.not_true, cond_false, beqT, hroomb, q2, hall m, hex, cond_true, lapp_eq]
          · rw [← hlen, ← hfm]; exact fresh _ (l ++ m) hzz (.inl (by simp [H.new, T.get_set])) (Nat.lt_succ_self _)
          · exact fun h0 q1 q2 q3 => q1.trans (HLe.new hf _)
          · exact OwnS.own (Own.new hf _) hn0 (by rw [capLo_U, List.length_append, hll, hlm, Nat.add_mul]; exact Nat.le_refl _)
          · intro r cs hr q _
            exact ⟨q.grow hf (HLe.new hf _), Apart.own (Own.new hf _) (Nat.ne_of_gt hr)⟩
        | false =>
          have hlo : Local h (h.grow r k off (l.length * z) (l.flatMap enc ++ m.flatMap enc)) g := by
            refine ⟨fun s ks hs hne => ?_, fun i hi => ?_, Nat.le_succ _⟩
            · simp only [H.grow, T.get_set]
              rw [if_neg (Nat.ne_of_lt (hf.lt s ks hs).1)]
              rcases killFrom_get (at_ := k.co + off + l.length * z) (ms := members h r k.grp) (b := h.b) s with q | ⟨q, _⟩
              · rw [q]; exact hs
              · unfold members at q
                cases hgm : h.g.get k.grp with
                | none =>
                  rw [hgm] at q
                  simp only [List.mem_singleton] at q
                  subst q; rw [hk] at hs; cases hs; exact absurd hg hne
                | some ms =>
                  rw [hgm] at q
                  exact absurd (ht.eq (by rw [← hg]; exact hgm) q hs) hne
            · simp only [H.grow, T.get_set]; rw [if_neg (by rw [hg]; exact hi)]
          have hget : (h.grow r k off (l.length * z) (l.flatMap enc ++ m.flatMap enc)).b.get h.n = some ⟨.cells (l.flatMap enc ++ m.flatMap enc), k.grp, k.co + off⟩ := by simp only [H.grow, T.get_set, if_true]
          refine ⟨_, _, hxop (.slice (some ⟨h.n, 0, some z⟩) (l.length + m.length) (capU (l.length + m.length))) (h.grow r k off (l.length * z) (l.flatMap enc ++ m.flatMap enc)) ?_, ?_, Nat.le_succ _, fun h0 a1 a2 a3 => hlo.le a1 a2 (Nat.le_trans a3 hng), ?_, ?_⟩
          · unfold xappend
            simp only [hs.u, hs.z, hfirst.1, hfirst.2, hsmall, Bool.not_true, cond_false, beqT, hroomb, q2, hall m, hex, cond_true, lapp_eq, hk, hc]
          · rw [← hlen, ← hfm] at *
            exact fresh _ (l ++ m) hzz (.inr ⟨_, _, hget⟩) (Nat.lt_succ_self _)
          · refine .inr ⟨g, h.n, 0, _, _, _, _, rfl, hget, rfl, hg, hng, ?_, by rw [capLo_U, List.length_append, hll, hlm, Nat.add_mul]; omega⟩
            intro ms hms m1 hm1
            simp only [H.grow, T.get_set] at hms ⊢
            rw [if_pos hg.symm] at hms
            cases hms
            by_cases q : m1 = h.n
            · rw [if_pos q]; exact ⟨_, rfl, hg⟩
            · rw [if_neg q]
              have hm2 : m1 ∈ members h r k.grp := by
                rcases List.mem_cons.1 hm1 with w | w
                · exact absurd w q
                · exact w
              have hk0 : ∃ k2, h.b.get m1 = some k2 ∧ k2.grp = g := by
                unfold members at hm2
                cases hgm : h.g.get k.grp with
                | none =>
                  rw [hgm] at hm2
                  simp only [List.mem_singleton] at hm2
                  subst hm2; exact ⟨k, hk, hg⟩
                | some ms =>
                  rw [hgm] at hm2
                  exact ht ms (by rw [← hg]; exact hgm) m1 hm2
              have gen : ∀ (ms : List Nat) (b : T ABlk) (at_ : Nat), (∃ k2, b.get m1 = some k2 ∧ k2.grp = g) → ∃ k2, (killFrom b at_ ms).get m1 = some k2 ∧ k2.grp = g := by
                intro ms
                induction ms with
                | nil => intro b at_ hb; exact hb
                | cons m0 ms ih =>
                  intro b at_ hb
                  simp only [killFrom]
                  refine ih _ _ ?_
                  cases hm0 : b.get m0 with
                  | none => exact hb
                  | some k0 =>
                    simp only
                    cases hbe : beyond k0 at_ with
                    | false => exact hb
                    | true =>
                      simp only [cond_true, T.get_set]
                      obtain ⟨k2, w1, w2⟩ := hb
                      by_cases w : m1 = m0
                      · subst w; rw [if_pos rfl]; rw [hm0] at w1; cases w1; exact ⟨_, rfl, w2⟩
                      · rw [if_neg w]; exact ⟨k2, w1, w2⟩
              exact gen _ _ _ hk0
          · intro s cs' hs' hos hap
            have hne := hap r off (some z) _ cp k rfl hk
            rw [hg] at hne
            refine ⟨hlo.own hos hne, fun b1 o1 sp1 n1 cp1 k1 q hk1 => ?_⟩
            cases q
            rw [hget] at hk1; cases hk1
            rw [hg]; exact hne
variable {P : Program} {c : Ctx P e} {arr : List Oper} {tl : List (Nat × Value)} {fn nt : Nat} {k k' : List AIt} {df : List Deferred} {kd : CallKind} {rd : Option Nat} {xs : List AFr} {pl : List PI} {i : Nat} {nd : Bool}
/-- what an append leaves -/
structure Appended {α : Type} (enc : α → List Value) (z n0 : Nat) (a : Value) (h : H) (L : List α) (v : Value) (h' : H) : Prop where
  sl : Sl h' enc z v L
  n : h.n ≤ h'.n
  le : ∀ h0, HLe h0 h → Fresh h0 → h0.n ≤ n0 → HLe h0 h'
  own : OwnS z n0 h' v
  apart : ∀ r cs, r < h.n → Own h r cs → Apart h a r → Own h' r cs ∧ Apart h' v r
theorem V.append {α : Type} {enc : α → List Value} {rest : List Oper} {d : Tmp} {st xt el el2 : TypeId} {z z2 nb n0 : Nat} {x y : Operand} {a b : Value} {l m : List α} [hs : SliceT e st el z] [hs2 : SliceT e xt el2 z2] [hsm : SmallT e el nb]
    (ho : o.op = .call { callee := .builtin .append, args := ⟨[x, y]⟩, argTypes := ⟨[st, xt]⟩ }) (hx : evL tl x = some a) (hy : evL tl y = some b) (hd : o.dst = some d) (sa : Sl h enc z a l) (sb : Sl h enc z b m) (hf : Fresh h) (hn0 : n0 ≤ h.n) (own : OwnS z n0 h a)
    (hone : ∀ x, allOne (enc x) = true) (hb2 : l.length + m.length ≤ 4611686018427387904) (hb : (2 * (l.length + m.length) + 192) * nb ≤ 281474976710656)
    (h1 : ∀ v h', Appended enc z n0 a h (l ++ m) v h' → W c (S fn nt (sk ((d, v) :: tl)) (.ops arr rest :: k) df kd rd xs h')) : WG c fn nt (sk tl) arr o rest k df kd rd xs h := by
  obtain ⟨v, h', q1, q2, q3, q4, q5, q6⟩ := x_append (e := e) (hs := hs) (hs2 := hs2) (hsm := hsm) (tm := sk tl) ho (E.l hx) (E.l hy) sa sb hf hn0 own hb hb2 hone
  exact V.val q1 hd (h1 v h' ⟨q2, q3, q4, q5, q6⟩)
theorem VP.append {α : Type} {enc : α → List Value} {d : Tmp} {st xt el el2 : TypeId} {z z2 nb n0 : Nat} {x y : Operand} {a b : Value} {l m : List α} [hs : SliceT e st el z] [hs2 : SliceT e xt el2 z2] [hsm : SmallT e el nb]
    (ho : o.op = .call { callee := .builtin .append, args := ⟨[x, y]⟩, argTypes := ⟨[st, xt]⟩ }) (hx : evL tl x = some a) (hy : evL tl y = some b) (hi : arr[i]? = some o) (hd : o.dst = some d) (sa : Sl h enc z a l) (sb : Sl h enc z b m) (hf : Fresh h) (hn0 : n0 ≤ h.n) (own : OwnS z n0 h a)
    (hone : ∀ x, allOne (enc x) = true) (hb2 : l.length + m.length ≤ 4611686018427387904) (hb : (2 * (l.length + m.length) + 192) * nb ≤ 281474976710656) (hnd : nd = true → h.n ≤ n0)
    (h1 : ∀ v h', Appended enc z n0 a h (l ++ m) v h' → WP c fn nt arr k df kd rd xs pl (sk ((d, v) :: tl)) h') : WPG c fn nt arr k df kd rd xs (.x i nd) o pl (sk tl) h := by
  obtain ⟨v, h', q1, q2, q3, q4, q5, q6⟩ := x_append (e := e) (hs := hs) (hs2 := hs2) (hsm := hsm) (tm := sk tl) ho (E.l hx) (E.l hy) sa sb hf hn0 own hb hb2 hone
  exact VP.valX q1 hi hd q3 (fun q => q4 h (HLe.refl _) hf (hnd q)) (h1 v h' ⟨q2, q3, q4, q5, q6⟩)
end Go.SX
namespace Go.SX
open Go.RowKit
variable {P : Program} {e : E} {h : H}
/-- a call that is known everywhere -/
theorem Gives.known (_hE : EnvOk e P) {f : FuncId} {args : List Value} {v : Value} (ca : closedL args = true) (cv : closedV v = true) (hcall : ∀ w : World, Calls P f ⟨args⟩ w fun en w' => en = .returned v ∧ Below w.heap.size w w') :
    Gives P e f args h (fun u h' => u = v ∧ h' = h) := by
  intro c x xs hk ρ lo fr cs1 w args' hi hlo hf hm hcs hbot ha
  obtain ⟨x', hfin, hW⟩ := hk v h ⟨rfl, rfl⟩
  have hargs : args' = ⟨args⟩ := by
    have := closedL_eq ha ca
    cases args'; simp only at this; rw [this]
  obtain ⟨en, w', fr2, ⟨rfl, hbel⟩, hst, hfn, hlv⟩ := hcall w (fr :: (cs1 ++ c.base))
  rw [← hargs] at hst
  exact c.back (Steps.trans hst (.one (step_leave_returned hlv))) (hW ρ (fr.finish v) _ w' ⟨hi.grown hbel, ⟨lo, cs1, rfl, hlo, finish_rel hf hfin (closedV_rel ρ v cv), hcs⟩, bottom_top hbot (finish_kind hfin)⟩)
end Go.SX
namespace Go.SX
open Go.RowKit
variable {P : Program} {e : E} {h h' : H} {o : Oper}
/-- what a store into one's own block leaves -/
structure Stored (h h6 : H) (r : Nat) (cs : List Value) : Prop where
  own : Own h6 r cs
  n : h6.n = h.n
  le : ∀ h0, HLe h0 h → h0.n ≤ r → Fresh h0 → HLe h0 h6
  others : ∀ s ds, s ≠ r → Own h s ds → Own h6 s ds
  fresh : Fresh h → Fresh h6
  apart : ∀ v s, Apart h v s → Apart h6 v s
  ownS : ∀ z n0 v, OwnS z n0 h v → Apart h v r → OwnS z n0 h6 v
  sl : ∀ {α : Type} (enc : α → List Value) (z : Nat) (v : Value) (l : List α), Sl h enc z v l → (∀ b off sp n cp, v = .slice (some ⟨b, off, sp⟩) n cp → b ≠ r) → Sl h6 enc z v l
theorem Stored.mk' {r : Nat} {cs cs' : List Value} (ho : Own h r cs) : Stored h (h.upd r cs') r cs' where
  own := ho.upd
  n := rfl
  le := fun h0 a b c => HLe.upd (cs := []) a b c
  others := fun s ds hne q => q.upd_ne (ds := []) hne
  fresh := fun hf => hf.upd ho
  apart := fun v s ha b off sp n cp k q hk => by
    simp only [H.upd, T.get_set] at hk
    split at hk
    · rename_i w; subst w; cases hk; exact ha b off sp n cp ⟨.cells cs, b, 0⟩ q ho.b
    · exact ha b off sp n cp k q hk
  ownS := fun z n0 v q ha => by
    rcases q with q | ⟨g, b, off, n, cp, k, ds, q1, q2, q3, q4, q5, q6, q7⟩
    · exact .inl q
    · have hb : b ≠ r := by
        intro w; subst w
        rw [ho.b] at q2; cases q2
        exact ha _ off (some z) n cp _ q1 ho.b rfl
      refine .inr ⟨g, b, off, n, cp, k, ds, q1, by simp only [H.upd, T.get_set]; rw [if_neg hb]; exact q2, q3, q4, q5, ?_, q7⟩
      intro ms hms m hm
      obtain ⟨km, w1, w2⟩ := q6 ms hms m hm
      simp only [H.upd, T.get_set]
      by_cases w : m = r
      · subst w; rw [if_pos rfl]; rw [ho.b] at w1; cases w1; exact ⟨_, rfl, w2⟩
      · rw [if_neg w]; exact ⟨km, w1, w2⟩
  sl := fun enc z v l q hne => by
    rcases q with q | ⟨b, off, cp, q1, q2, q3, q4, q5⟩
    · exact .inl q
    · refine .inr ⟨b, off, cp, q1, ?_, q3, q4, q5⟩
      have hb := hne b off (some z) _ cp q1
      unfold H.loadAt H.obj at q2 ⊢
      simp only [H.upd, T.get_set]
      rw [if_neg hb]; exact q2
variable {c : Ctx P e} {arr : List Oper} {l : List (Nat × Value)} {fn nt : Nat} {k : List AIt} {df : List Deferred} {kd : CallKind} {rd : Option Nat} {xs : List AFr} {pl : List PI} {i : Nat} {nd : Bool}
theorem V.storeG {rest : List Oper} {t : TypeId} {a x : Operand} {r p n : Nat} {v : Value} {sp : Option Nat} {cs : List Value} (ho : o.op = .store t a x) (ha : evL l a = some (.pointer (some ⟨r, p, sp⟩))) (hx : evL l x = some v) (hz : sizeOf e t = some n) (hv : (vcells v).length = n)
    (hw : Own h r cs) (hn : p + n ≤ cs.length) (hone : allOne (vcells v) = true) (hd : o.dst = none)
    (h1 : ∀ h6, Stored h h6 r (cs.take p ++ (vcells v ++ cs.drop (p + n))) → W c (S fn nt (sk l) (.ops arr rest :: k) df kd rd xs h6)) : WG c fn nt (sk l) arr o rest k df kd rd xs h :=
  V.eff (x_store ho (E.l ha) (E.l hx) hz hv hw hn hone) hd (h1 _ (Stored.mk' hw))
theorem VP.storeG {t : TypeId} {a x : Operand} {r p n : Nat} {v : Value} {sp : Option Nat} {cs : List Value} (ho : o.op = .store t a x) (ha : evL l a = some (.pointer (some ⟨r, p, sp⟩))) (hx : evL l x = some v) (hi : arr[i]? = some o) (hz : sizeOf e t = some n) (hv : (vcells v).length = n)
    (hw : Own h r cs) (hn : p + n ≤ cs.length) (hone : allOne (vcells v) = true) (hd : o.dst = none)
    (h1 : ∀ h6, Stored h h6 r (cs.take p ++ (vcells v ++ cs.drop (p + n))) → WP c fn nt arr k df kd rd xs pl (sk l) h6) : WPG c fn nt arr k df kd rd xs (.x i false) o pl (sk l) h :=
  VP.effX (x_store ho (E.l ha) (E.l hx) hz hv hw hn hone) hi hd (Nat.le_of_eq (Stored.mk' (cs' := []) hw).n.symm) (fun q => by cases q) (h1 _ (Stored.mk' hw))
theorem V.fresh {tm : T Value} {td : List AIt} (h1 : Fresh h → W c (S fn nt tm td df kd rd xs h)) : W c (S fn nt tm td df kd rd xs h) := W.fresh h1
theorem Sl.isSl {α : Type} {enc : α → List Value} {z : Nat} {v : Value} {L : List α} (hs : Sl h enc z v L) : vcells v = [v] ∧ one v = true ∧ nf v = true := by
  rcases hs with ⟨cp, rfl, _⟩ | ⟨r, off, cp, rfl, _⟩ <;> exact ⟨rfl, rfl, rfl⟩
end Go.SX
namespace Go.SX
open Go.RowKit
variable {P : Program} {e : E} {h h' : H} {o : Oper} {tm : T Value}
theorem xf_bslice {op : Op} {t el : TypeId} {z0 : Value} {z m : Nat} {ps : Array (Nat × Operand)} {vs : List (Nat × Value)} {cs : List Value} [hs : SliceT e t el z] [hz : ZeroT e el z0] (ho : op = .buildSlice t m ps) (hv : evParts tm ps.toList = some vs) (hl : Nat.beq (llen (vcells z0)) z = true)
    (hb : Nat.ble (m * z) 16777216 = true) (hf : fillN z (zerosL (vcells z0) m) vs = some cs) : xfresh e tm op = some (.cells cs, .sl z m (capE m)) := by
  unfold fillN at hf
  rw [ho]; simp only [xfresh, hs.u, hs.z, hz.h, hz.c, hv, hl, hb, Bool.and_self, cond_true, hf]
theorem HLe.same {r : Nat} {cs : List Value} (ho : Own h r cs) : HLe h (h.upd r cs) :=
  ⟨fun s k q => by
    simp only [H.upd, T.get_set]
    split
    · rename_i w; subst w; rw [ho.b] at q; exact q
    · exact q, fun _ _ => rfl, Nat.le_refl _⟩
/-- an append to a slice that is full to its end leaves all that was there -/
theorem x_appendFull {α : Type} {enc : α → List Value} {st xt el el2 : TypeId} {z z2 nb r n0 : Nat} {x y : Operand} {b : Value} {cs : List Value} {l m : List α} [hs : SliceT e st el z] [hs2 : SliceT e xt el2 z2] [hsm : SmallT e el nb]
    (ho : o.op = .call { callee := .builtin .append, args := ⟨[x, y]⟩, argTypes := ⟨[st, xt]⟩ }) (hx : ev tm x = some (.slice (some ⟨r, 0, some z⟩) l.length (capE l.length))) (hy : ev tm y = some b) (hw : Own h r cs) (hcs : cs = l.flatMap enc) (hlz : ∀ w, w ∈ l → (enc w).length = z) (sb : Sl h enc z b m) (hf : Fresh h) (hn0 : n0 ≤ r)
    (hb : (2 * (l.length + m.length) + 192) * nb ≤ 281474976710656) (hb2 : l.length + m.length ≤ 4611686018427387904) (hone : ∀ x, allOne (enc x) = true) :
    ∃ v h', xop e tm h o = some (.val v h') ∧ Sl h' enc z v (l ++ m) ∧ (HLe h h' ∧ Fresh h') ∧ OwnS z n0 h' v := by
  have hr := hw.lt hf
  have hll := flat_len hlz
  have sa : Sl h enc z (.slice (some ⟨r, 0, some z⟩) l.length (capE l.length)) l := .inr ⟨r, 0, capE l.length, rfl, by subst hcs; exact Own.loadAll hw hll, hlz, hr, by rw [capLo_E]; exact Nat.le_refl _⟩
  by_cases hm : m.length = 0
  · have : m = [] := List.eq_nil_of_length_eq_zero hm
    subst this
    have hsmall : small e el (l.length + 0) = true := small_ok hb2 hb
    have hfirst : lenA b = some 0 ∧ firstCells h z 0 b = some [] := by
      rcases sb with ⟨cp, rfl, _⟩ | ⟨r, off, cp, rfl, q2, q3, q4, q5⟩
      · exact ⟨rfl, rfl⟩
      · exact ⟨rfl, q2⟩
    have hst : h.storeAt r (0 + l.length * z) [] = some (h.upd r cs) := by
      have q := storeAt_own (off := 0 + l.length * z) (vs := []) hw (by rw [hcs, hll]; simp) rfl
      rw [q]
      congr 2
      simp
    refine ⟨.slice (some ⟨r, 0, some z⟩) (l.length + 0) (capE l.length), h.upd r cs, ?_, ?_, ⟨HLe.same hw, hf.upd hw⟩, ?_⟩
    · unfold xop; rw [ho]
      simp only [evs, hx, hy, xbuiltin, hs2.u]
      have : xappend e h st (.slice (some ⟨r, 0, some z⟩) l.length (capE l.length)) b = some (.slice (some ⟨r, 0, some z⟩) (l.length + 0) (capE l.length), h.upd r cs) := by
        unfold xappend
        simp only [hs.u, hs.z, hfirst.1, hfirst.2, hsmall, Bool.not_true, cond_false, beqT, Nat.ble_eq_true_of_le (show l.length + 0 ≤ capLo (capE l.length) by rw [capLo_E]; exact Nat.le_refl _), cond_true, hst]
      rw [this]
    · simpa using sa.grow (HLe.same hw)
    · exact OwnS.own (hw.upd (cs' := cs)) hn0 (by rw [capLo_E, hcs, hll]; exact Nat.le_refl _)
  · have hsmall : small e el (l.length + m.length) = true := small_ok hb2 hb
    have hnr : Nat.ble (l.length + m.length) (capLo (capE l.length)) = false := by
      cases q : Nat.ble (l.length + m.length) (capLo (capE l.length)) with
      | false => rfl
      | true =>
        have := Nat.le_of_ble_eq_true q
        rw [capLo_E] at this; omega
    obtain ⟨v, h2, q1, q2, q3, q4, q5, q6⟩ := x_append (e := e) (hs := hs) (hs2 := hs2) (hsm := hsm) (tm := tm) (n0 := n0) ho hx hy sa sb hf (Nat.le_of_lt (Nat.lt_of_le_of_lt hn0 hr)) (OwnS.own hw hn0 (by rw [capLo_E, hcs, hll]; exact Nat.le_refl _)) hb hb2 hone
    refine ⟨v, h2, q1, q2, ?_, q5⟩
    have hfirst : lenA b = some m.length ∧ firstCells h z m.length b = some (m.flatMap enc) := by
      rcases sb with ⟨cp, rfl, rfl⟩ | ⟨r, off, cp, rfl, q2, q3, q4, q5⟩
      · exact ⟨rfl, rfl⟩
      · exact ⟨rfl, q2⟩
    unfold xop at q1; rw [ho] at q1
    simp only [evs, hx, hy, xbuiltin, hs2.u] at q1
    cases hq : xappend e h st (.slice (some ⟨r, 0, some z⟩) l.length (capE l.length)) b with
    | none => rw [hq] at q1; cases q1
    | some p =>
      obtain ⟨v', h3⟩ := p
      rw [hq] at q1
      simp only [Option.some.injEq, R.val.injEq] at q1
      obtain ⟨rfl, rfl⟩ := q1
      have hld := Own.loadAll hw (by rw [hcs, hll] : cs.length = l.length * z)
      have hex : capExact (capE l.length) = true := by simp only [capExact, capE]; rw [show (2 * l.length + 1) % 2 = 1 by omega]; rfl
      unfold xappend at hq
      simp only [hs.u, hs.z, hfirst.1, hfirst.2, hsmall, Bool.not_true, cond_false, beqT, hnr, hld, hex, cond_true] at hq
      cases hall : allOne (m.flatMap enc) with
      | false => rw [hall] at hq; cases hq
      | true =>
        rw [hall] at hq
        simp only [Bool.not_true, cond_false, Option.some.injEq, Prod.mk.injEq] at hq
        rw [← hq.2]; exact ⟨HLe.new hf _, Fresh.new hf _⟩
variable {c : Ctx P e} {arr : List Oper} {tl : List (Nat × Value)} {fn nt : Nat} {k : List AIt} {df : List Deferred} {kd : CallKind} {rd : Option Nat} {xs : List AFr} {pl : List PI} {i : Nat} {nd : Bool}
theorem VP.appendFull {α : Type} {enc : α → List Value} {d : Tmp} {st xt el el2 : TypeId} {z z2 nb r n0 : Nat} {x y : Operand} {b : Value} {cs : List Value} {l m : List α} [hs : SliceT e st el z] [hs2 : SliceT e xt el2 z2] [hsm : SmallT e el nb]
    (ho : o.op = .call { callee := .builtin .append, args := ⟨[x, y]⟩, argTypes := ⟨[st, xt]⟩ }) (hx : evL tl x = some (.slice (some ⟨r, 0, some z⟩) l.length (capE l.length))) (hy : evL tl y = some b) (hi : arr[i]? = some o) (hd : o.dst = some d) (hw : Own h r cs) (hcs : cs = l.flatMap enc) (hlz : ∀ w, w ∈ l → (enc w).length = z) (sb : Sl h enc z b m) (hf : Fresh h) (hn0 : n0 ≤ r)
    (hone : ∀ x, allOne (enc x) = true) (hb2 : l.length + m.length ≤ 4611686018427387904) (hb : (2 * (l.length + m.length) + 192) * nb ≤ 281474976710656)
    (h1 : ∀ v h', Sl h' enc z v (l ++ m) → HLe h h' → Fresh h' → OwnS z n0 h' v → WP c fn nt arr k df kd rd xs pl (sk ((d, v) :: tl)) h') : WPG c fn nt arr k df kd rd xs (.x i nd) o pl (sk tl) h := by
  obtain ⟨v, h', q1, q2, q3, q4⟩ := x_appendFull (e := e) (hs := hs) (hs2 := hs2) (hsm := hsm) (tm := sk tl) ho (E.l hx) (E.l hy) hw hcs hlz sb hf hn0 hb hb2 hone
  exact VP.valX q1 hi hd q3.1.n (fun _ => q3.1) (h1 v h' q2 q3.1 q3.2 q4)
end Go.SX
namespace Go.SX
open Go.RowKit
variable {P : Program} {e : E} {c : Ctx P e}
/-- what is to be shown at the end of a body -/
def Leaves (c : Ctx P e) (fn : Nat) (ys : List AFr) (Q : Value → H → Prop) : Prop :=
  ∀ (nt : Nat) (tm : T Value) (k : List AIt) (F : Func) (vs : List Value) (h : H), e.fn.get fn = some F → resultsA e h tm F.results.toList = some vs → Q (tup vs) h → W c ⟨⟨fn, nt, tm, k, [], .returning, .normal, none⟩, ys, h⟩
theorem V.retL {fn nt : Nat} {l : List (Nat × Value)} {k : List AIt} {ys : List AFr} {h : H} {F : Func} {vs : List Value} {Q : Value → H → Prop} (hk : Leaves c fn ys Q) (hF : e.fn.get fn = some F) (hr : resL l F.results.toList = some vs) (hq : Q (tup vs) h) :
    W c (S fn nt (sk l) (.code .ret :: k) [] .normal none ys h) :=
  W.step (x1 := ⟨⟨fn, nt, sk l, .code .ret :: k, [], .returning, .normal, none⟩, ys, h⟩) rfl (hk _ _ _ _ _ _ hF (resL_eq hr) hq)
/-- a whole call, from what its body leads to -/
theorem calls_W (hE : EnvOk e P) {f : Nat} {F : Func} {C : Code} {args : List Value} {args' : Array Value} {h : H} {ρ : Rho} {w : World} (hF : e.fn.get f = some F) (hb : F.body = some C) (hi : Inv ρ h w w) (ha : VRels ρ args args'.toList)
    (hW : ∀ (c : Ctx P e) (ys : List AFr), Leaves c f ys (fun v _ => v = .bool true) → W c (S f F.ntmps (T.ofList args 0 .nil) [.code C] [] .normal none ys h)) :
    Calls P f args' w fun en w' => en = .returned (.bool true) ∧ Below w.heap.size w w' := by
  intro cs
  let c : Ctx P e := { ok := hE, w0 := w, base := cs, G := fun m => ∃ fr' w', Steps P m (lone fr' cs w') ∧ fr'.fn = f ∧ fr'.leaving P w' (.returned (.bool true)) ∧ Below w.heap.size w w',
                       back := fun hst ⟨fr', w', q1, q2, q3, q4⟩ => ⟨fr', w', hst.trans q1, q2, q3, q4⟩ }
  have hen : enterFr e f args .normal = some ⟨f, F.ntmps, T.ofList args 0 .nil, [.code C], [], .run, .normal, none⟩ := by simp only [enterFr, hF, hb]
  obtain ⟨h2, h3⟩ := enter_rel (n := h.n) hE hen ha (.inl rfl)
  have hl : Leaves c f [] (fun v _ => v = .bool true) := by
    intro nt tm k F' vs h' hF' hr hq ρ' fr' cs' w' hM
    have hs : SX.step e ⟨⟨f, nt, tm, k, [], .returning, .normal, none⟩, [], h'⟩ = .ended f (some (tup vs)) [] h' := by
      simp only [SX.step, unwindA, hF', hr, doRet]
    obtain ⟨ρ2, fr2, w2, v2, k1, k2, k3, k4, k5⟩ := step_ended hE hM hs
    rw [hq] at k4
    cases k4
    exact ⟨fr2, w2, k1, k2, k3, k5.below⟩
  obtain ⟨fr', w', q1, q2, q3, q4⟩ := hW c [] hl ρ _ cs w ⟨hi, ⟨h.n, [], rfl, Nat.le_refl _, h2, .nil _⟩, h3⟩
  exact ⟨.returned (.bool true), w', fr', ⟨rfl, q4⟩, q1, q2, q3⟩
/-! ### memory of arguments: blocks that are only read -/
structure RoB where
  β : Nat
  off : Nat
  cs : List Value
def RoB.blk (x : RoB) : ABlk := ⟨.ro x.cs, x.β, x.off⟩
structure RoB.Ok (w : World) (x : RoB) : Prop where
  at_ : ∃ c t f, w.heap[x.β]? = some (.cells c t f) ∧ x.off + x.cs.length ≤ c.size ∧ ∀ i v, x.cs[i]? = some v → c[x.off + i]? = some v
  closed : closedL x.cs = true
def roN (bs : List RoB) : Nat := bs.length + (bs.map (·.β + 1)).sum
def roH (bs : List RoB) : H := { b := T.ofList (bs.map RoB.blk) 0 .nil, g := .nil, n := roN bs }
def roRho (w : World) (bs : List RoB) : Rho := { ι := fun r => (bs[r]?).map fun x => (x.β, x.off), sz := fun β => match w.heap[β]? with | some (.cells c _ _) => c.size | _ => 0 }
theorem roH_get {bs : List RoB} {r : Nat} : (roH bs).b.get r = (bs[r]?).map RoB.blk := by
  simp only [roH, T.get_ofList, List.length_map, Nat.zero_le, true_and, Nat.zero_add, Nat.sub_zero, List.getElem?_map]
  split
  · rfl
  · rename_i q; rw [List.getElem?_eq_none (by omega)]; rfl
theorem closedL_get : ∀ {l : List Value} {i : Nat} {v : Value}, closedL l = true → l[i]? = some v → closedV v = true
  | [], i, v, _, hv => by simp at hv
  | x :: l, 0, v, hc, hv => by
    simp only [closedL, Bool.and_eq_true] at hc
    simp only [List.getElem?_cons_zero, Option.some.injEq] at hv
    rw [← hv]; exact hc.1
  | x :: l, i + 1, v, hc, hv => by
    simp only [closedL, Bool.and_eq_true] at hc
    exact closedL_get hc.2 (by simpa using hv)
theorem sum_mem : ∀ {l : List Nat} {x : Nat}, x ∈ l → x ≤ l.sum
  | y :: l, x, hx => by
    rcases List.mem_cons.1 hx with rfl | q
    · simp
    · have := sum_mem q; simp; omega
theorem ro_inv {w : World} {bs : List RoB} (h : ∀ x, x ∈ bs → x.Ok w) : Inv (roRho w bs) (roH bs) w w := by
  have hget : ∀ {r k}, (roH bs).b.get r = some k → ∃ x, bs[r]? = some x ∧ k = x.blk := by
    intro r k hk
    rw [roH_get] at hk
    cases hx : bs[r]? with
    | none => rw [hx] at hk; cases hk
    | some x => rw [hx] at hk; cases hk; exact ⟨x, rfl, rfl⟩
  have hι : ∀ {r β d}, (roRho w bs).ι r = some (β, d) → ∃ x, bs[r]? = some x ∧ β = x.β ∧ d = x.off := by
    intro r β d hr
    simp only [roRho] at hr
    cases hx : bs[r]? with
    | none => rw [hx] at hr; cases hr
    | some x => rw [hx] at hr; cases hr; exact ⟨x, rfl, rfl, rfl⟩
  have hro : ∀ {r k}, (roH bs).b.get r = some k → isRo k.obj = true := by
    intro r k hk; obtain ⟨x, _, rfl⟩ := hget hk; rfl
  refine { below := .refl _ _, dom := ?_, obj := ?_, lo := ?_, same := ?_, fresh := ?_, gfresh := ?_, mem := ?_, lone := ?_, roG := ?_ }
  · rintro r ⟨β, d⟩ hr
    obtain ⟨x, hx, _, _⟩ := hι hr
    exact ⟨x.blk, by rw [roH_get, hx]; rfl⟩
  · intro r β d k hr hk
    obtain ⟨x, hx, rfl⟩ := hget hk
    obtain ⟨y, hy, rfl, rfl⟩ := hι hr
    rw [hx] at hy; cases hy
    obtain ⟨⟨c, t, f, q1, q2, q3⟩, q4⟩ := h x (List.mem_of_getElem? hx)
    refine ⟨c, t, f, q1, by simp only [roRho, q1], q2, fun i v hv => ⟨v, q3 i v hv, closedV_rel _ v (closedL_get q4 hv)⟩⟩
  · intro r β d k hr hk hn
    rw [hro hk] at hn; cases hn
  · intro r s β d d' k k' hr hs hk hk'
    obtain ⟨x, hx, rfl⟩ := hget hk
    obtain ⟨y, hy, rfl⟩ := hget hk'
    obtain ⟨x', hx', e1, rfl⟩ := hι hr
    obtain ⟨y', hy', e2, rfl⟩ := hι hs
    rw [hx] at hx'; cases hx'
    rw [hy] at hy'; cases hy'
    exact ⟨e1.symm.trans e2, by simp only [RoB.blk]; omega⟩
  · intro r k hk
    obtain ⟨x, hx, rfl⟩ := hget hk
    have h1 := (List.getElem?_eq_some_iff.1 hx).1
    have h2 := sum_mem (l := bs.map (·.β + 1)) (x := x.β + 1) (List.mem_map.2 ⟨x, List.mem_of_getElem? hx, rfl⟩)
    simp only [roH, roN, RoB.blk]
    omega
  · intro g ms hg; simp [roH, T.get] at hg
  · intro r k hk hc; have := hro hk; cases e1 : k.obj <;> simp_all [isCells, isRo]
  · intro r k hk _ _ hn; rw [hro hk] at hn; cases hn
  · intro r s k k' hk hk' _ _; exact hro hk'
theorem roH_obj {bs : List RoB} {r : Nat} {x : RoB} (hx : bs[r]? = some x) : (roH bs).obj r = some (.ro x.cs) := by
  simp only [H.obj, roH_get, hx, Option.map_some, RoB.blk]
theorem ro_fresh (bs : List RoB) {w : World} (h : ∀ x, x ∈ bs → x.Ok w) : Fresh (roH bs) := ⟨(ro_inv h).fresh, (ro_inv h).gfresh⟩
theorem ro_rel {bs : List RoB} {w : World} {r z n cap o' : Nat} {x : RoB} (hx : bs[r]? = some x) (hok : x.Ok w) (hn : n ≤ cap) (hs : ∀ c t f, w.heap[x.β]? = some (.cells c t f) → x.off + cap * z ≤ c.size) (ha : cap = 0 ∨ o' = x.off) :
    VRel (roRho w bs) (.slice (some ⟨r, 0, some z⟩) n (2 * n)) (.slice (some ⟨x.β, o', none⟩) n cap) := by
  obtain ⟨⟨c, t, f, q1, q2, q3⟩, q4⟩ := hok
  refine .sl (d := x.off) (by simp only [roRho, hx, Option.map_some]) hn (by simp only [capLo]; omega) ?_ ?_ (by simpa using ha)
  · intro q
    have : (2 * n) % 2 = 0 := by omega
    simp only [capExact, this] at q; cases q
  · simp only [roRho, q1, Nat.add_zero]; exact hs _ _ _ q1
theorem ro_sl {α : Type} {enc : α → List Value} {z : Nat} {bs : List RoB} {r : Nat} {x : RoB} {l : List α} (hx : bs[r]? = some x) (hr : x.cs = l.flatMap enc) (hz : ∀ a, a ∈ l → (enc a).length = z) :
    Sl (roH bs) enc z (.slice (some ⟨r, 0, some z⟩) l.length (2 * l.length)) l := by
  have hlen := flat_len (l := l) hz
  refine .inr ⟨r, 0, 2 * l.length, rfl, ?_, hz, ?_, by simp only [capLo]; omega⟩
  · simp only [H.loadAt, roH_obj hx, hr, llen_eq, hlen, Nat.zero_add, Nat.ble_self_eq_true, cond_true, ltake_eq, ldrop_eq, List.drop_zero]
    rw [← hlen, List.take_length]
  · have h1 := (List.getElem?_eq_some_iff.1 hx).1
    simp only [roH, roN]; omega
end Go.SX
namespace Go.SX
open Go.RowKit
variable {P : Program} {e : E} {c : Ctx P e} {arr : List Oper} {l : List (Nat × Value)} {fn nt : Nat} {k k' : List AIt} {df : List Deferred} {kd : CallKind} {rd : Option Nat} {xs : List AFr} {h h' : H} {pl : List PI} {i : Nat} {nd : Bool} {o : Oper}
/-! ### operations that ask for nothing but values -/
noncomputable def easyB : BinOp → Option Value → Option Value → Option Value
  | .lss, some (.int k a), some (.int k' b) => bif k == k' then some (.bool (ltB a b)) else none
  | .leq, some (.int k a), some (.int k' b) => bif k == k' then some (.bool (leB a b)) else none
  | .gtr, some (.int k a), some (.int k' b) => bif k == k' then some (.bool (ltB b a)) else none
  | .geq, some (.int k a), some (.int k' b) => bif k == k' then some (.bool (leB b a)) else none
  | .eql, some (.int k a), some (.int k' b) => bif k == k' then some (.bool (eqB a b)) else none
  | .neq, some (.int k a), some (.int k' b) => bif k == k' then some (.bool (!eqB a b)) else none
  | .eql, some (.string a), some (.string b) => some (.bool (seB a.data.toList b.data.toList))
  | .neq, some (.string a), some (.string b) => some (.bool (!seB a.data.toList b.data.toList))
  | _, _, _ => none
noncomputable def easyO (l : List (Nat × Value)) : Op → Option Value
  | .move x => evL l x
  | .assign x => evL l x
  | .pick x a b => match evL l x with
    | some (.bool true) => evL l a
    | some (.bool false) => evL l b
    | _ => none
  | .unOp .not _ x => match evL l x with
    | some (.bool b) => some (.bool (!b))
    | _ => none
  | .extract x i => match evL l x with
    | some (.tuple ⟨vs⟩) => vs[i]?
    | _ => none
  | .binOp op _ x y _ => easyB op (evL l x) (evL l y)
  | _ => none
theorem kbeq {k k' : IntKind} (h : (k == k') = true) : k = k' := by cases k <;> cases k' <;> first | rfl | cases h
theorem easy_sound {v : Value} (hx : easyO l o.op = some v) : xop e (sk l) h o = some (.val v h) := by
  cases ho : o.op <;> rw [ho] at hx <;> try (cases hx; done)
  case move x => exact x_move ho (E.l hx)
  case assign x => exact x_assign ho (E.l hx)
  case pick x a b =>
    simp only [easyO] at hx
    split at hx
    · exact x_pickT ho (E.l (by assumption)) (E.l hx)
    · exact x_pickF ho (E.l (by assumption)) (E.l hx)
    · cases hx
  case unOp u t x =>
    cases u <;> try (cases hx; done)
    simp only [easyO] at hx
    split at hx
    · cases hx; exact x_not ho (E.l (by assumption))
    · cases hx
  case extract x i =>
    simp only [easyO] at hx
    split at hx
    · exact x_ext ho (E.l (by assumption)) hx
    · cases hx
  case binOp op t x y u =>
    simp only [easyO, easyB] at hx
    split at hx <;> first | (cases hx; done) | skip
    all_goals try
      rw [Bool.cond_eq_ite] at hx
      split at hx
      rotate_left
      · cases hx
      rename_i hkk
      have := kbeq hkk
      subst this
    all_goals
      cases hx
      first
        | exact x_lss ho (E.l (by assumption)) (E.l (by assumption))
        | exact x_leq ho (E.l (by assumption)) (E.l (by assumption))
        | exact x_gtr ho (E.l (by assumption)) (E.l (by assumption))
        | exact x_geq ho (E.l (by assumption)) (E.l (by assumption))
        | exact x_eqi ho (E.l (by assumption)) (E.l (by assumption))
        | exact x_nei ho (E.l (by assumption)) (E.l (by assumption))
        | exact x_eqs ho (E.l (by assumption)) (E.l (by assumption))
        | exact x_nes ho (E.l (by assumption)) (E.l (by assumption))
theorem V.easy {rest : List Oper} {v : Value} {d : Tmp} (hx : easyO l o.op = some v) (hd : o.dst = some d) (h1 : W c (S fn nt (sk ((d, v) :: l)) (.ops arr rest :: k) df kd rd xs h)) : WG c fn nt (sk l) arr o rest k df kd rd xs h := V.val (easy_sound hx) hd h1
theorem VP.easy {v : Value} {d : Tmp} (hx : easyO l o.op = some v) (ho : arr[i]? = some o) (hd : o.dst = some d) (hf : freshOp o.op = false) (hq : nf v = true)
    (h1 : WP c fn nt arr k df kd rd xs pl (sk ((d, v) :: l)) h) (hs : sliceOk v h = true := by first | rfl | exact slice_ok (by omega)) : WPG c fn nt arr k df kd rd xs (.e i) o pl (sk l) h := VP.val (easy_sound hx) ho hd hf hq hs h1
theorem VP.v {v : Value} {d : Tmp} (hx : xop e (sk l) h o = some (.val v h)) (ho : arr[i]? = some o) (hd : o.dst = some d) (hf : freshOp o.op = false) (hq : nf v = true)
    (h1 : WP c fn nt arr k df kd rd xs pl (sk ((d, v) :: l)) h) (hs : sliceOk v h = true := by first | rfl | exact slice_ok (by omega)) : WPG c fn nt arr k df kd rd xs (.e i) o pl (sk l) h := VP.val hx ho hd hf hq hs h1
/-! ### what leads the way -/
def ctl (nt : Nat) (l : List (Nat × Value)) : List AIt → Option (List AIt)
  | .code (.seq a b) :: k => some (.code a :: .code b :: k)
  | .code .skip :: k => some k
  | .code (.label _) :: k => some k
  | .code (.block id b) :: k => some (.code b :: .inBlock id :: k)
  | .inBlock _ :: k => some k
  | .code (.scope b) :: k => some (.code b :: .inScope b :: k)
  | .inScope _ :: k => some k
  | .code (.exit id) :: k => exitToA id k
  | .ops _ [] :: k => some k
  | .code (.region _ arr false) :: k => bif dstOk nt arr.toList then some (.ops arr.toList arr.toList :: k) else none
  | .code (.cond x a b) :: k => match evL l x with
    | some (.bool true) => some (.code a :: k)
    | some (.bool false) => some (.code b :: k)
    | _ => none
  | _ => none
theorem V.ctl (hx : SX.ctl nt l k = some k') (h1 : W c (S fn nt (sk l) k' df kd rd xs h)) : W c (S fn nt (sk l) k df kd rd xs h) := by
  unfold SX.ctl at hx
  split at hx
  · cases hx; exact W.seq h1
  · cases hx; exact W.skip h1
  · cases hx; exact W.label h1
  · cases hx; exact W.block h1
  · cases hx; exact W.inBlock h1
  · cases hx; exact W.scope h1
  · cases hx; exact W.inScope h1
  · exact W.exit hx h1
  · cases hx; exact W.opsNil h1
  · cases hd : dstOk nt (Array.toList ‹_›) with
    | false => rw [hd] at hx; cases hx
    | true => rw [hd] at hx; cases hx; exact W.region hd h1
  · split at hx
    · cases hx; exact V.condT (by assumption) h1
    · cases hx; exact V.condF (by assumption) h1
    · cases hx
  · cases hx
/-! ### the rest -/
section
variable {rest : List Oper} {d : Tmp}
theorem V.add {t u : TypeId} {x y : Operand} {a b : Int} (ho : o.op = .binOp .add t x y u) (hx : evL l x = some (.int .i64 a)) (hy : evL l y = some (.int .i64 b)) (h1 : -9223372036854775808 ≤ a + b) (h2 : a + b ≤ 9223372036854775807) (hd : o.dst = some d)
    (h3 : W c (S fn nt (sk ((d, .int .i64 (a + b)) :: l)) (.ops arr rest :: k) df kd rd xs h)) : WG c fn nt (sk l) arr o rest k df kd rd xs h := V.val (x_add ho (E.l hx) (E.l hy) h1 h2) hd h3
theorem V.sub {t u : TypeId} {x y : Operand} {a b : Int} (ho : o.op = .binOp .sub t x y u) (hx : evL l x = some (.int .i64 a)) (hy : evL l y = some (.int .i64 b)) (h1 : -9223372036854775808 ≤ a - b) (h2 : a - b ≤ 9223372036854775807) (hd : o.dst = some d)
    (h3 : W c (S fn nt (sk ((d, .int .i64 (a - b)) :: l)) (.ops arr rest :: k) df kd rd xs h)) : WG c fn nt (sk l) arr o rest k df kd rd xs h := V.val (x_sub ho (E.l hx) (E.l hy) h1 h2) hd h3
end
end Go.SX
namespace Go.SX
open Go.RowKit Go.ChangeShapes Go.WideShapes
variable {P : Program} {w : World} {Hh : Type} {en : TypeId × Value → Hh}
/-- what is said of the weights of what was read -/
def WOk (P : Program) (t : TypeId) (d : DataW Hh) : Prop := (d.weights P t).all (· ≤ reachBytes) = true
/-- cells of an element: what they are when they can be read -/
def Dec {α : Type} (P : Program) (w : World) (en : TypeId × Value → Hh) (e : TypeId) (enc : α → List Value) (Ok : α → Prop) : Prop :=
  ∀ (n : Nat) (cs : List Value) (x : DataW Hh × List MemPlace), DataW.trod en P w 0 (fun _ => true) true n e cs = some x → ∃ a, cs = enc a ∧ (WOk P e x.1 → Ok a)
theorem wok_string {t : TypeId} {s : ByteArray} (h : WOk P t (.lit (.string s.data.toList) : DataW Hh)) : s.data.toList.length ≤ reachBytes := by
  simpa [WOk, DataW.weights] using h
theorem wok_all {t : TypeId} : ∀ {l : List (DataW Hh)}, (DataW.weightsAll P t l).all (· ≤ reachBytes) = true → ∀ d, d ∈ l → WOk P t d
  | x :: l, h, d, hd => by
    simp only [DataW.weightsAll, List.all_append, Bool.and_eq_true] at h
    rcases List.mem_cons.1 hd with rfl | q
    · exact h.1
    · exact wok_all h.2 d q
theorem wok_each : ∀ {ts : List TypeId} {l : List (DataW Hh)}, (DataW.weightsEach P ts l).all (· ≤ reachBytes) = true → ∀ (i : Nat) t d, ts[i]? = some t → l[i]? = some d → WOk P t d
  | [], _, _, i, t, d, ht, _ => by simp at ht
  | _ :: _, [], _, i, t, d, _, hd => by simp at hd
  | t0 :: ts, x :: l, h, 0, t, d, ht, hd => by
    simp only [DataW.weightsEach, List.all_append, Bool.and_eq_true] at h
    simp only [List.getElem?_cons_zero, Option.some.injEq] at ht hd
    subst ht; subst hd; exact h.1
  | t0 :: ts, x :: l, h, i + 1, t, d, ht, hd => by
    simp only [DataW.weightsEach, List.all_append, Bool.and_eq_true] at h
    exact wok_each h.2 i t d (by simpa using ht) (by simpa using hd)
theorem wok_struct {t : TypeId} {fs : Array Field} {parts : List (DataW Hh)} (ht : P.underlying t = some (.struct fs)) (h : WOk P t (.agg parts)) (i : Nat) (f : Field) (d : DataW Hh) (hf : fs[i]? = some f) (hd : parts[i]? = some d) : WOk P f.type d := by
  simp only [WOk, DataW.weights, ht] at h
  refine wok_each h i f.type d ?_ hd
  rw [List.getElem?_map, Array.getElem?_toList, hf]; rfl
theorem cells_of {β o n : Nat} {cs : List Value} {c : Array Value} {t : TypeId} {f : Nat × Nat} (hb : w.heap[β]? = some (.cells c t f)) (h : w.cells? 0 ⟨β, o, none⟩ n = some cs) : cs.length = n ∧ ∀ j, j < n → c[o + j]? = cs[j]? := by
  simp only [World.cells?, Nat.zero_le, if_true] at h
  have hl := mapM_some_length h
  rw [List.length_range] at hl
  refine ⟨hl, fun j hj => ?_⟩
  have := mapM_some_get h j j (by rw [List.getElem?_range hj])
  rw [← this]
  have hadd : (⟨β, o, none⟩ : Addr).add j = ⟨β, o + j, none⟩ := by
    unfold Addr.add; split
    · rename_i q; subst q; rfl
    · rfl
  rw [hadd]
  simp only [World.cell?, hb]
  simp
theorem flat_get {α : Type} {enc : α → List Value} {z : Nat} : ∀ {l : List α}, (∀ x, x ∈ l → (enc x).length = z) → ∀ {i : Nat} {v : Value}, (l.flatMap enc)[i]? = some v → ∃ a x, l[a]? = some x ∧ a * z ≤ i ∧ i - a * z < z ∧ (enc x)[i - a * z]? = some v
  | [], _, i, v, hv => by simp at hv
  | y :: l, h, i, v, hv => by
    have hy := h y (List.mem_cons_self ..)
    rw [List.flatMap_cons] at hv
    by_cases hi : i < (enc y).length
    · rw [List.getElem?_append_left hi] at hv
      exact ⟨0, y, rfl, by omega, by omega, by simpa using hv⟩
    · rw [List.getElem?_append_right (by omega)] at hv
      obtain ⟨a, x, h1, h2, h3, h4⟩ := flat_get (fun w hw => h w (List.mem_cons_of_mem _ hw)) hv
      refine ⟨a + 1, x, by simpa using h1, by rw [Nat.succ_mul]; omega, by rw [Nat.succ_mul]; omega, ?_⟩
      rw [← h4, Nat.succ_mul]; congr 1; omega
theorem closedL_flat {α : Type} {enc : α → List Value} (h : ∀ a, closedL (enc a) = true) : ∀ l : List α, closedL (l.flatMap enc) = true
  | [] => rfl
  | y :: l => by
    rw [List.flatMap_cons]
    have : ∀ a b, closedL a = true → closedL b = true → closedL (a ++ b) = true := by
      intro a b ha hb
      induction a with
      | nil => exact hb
      | cons x a ih => simp only [closedL, List.cons_append, Bool.and_eq_true] at ha ⊢; exact ⟨ha.1, ih ha.2⟩
    exact this _ _ (h y) (closedL_flat h l)
/-- A slice of elements without any places. -/
structure FlatIn {α : Type} (P : Program) (w : World) (e : TypeId) (enc : α → List Value) (Ok : α → Prop) (z : Nat) (v : Value) (l : List α) : Prop where
  ok : ∀ a, a ∈ l → Ok a
  len : l.length * P.bytesOf e ≤ reachBytes
  is : (v = .slice none 0 0 ∧ l = []) ∨ ∃ β o cap, v = .slice (some ⟨β, o, none⟩) l.length cap ∧ l.length ≤ cap ∧ RoB.Ok w ⟨β, if cap = 0 then 0 else o, l.flatMap enc⟩ ∧
    (∀ c t f, w.heap[β]? = some (.cells c t f) → (if cap = 0 then 0 else o) + cap * z ≤ c.size)
theorem open_flat {α : Type} {t e : TypeId} {z fuel : Nat} {enc : α → List Value} {Ok : α → Prop} {v : Value} {x : DataW Hh × List MemPlace} (ht : P.underlying t = some (.slice e)) (hz : P.cellsOf e = z) (hz0 : 0 < z)
    (dec : Dec P w en e enc Ok) (hlen : ∀ a, (enc a).length = z) (hcl : ∀ a, closedL (enc a) = true) (hok : Cell.okWide P w .any 0 t v ∨ ∃ b, Cell.okWide P w .any b t v)
    (h : DataW.trod en P w 0 (fun _ => true) true fuel t [v] = some x) (hw : WOk P t x.1) : ∃ l, FlatIn P w e enc Ok z v l := by
  rcases Go.Deep.open_slice ht h with ⟨q, _⟩ | ⟨a, len, cap, m, n, D, Pl, q, _, hle, hcap, hm, rfl, hx⟩
  · cases q
    exact ⟨[], fun _ h => absurd h List.not_mem_nil, by simp [reachBytes], .inl ⟨rfl, rfl⟩⟩
  · cases q
    simp only [if_true] at hm
    subst m
    have hhas : ∃ b, w.has P .any b a e cap := by
      rcases hok with hok | ⟨b, hok⟩
      all_goals
        unfold Cell.okWide Cell.ok at hok
        rw [ht] at hok
        exact ⟨_, hok.2.2⟩
    obtain ⟨_, _, hspot, row, cells, hshape, _⟩ := hhas
    obtain ⟨β, o, sp⟩ := a
    simp only at hspot
    subst hspot
    unfold World.shape? at hshape
    split at hshape
    · rename_i c t0 f0 hb
      simp only at hb
      have hadd : ∀ i, (⟨β, o, none⟩ : Addr).add i = ⟨β, o + i, none⟩ := by
        intro i; unfold Addr.add; split
        · rename_i q; subst q; rfl
        · rfl
      have hel : ∀ i, i < cap → ∃ a, (∀ j, j < z → c[o + i * z + j]? = (enc a)[j]?) ∧ (WOk P e (D i) → Ok a) := by
        intro i hi
        obtain ⟨cs', h1, h2⟩ := hx i hi
        obtain ⟨a, rfl, ha⟩ := dec n cs' _ h2
        rw [hz, hadd] at h1
        exact ⟨a, (cells_of hb h1).2, ha⟩
      simp only [WOk, DataW.weights, ht, List.all_cons, List.all_append, Bool.and_eq_true, decide_eq_true_eq] at hw
      obtain ⟨hw1, hw2, _⟩ := hw
      have hwD : ∀ i, i < len → WOk P e (D i) := fun i hi => wok_all hw2 _ (List.mem_map.2 ⟨i, List.mem_range.2 hi, rfl⟩)
      have hl : ∃ l : List α, l.length = len ∧ ∀ i a, l[i]? = some a → (∀ j, j < z → c[o + i * z + j]? = (enc a)[j]?) ∧ Ok a := by
        have : ∀ k, k ≤ len → ∃ l : List α, l.length = k ∧ ∀ i a, l[i]? = some a → (∀ j, j < z → c[o + i * z + j]? = (enc a)[j]?) ∧ Ok a := by
          intro k
          induction k with
          | zero => exact fun _ => ⟨[], rfl, fun i a ha => by simp at ha⟩
          | succ k ih =>
            intro hk
            obtain ⟨l, h1, h2⟩ := ih (by omega)
            obtain ⟨a, h3, h4⟩ := hel k (by omega)
            refine ⟨l ++ [a], by simp [h1], fun i b hb => ?_⟩
            by_cases hi : i < l.length
            · rw [List.getElem?_append_left hi] at hb; exact h2 i b hb
            · have hik := (List.getElem?_eq_some_iff.1 hb).1
              simp only [List.length_append, List.length_singleton] at hik
              have : i = k := by omega
              subst this
              rw [List.getElem?_append_right (by omega), h1, Nat.sub_self] at hb
              simp only [List.getElem?_cons_zero, Option.some.injEq] at hb
              subst hb
              exact ⟨h3, h4 (hwD _ (by omega))⟩
        exact this len (Nat.le_refl _)
      obtain ⟨l, rfl, hl⟩ := hl
      have hsize : cap = 0 ∨ o + cap * z ≤ c.size := by
        rcases Nat.eq_zero_or_pos cap with q | q
        · exact .inl q
        · right
          obtain ⟨a, h1, _⟩ := hel (cap - 1) (by omega)
          have := h1 (z - 1) (by omega)
          rw [List.getElem?_eq_getElem (by rw [hlen]; omega)] at this
          have := (Array.getElem?_eq_some_iff.1 this).1
          have e1 : cap * z = (cap - 1) * z + z := by rw [← Nat.succ_mul]; congr 1; omega
          omega
      have hflen := flat_len (l := l) (z := z) fun a _ => hlen a
      refine ⟨l, fun a ha => ?_, ?_, .inr ⟨β, o, cap, rfl, hle, ⟨⟨c, t0, f0, hb, ?_, ?_⟩, closedL_flat hcl l⟩, ?_⟩⟩
      · obtain ⟨i, hi⟩ := List.getElem?_of_mem ha
        exact (hl i a hi).2
      · refine Nat.le_trans (Nat.mul_le_mul_right _ ?_) hw1
        simp
      · show (if cap = 0 then 0 else o) + (l.flatMap enc).length ≤ c.size
        rw [hflen]
        rcases hsize with q | q
        · rw [if_pos q]
          have : l.length = 0 := by omega
          rw [this]; omega
        · have := Nat.mul_le_mul_right z hle
          split <;> omega
      · intro i v hv
        obtain ⟨a, b, h1, h2, h3, h4⟩ := flat_get (fun a _ => hlen a) hv
        have hlt := (List.getElem?_eq_some_iff.1 h1).1
        have hb2 := hl a b h1
        have hcap : ¬ cap = 0 := by omega
        simp only [if_neg hcap]
        rw [← h4, ← hb2.1 _ h3]
        congr 1; omega
      · intro c' t' f' hb'
        rw [hb] at hb'; cases hb'
        rcases hsize with q | q
        · rw [if_pos q, q]; omega
        · split <;> omega
    · cases hshape
/-- its block among those of the arguments -/
theorem FlatIn.put {α : Type} {e : TypeId} {enc : α → List Value} {Ok : α → Prop} {z : Nat} {v : Value} {l : List α} (h : FlatIn P w e enc Ok z v l) (hlen : ∀ a, (enc a).length = z) :
    ∃ bs : List RoB, (∀ x, x ∈ bs → x.Ok w) ∧ ∀ pre post all, all = pre ++ (bs ++ post) → ∃ av, VRel (roRho w all) av v ∧ Sl (roH all) enc z av l := by
  rcases h.is with ⟨rfl, rfl⟩ | ⟨β, o, cap, rfl, hle, hok, hsz⟩
  · exact ⟨[], fun _ h => absurd h List.not_mem_nil, fun _ _ _ _ => ⟨.slice none 0 0, .sl0 0, Sl.nil⟩⟩
  · refine ⟨[⟨β, if cap = 0 then 0 else o, l.flatMap enc⟩], fun x hx => by rw [List.mem_singleton.1 hx]; exact hok, fun pre post all hall => ?_⟩
    have hx : all[pre.length]? = some ⟨β, if cap = 0 then 0 else o, l.flatMap enc⟩ := by
      rw [hall, List.getElem?_append_right (Nat.le_refl _), Nat.sub_self]; rfl
    refine ⟨_, ro_rel (z := z) hx hok hle hsz ?_, ro_sl hx rfl fun a _ => hlen a⟩
    by_cases q : cap = 0
    · exact .inl q
    · right; simp only [if_neg q]
end Go.SX
