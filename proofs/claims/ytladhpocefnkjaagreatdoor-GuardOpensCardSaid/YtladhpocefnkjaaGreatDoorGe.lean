/-
  Arguments as the form reads them, and the call of GuardOpens; no condition.
-/
import Derived.ProofKit
import Derived.Test.YtladhpocefnkjaaGreatDoorRows
import Derived.Test.YtladhpocefnkjaaGreatDoorTie
import Derived.Test.YtladhpocefnkjaaGreatDoorCards
import Derived.LaidMore
import Derived.OpenShut
import Derived.Stop.Joined
import Derived.SevenTiedAt
import Derived.Test.YtladhpocefnkjaaGreatDoorGd
namespace Go.Proofs.YtladhpocefnkjaaGreatDoor
open Go Go.SX Go.RowKit Go.ChangeShapes Go.WideShapes
theorem c3 : Tryz.prog.cellsOf 3 = 1 := by kernel_rfl
theorem c9 : Tryz.prog.cellsOf 9 = 1 := by kernel_rfl
theorem c24 : Tryz.prog.cellsOf 24 = 3 := by kernel_rfl
theorem c84 : Tryz.prog.cellsOf 84 = 3 := by kernel_rfl
theorem c43 : Tryz.prog.cellsOf 43 = 7 := by kernel_rfl
theorem c28 : Tryz.prog.cellsOf 28 = 5 := by kernel_rfl
theorem c25 : Tryz.prog.cellsOf 25 = 1 := by kernel_rfl
theorem c26 : Tryz.prog.cellsOf 26 = 1 := by kernel_rfl
theorem b9 : Tryz.prog.bytesOf 9 = 16 := by kernel_rfl
theorem b24 : Tryz.prog.bytesOf 24 = 40 := by kernel_rfl
theorem b84 : Tryz.prog.bytesOf 84 = 32 := by kernel_rfl
theorem b43 : Tryz.prog.bytesOf 43 = 88 := by kernel_rfl
variable {w : World} {Hh : Type} {en : TypeId × Value → Hh}
theorem reach_eq : reachBytes = 140737488351232 := rfl
theorem dec_S : Dec Tryz.prog w en 9 encS Fits := by
  intro n cs x h
  obtain ⟨s, rfl, rfl, _⟩ := DataW.trod_string Tryz.underlying9 h
  exact ⟨s, rfl, fun q => by have := wok_string q; rw [reach_eq] at this; exact this⟩
set_option maxRecDepth 100000 in
theorem dec_Priv : Dec Tryz.prog w en 24 encPriv Priv.Fit := by
  intro n cs x h
  obtain ⟨xs, m, _, rfl, hl, hlen, hf⟩ := DataW.trod_struct Tryz.underlying24 h
  rw [c24] at hl
  match cs, hl, xs, hlen with
  | [k0, k1, k2], _, [y0, y1, y2], _ =>
    have h0 := hf 0 _ rfl
    have h1 := hf 1 _ rfl
    have h2 := hf 2 _ rfl
    clear hf
    simp only [c3, c9, List.drop_zero, List.drop_succ_cons, List.take_succ_cons, List.take_zero, List.getElem?_cons_zero, List.getElem?_cons_succ] at h0 h1 h2
    obtain ⟨v, q0, rfl, _⟩ := DataW.trod_int Tryz.underlying3 h0
    obtain ⟨s1, q1, rfl, _⟩ := DataW.trod_string Tryz.underlying9 h1
    obtain ⟨s2, q2, rfl, _⟩ := DataW.trod_string Tryz.underlying9 h2
    cases q0; cases q1; cases q2
    refine ⟨⟨v, s1, s2⟩, rfl, fun q => ⟨?_, ?_⟩⟩
    · have := wok_string (wok_struct Tryz.underlying24 q 1 _ _ rfl rfl); rw [reach_eq] at this; exact this
    · have := wok_string (wok_struct Tryz.underlying24 q 2 _ _ rfl rfl); rw [reach_eq] at this; exact this
set_option maxRecDepth 100000 in
theorem dec_Val : Dec Tryz.prog w en 84 encVal (fun x => Fits x.text) := by
  intro n cs x h
  obtain ⟨xs, m, _, rfl, hl, hlen, hf⟩ := DataW.trod_struct Tryz.underlying84 h
  rw [c84] at hl
  match cs, hl, xs, hlen with
  | [k0, k1, k2], _, [y0, y1, y2], _ =>
    have h0 := hf 0 _ rfl
    have h1 := hf 1 _ rfl
    have h2 := hf 2 _ rfl
    clear hf
    simp only [c3, c9, List.drop_zero, List.drop_succ_cons, List.take_succ_cons, List.take_zero, List.getElem?_cons_zero, List.getElem?_cons_succ] at h0 h1 h2
    obtain ⟨v, q0, rfl, _⟩ := DataW.trod_int Tryz.underlying3 h0
    obtain ⟨s1, q1, rfl, _⟩ := DataW.trod_int Tryz.underlying3 h1
    obtain ⟨s2, q2, rfl, _⟩ := DataW.trod_string Tryz.underlying9 h2
    cases q0; cases q1; cases q2
    refine ⟨⟨v, s1, s2⟩, rfl, fun q => ?_⟩
    have := wok_string (wok_struct Tryz.underlying84 q 2 _ _ rfl rfl); rw [reach_eq] at this; exact this
set_option maxRecDepth 100000 in
theorem dec_Proc : Dec Tryz.prog w en 43 encProc Proc.Fit := by
  intro n cs x h
  obtain ⟨xs, m, _, rfl, hl, hlen, hf⟩ := DataW.trod_struct Tryz.underlying43 h
  rw [c43] at hl
  match cs, hl, xs, hlen with
  | [k0, k1, k2, k3, k4, k5, k6], _, [y0, y1, y2, y3, y4, y5, y6], _ =>
    have h0 := hf 0 _ rfl
    have h1 := hf 1 _ rfl
    have h2 := hf 2 _ rfl
    have h3 := hf 3 _ rfl
    have h4 := hf 4 _ rfl
    have h5 := hf 5 _ rfl
    have h6 := hf 6 _ rfl
    clear hf
    simp only [c3, c9, List.drop_zero, List.drop_succ_cons, List.take_succ_cons, List.take_zero, List.getElem?_cons_zero, List.getElem?_cons_succ] at h0 h1 h2 h3 h4 h5 h6
    obtain ⟨s0, q0, rfl, _⟩ := DataW.trod_string Tryz.underlying9 h0
    obtain ⟨v1, q1, rfl, _⟩ := DataW.trod_int Tryz.underlying3 h1
    obtain ⟨s2, q2, rfl, _⟩ := DataW.trod_string Tryz.underlying9 h2
    obtain ⟨v3, q3, rfl, _⟩ := DataW.trod_int Tryz.underlying3 h3
    obtain ⟨s4, q4, rfl, _⟩ := DataW.trod_string Tryz.underlying9 h4
    obtain ⟨v5, q5, rfl, _⟩ := DataW.trod_int Tryz.underlying3 h5
    obtain ⟨s6, q6, rfl, _⟩ := DataW.trod_string Tryz.underlying9 h6
    cases q0; cases q1; cases q2; cases q3; cases q4; cases q5; cases q6
    refine ⟨⟨s0, v1, s2, v3, s4, v5, s6⟩, rfl, fun q => ⟨?_, ?_, ?_, ?_⟩⟩
    · have := wok_string (wok_struct Tryz.underlying43 q 0 _ _ rfl rfl); rw [reach_eq] at this; exact this
    · have := wok_string (wok_struct Tryz.underlying43 q 2 _ _ rfl rfl); rw [reach_eq] at this; exact this
    · have := wok_string (wok_struct Tryz.underlying43 q 4 _ _ rfl rfl); rw [reach_eq] at this; exact this
    · have := wok_string (wok_struct Tryz.underlying43 q 6 _ _ rfl rfl); rw [reach_eq] at this; exact this
/-- a struct's cells are as the form wants them -/
theorem okRow {P : Program} {r : Reach} {base : Nat} {t : TypeId} {fs : Array Field} {ts : List TypeId} {cs : List Value} (hu : P.underlying t = some (.struct fs)) (hts : P.cellTypes P.depth t = some ts) (h : Value.okWide P w r base t (.agg ⟨cs⟩)) (hlen : cs.length = ts.length) (i : Nat) (u : TypeId) (v : Value)
    (hi : ts[i]? = some u) (hv : cs[i]? = some v) : Cell.okWide P w r base u v := by
  unfold Value.okWide at h
  rw [hu] at h
  obtain ⟨cs', q, _, ts', h1, _, h2⟩ := h
  cases q
  rw [hts] at h1; cases h1
  obtain ⟨u', q1, q2⟩ := h2 i v (by simpa using hv)
  have hlt := (List.getElem?_eq_some_iff.1 hv).1
  rw [Nat.mod_eq_of_lt (by omega), hi] at q1
  cases q1; exact q2
theorem cells_sl {v : Value} {t : TypeId} {P : Program} {base : Nat} {el : TypeId} (hu : P.underlying t = some (.slice el)) (h : Value.okWide P w .any base t v) : v.cells.toList = [v] ∧ Cell.okWide P w .any base t v := by
  have h' : Cell.okWide P w .any base t v := by unfold Value.okWide at h; rw [hu] at h; exact h
  obtain ⟨a, len, cap, rfl⟩ := okWide_slice hu h
  exact ⟨rfl, h'⟩
theorem ts28 : Tryz.prog.cellTypes Tryz.prog.depth 28 = some [3, 9, 25, 26, 25] := by kernel_rfl
/-- what a deed that was handed in looks like -/
structure DeedRaw (w : World) (v : Value) (verb : Int) (on : ByteArray) (n r k : Value) (ln : List ByteArray) (lr : List Val) (lk : List ByteArray) : Prop where
  is : v = .agg ⟨[.int .i64 verb, .string on, n, r, k]⟩
  on : Fits on
  names : FlatIn Tryz.prog w 9 encS Fits 1 n ln
  row : FlatIn Tryz.prog w 84 encVal (fun x => Fits x.text) 3 r lr
  keys : FlatIn Tryz.prog w 9 encS Fits 1 k lk
set_option maxRecDepth 100000 in
theorem open_Deed {v : Value} {d : DataW Hh} {ps : List MemPlace} {base : Nat} (hval : Value.okWide Tryz.prog w .any base 28 v) (h : DataW.Trod en Tryz.prog w 0 (fun _ => true) true 28 v d ps) (hw : WOk Tryz.prog 28 d) :
    ∃ verb on n r k ln lr lk, DeedRaw w v verb on n r k ln lr lk := by
  obtain ⟨⟨cs⟩, rfl, _⟩ := okWide_struct Tryz.underlying28 hval
  obtain ⟨fuel, h⟩ := h
  obtain ⟨xs, m, _, hx, hl, hlen, hf⟩ := DataW.trod_struct Tryz.underlying28 h
  simp only [Prod.mk.injEq] at hx
  obtain ⟨rfl, _⟩ := hx
  rw [c28] at hl
  simp only [Value.cells] at hl hf
  match cs, hl, xs, hlen with
  | [k0, k1, k2, k3, k4], _, [y0, y1, y2, y3, y4], _ =>
    have h0 := hf 0 _ rfl
    have h1 := hf 1 _ rfl
    have h2 := hf 2 _ rfl
    have h3 := hf 3 _ rfl
    have h4 := hf 4 _ rfl
    clear hf
    simp only [c3, c9, c25, c26, List.drop_zero, List.drop_succ_cons, List.take_succ_cons, List.take_zero, List.getElem?_cons_zero, List.getElem?_cons_succ] at h0 h1 h2 h3 h4
    obtain ⟨verb, q0, rfl, _⟩ := DataW.trod_int Tryz.underlying3 h0
    obtain ⟨on, q1, rfl, _⟩ := DataW.trod_string Tryz.underlying9 h1
    cases q0; cases q1
    have hok := okRow Tryz.underlying28 ts28 hval rfl
    obtain ⟨ln, hn⟩ := open_flat (z := 1) Tryz.underlying25 c9 (by decide) dec_S (fun _ => rfl) (fun _ => rfl) (.inr ⟨_, hok 2 _ _ rfl rfl⟩) h2 (wok_struct Tryz.underlying28 hw 2 _ _ rfl rfl)
    obtain ⟨lr, hr⟩ := open_flat (z := 3) Tryz.underlying26 c84 (by decide) dec_Val (fun _ => rfl) (fun _ => rfl) (.inr ⟨_, hok 3 _ _ rfl rfl⟩) h3 (wok_struct Tryz.underlying28 hw 3 _ _ rfl rfl)
    obtain ⟨lk, hk⟩ := open_flat (z := 1) Tryz.underlying25 c9 (by decide) dec_S (fun _ => rfl) (fun _ => rfl) (.inr ⟨_, hok 4 _ _ rfl rfl⟩) h4 (wok_struct Tryz.underlying28 hw 4 _ _ rfl rfl)
    refine ⟨verb, on, k2, k3, k4, ln, lr, lk, rfl, ?_, hn, hr, hk⟩
    have := wok_string (wok_struct Tryz.underlying28 hw 1 _ _ rfl rfl); rw [reach_eq] at this; exact this
set_option maxRecDepth 100000 in
theorem open_Priv1 {v : Value} {d : DataW Hh} {ps : List MemPlace} {base : Nat} (hval : Value.okWide Tryz.prog w .any base 24 v) (h : DataW.Trod en Tryz.prog w 0 (fun _ => true) true 24 v d ps) (hw : WOk Tryz.prog 24 d) : ∃ p : Priv, v = .agg ⟨encPriv p⟩ ∧ p.Fit := by
  obtain ⟨⟨cs⟩, rfl, _⟩ := okWide_struct Tryz.underlying24 hval
  obtain ⟨fuel, h⟩ := h
  obtain ⟨p, q, hp⟩ := dec_Priv fuel _ _ h
  simp only [Value.cells] at q
  exact ⟨p, by rw [q], hp hw⟩
set_option maxRecDepth 100000 in
theorem open_String {v : Value} {d : DataW Hh} {ps : List MemPlace} {base : Nat} (hval : Value.okWide Tryz.prog w .any base 9 v) (h : DataW.Trod en Tryz.prog w 0 (fun _ => true) true 9 v d ps) (hw : WOk Tryz.prog 9 d) : ∃ s : ByteArray, v = .string s ∧ Fits s := by
  obtain ⟨s, rfl⟩ := okWide_string Tryz.underlying9 hval
  obtain ⟨fuel, h⟩ := h
  obtain ⟨p, q, hp⟩ := dec_S fuel _ _ h
  simp only [Value.cells, encS, List.cons.injEq, Value.string.injEq, and_true] at q
  subst q
  exact ⟨_, rfl, hp hw⟩
set_option maxRecDepth 100000 in
theorem open_Privs {v : Value} {d : DataW Hh} {ps : List MemPlace} {base : Nat} (hval : Value.okWide Tryz.prog w .any base 22 v) (h : DataW.Trod en Tryz.prog w 0 (fun _ => true) true 22 v d ps) (hw : WOk Tryz.prog 22 d) : ∃ l, FlatIn Tryz.prog w 24 encPriv Priv.Fit 3 v l := by
  obtain ⟨q, hc⟩ := cells_sl Tryz.underlying22 hval
  obtain ⟨fuel, h⟩ := h
  rw [q] at h
  exact open_flat (z := 3) Tryz.underlying22 c24 (by decide) dec_Priv (fun _ => rfl) (fun _ => rfl) (.inr ⟨_, hc⟩) h hw
end Go.Proofs.YtladhpocefnkjaaGreatDoor
namespace Go.Proofs.YtladhpocefnkjaaGreatDoor
open Go Go.SX Go.RowKit Go.ChangeShapes Go.WideShapes Go.ChangeAt
theorem own : ownKnob Tryz.prog.godebug = none := by kernel_rfl
theorem laidOut : laidOutB Tryz.prog = true := by kernel_rfl
abbrev laid5 : List (String × DataW Unit) := Rows.guardOpensRow.laid
theorem door_met (os : Os) (args : Array Value) : laidMetH Tryz.prog laid5 ((World.doorLaid Tryz.prog 400 os).forCall (fun _ _ => 0) ⟨#[], args, []⟩).memory :=
  laidMetH_of_parts3 (fuel := 8) (laidMet_of_run' 8 (by kernel_rfl) (by kernel_rfl)) (by kernel_rfl) (by kernel_rfl)
/-- the walk, from the world's own values -/
theorem opens_calls {W : World} {lv one dv kv : Value} {l : List Priv} {p : Priv} {key : ByteArray} {verb : Int} {on : ByteArray} {n r k : Value} {ln : List ByteArray} {lr : List Val} {lk : List ByteArray}
    (hl : FlatIn Tryz.prog W 24 encPriv Priv.Fit 3 lv l) (hone : one = .agg ⟨encPriv p⟩) (fone : p.Fit) (hd : DeedRaw W dv verb on n r k ln lr lk) (hkey : kv = .string key) (fkey : Fits key) :
    Calls Tryz.prog 3 #[lv, one, dv, kv] W fun e w' => e = .returned (.bool true) ∧ Below W.heap.size W w' := by
  subst hone hkey
  obtain ⟨rfl, fon, hn, hr, hk⟩ := hd
  obtain ⟨bL, okL, pL⟩ := hl.put (fun _ => rfl)
  obtain ⟨bN, okN, pN⟩ := hn.put (fun _ => rfl)
  obtain ⟨bR, okR, pR⟩ := hr.put (fun _ => rfl)
  obtain ⟨bK, okK, pK⟩ := hk.put (fun _ => rfl)
  obtain ⟨aL, rL, sL⟩ := pL [] (bN ++ (bR ++ bK)) (bL ++ (bN ++ (bR ++ bK))) rfl
  obtain ⟨aN, rN, sN⟩ := pN bL (bR ++ bK) (bL ++ (bN ++ (bR ++ bK))) rfl
  obtain ⟨aR, rR, sR⟩ := pR (bL ++ bN) bK (bL ++ (bN ++ (bR ++ bK))) (by simp)
  obtain ⟨aK, rK, sK⟩ := pK (bL ++ (bN ++ bR)) [] (bL ++ (bN ++ (bR ++ bK))) (by simp)
  have hall : ∀ x, x ∈ bL ++ (bN ++ (bR ++ bK)) → x.Ok W := by
    intro x hx
    simp only [List.mem_append] at hx
    rcases hx with q | q | q | q
    · exact okL x q
    · exact okN x q
    · exact okR x q
    · exact okK x q
  generalize bL ++ (bN ++ (bR ++ bK)) = bs at *
  have hi := ro_inv hall
  have lL := hl.len
  have lN := hn.len
  have lR := hr.len
  have lK := hk.len
  rw [b24, reach_eq] at lL
  rw [b9, reach_eq] at lN lK
  rw [b84, reach_eq] at lR
  have hdeed : DeedIn (roH bs) ⟨verb, on, aN, aR, aK, ln, lr, lk⟩ := { names := sN, row := sR, keys := sK, nn := by simp only; omega, nr := by simp only; omega, nk := by simp only; omega, fo := fon, fn := hn.ok }
  refine calls_W (args := [aL, .agg ⟨encPriv p⟩, .agg ⟨[.int .i64 verb, .string on, aN, aR, aK]⟩, .string key]) env_ok FuncT.h rfl hi ?_ ?_
  · refine .cons rL (.cons (closedV_rel _ _ rfl) (.cons (.agg (.cons (.int _ _) (.cons (.string _) (.cons rN (.cons rR (.cons rK .nil)))))) (.cons (.string _) .nil)))
  · intro c ys hlv
    have e1 := opens_fn awake_fn l aL p ⟨verb, on, aN, aR, aK, ln, lr, lk⟩ key (roH bs) sL lL hl.ok fone hdeed hk.ok fkey c ys hlv
    rw [← argsL_eq] at e1
    exact e1
end Go.Proofs.YtladhpocefnkjaaGreatDoor
