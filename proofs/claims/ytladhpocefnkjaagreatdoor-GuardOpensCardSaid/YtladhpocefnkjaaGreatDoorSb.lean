/-
  Each operation of the executor is sound; no condition.
-/
import Derived.Lib.Bytealg
import Derived.KernelRfl
import Derived.Lib.ConvBytes
import Derived.Laws.BytesString
import Derived.Orders
import Derived.Test.YtladhpocefnkjaaGreatDoorSa
namespace Go.SX
open Go.RowKit
variable {e : E} {ρ ρ' : Rho} {h h' : H} {w0 w w' : World} {P : Program} {tm : T Value} {a : Act}
theorem lenA_rel {x x' : Value} {m : Nat} (hl : lenA x = some m) (hx : VRel ρ x x') : (Builtin.lenOf x').run P w = .ok m w := by
  cases hx <;> simp only [lenA] at hl <;> first
    | (cases hl; done)
    | (simp only [Option.some.injEq] at hl; subst hl; simp [Builtin.lenOf]; done)
    | (simp only [Option.some.injEq, llen_eq] at hl; subst hl; simp [Builtin.lenOf, Lib.size_eq])
theorem addr_add (β o n : Nat) : (⟨β, o, none⟩ : Addr).add n = ⟨β, o + n, none⟩ := by
  unfold Addr.add; split
  · rename_i e; subst e; rfl
  · rfl
theorem firstCells_rel (hi : Inv ρ h w0 w) {z m n : Nat} {x x' : Value} {new : List Value} (hl : lenA x = some n) (hm : m ≤ n) (hf : firstCells h z m x = some new) (hx : VRel ρ x x') :
    ∃ cs, (Builtin.firstCells z m x').run P w = .ok ⟨cs⟩ w ∧ VRels ρ new cs ∧ new.length = m * z := by
  cases hx <;> simp only [firstCells, lenA] at hf hl <;> try (cases hf; done)
  · rename_i s
    simp only [llen_eq] at hf hl
    cases hb : (Nat.beq z 1 && Nat.beq m s.data.toList.length) with
    | false => rw [hb] at hf; cases hf
    | true =>
      rw [hb] at hf
      simp only [cond_true, Option.some.injEq] at hf
      subst hf
      rw [Bool.and_eq_true] at hb
      have e1 := Nat.eq_of_beq_eq_true hb.1
      have e2 := Nat.eq_of_beq_eq_true hb.2
      subst e1
      have e3 : s.extract 0 m = s := by
        rw [Lib.extract_eq, e2]
        simp only [List.drop_zero, Nat.sub_zero, List.take_length]
      refine ⟨(s.data.map fun b => Value.int .u8 b.toNat).toList, ?_, bytes_rel s, by simp [e2]⟩
      simp only [Builtin.firstCells, e3]; rfl
  · rename_i c
    simp only [Option.some.injEq] at hf hl; subst hf hl
    have : m = 0 := Nat.le_zero.1 hm
    subst this
    exact ⟨[], by simp [Builtin.firstCells], .nil, by simp⟩
  · rename_i r β d o o' zz nn c cap hι hn hlo he hs ha
    simp only [Option.some.injEq] at hl; subst hl
    obtain ⟨cs, h1, h2, h3⟩ := hi.load hf hι
    refine ⟨cs, ?_, h1, by rw [h1.length, h2]⟩
    by_cases h0 : m * z = 0
    · have : cs = [] := List.length_eq_zero_iff.1 (by omega)
      subst this
      simp [Builtin.firstCells, h0, loadCells, loadCellsFrom]
    · have hcap : cap ≠ 0 := by
        intro hc; have : m = 0 := by omega
        rw [this, Nat.zero_mul] at h0; exact h0 rfl
      have ho := ha.resolve_left hcap
      subst ho
      simp only [Builtin.firstCells]
      exact run_loadCells (P := P) h2 h3
theorem nextcap_le {need cap : Nat} (h : cap < need) : Builtin.nextslicecap need cap ≤ 2 * need + 192 := by
  have g0 : ∀ n c, Builtin.growBy n 0 c = c := fun _ _ => rfl
  have gs : ∀ n r c, Builtin.growBy n (r + 1) c = if c ≥ n then c else Builtin.growBy n r (c + (c + 768) / 4) := fun _ _ _ => rfl
  have hg : ∀ r c, c ≤ 2 * need + 192 → Builtin.growBy need r c ≤ 2 * need + 192 := by
    intro r
    induction r with
    | zero => intro c hc; rw [g0]; exact hc
    | succ r ih =>
      intro c hc
      rw [gs]
      split
      · exact hc
      · exact ih _ (by omega)
  unfold Builtin.nextslicecap
  split
  · omega
  · split
    · omega
    · exact hg _ _ (by omega)
theorem cut_ge (need old : Nat) (el : TypeId) (t : Nat) : need ≤ (Question.appendCap need old el).cut t := by
  simp [Question.cut]
theorem r_append_room {st xt ty el : TypeId} {dx : TypeDesc} {i : TypeInfo} {base : Option Addr} {n cap m : Nat} {x' : Value} {cs : List Value} (hus : P.underlying st = some (.slice el)) (hxt : P.underlying xt = some dx)
    (_hni : ∀ k, dx ≠ .int k) (hinf : P.info? el = some i) (hlo : (Builtin.lenOf x').run P w = .ok m w) (hle : n + m ≤ cap) (hr : (Builtin.firstCells i.size m x').run P w = .ok ⟨cs⟩ w) :
    (Builtin.append_ #[st, xt] ty #[.slice base n cap, x']).run P w = (match base with
      | some a => (storeCells (a.add (n * i.size)) cs).run P w
      | none => .ok () w).andThen fun _ w' => .ok (.slice base (n + m) cap) w' := by
  cases base with
  | none =>
    simp [Builtin.append_, r_underlying hus, r_underlying hxt, r_sizeOf hinf, hlo, hle, hr]
  | some b =>
    simp [Builtin.append_, r_underlying hus, r_underlying hxt, r_sizeOf hinf, hlo, hle, hr]
theorem r_append_grow {st xt ty el : TypeId} {dx : TypeDesc} {i : TypeInfo} {zv : Value} {base : Option Addr} {n cap m : Nat} {x' : Value} {os cs : List Value} (hus : P.underlying st = some (.slice el)) (hxt : P.underlying xt = some dx)
    (_hni : ∀ k, dx ≠ .int k) (hinf : P.info? el = some i) (hzv : i.zero = some zv) (hlo : (Builtin.lenOf x').run P w = .ok m w) (hgt : ¬ n + m ≤ cap) (hsm : n + m ≤ 4611686018427387904) (hby : (2 * (n + m) + 192) * i.bytes ≤ 281474976710656)
    (ho : (Builtin.firstCells i.size n (.slice base n cap)).run P w.drew = .ok ⟨os⟩ w.drew) (hr : (Builtin.firstCells i.size m x').run P w.drew = .ok ⟨cs⟩ w.drew) :
    ∃ N, n + m ≤ N ∧ (Builtin.append_ #[st, xt] ty #[.slice base n cap, x']).run P w =
      .ok (.slice (some ⟨w.heap.size, 0, none⟩) (n + m) N) (w.drew.alloc (.cells (⟨os⟩ ++ ⟨cs⟩ ++ Builtin.zeroCells zv.cells (N - (n + m))) el)) := by
  have hncap := nextcap_le (need := n + m) (cap := cap) (by omega)
  have hno : ¬ (Builtin.nextslicecap (n + m) cap * i.bytes > 2 ^ 48) := by
    have := Nat.mul_le_mul_right i.bytes hncap
    omega
  have hmx : IntKind.i64.max = 9223372036854775807 := by decide
  have hno2 : ¬ (((n + m : Nat) : Int) > IntKind.i64.max ∧ (False ∨ i.bytes = 0)) := by
    rw [hmx]; omega
  have hge := cut_ge (n + m) cap el (w.tape w.drawn (.appendCap (n + m) cap el))
  refine ⟨_, hge, ?_⟩
  have hforced : (Question.appendCap (n + m) cap el).forced = false := rfl
  simp only [Builtin.append_, List.getElem?_toArray, List.getElem?_cons_zero, List.getElem?_cons_succ, Sem.run_bind, r_underlying hus, r_underlying hxt, Result.andThen_ok, r_sizeOf hinf, Sem.run_pure, hlo, Bool.false_eq_true, if_false, hgt,
    Sem.run_ite, r_typeInfo hinf, hno, run_choose, hforced, run_askRoom]
  simp only [World.drew_eq, ho, hr, Result.andThen_ok, r_zeroValue hinf hzv, Bool.not_false, if_true, Sem.run_bind, newRow, run_newObj, Sem.run_pure, World.size_drew, World.alloc_eq]
  rw [if_neg hno2]
theorem small_info (hE : EnvOk e P) {el : TypeId} {n : Nat} (hs : small e el n = true) : ∃ i zv, P.info? el = some i ∧ i.zero = some zv ∧ n ≤ 4611686018427387904 ∧ (2 * n + 192) * i.bytes ≤ 281474976710656 ∧ zv.cells.size = i.size := by
  unfold small at hs
  cases hin : e.info el with
  | none => simp [hin] at hs
  | some i =>
    simp only [hin, Bool.and_eq_true] at hs
    obtain ⟨⟨q1, q2⟩, q3⟩ := hs
    cases hzo : i.zero with
    | none => simp [hzo] at q3
    | some zv =>
      simp only [hzo, Bool.and_eq_true] at q3
      have hzs := Nat.eq_of_beq_eq_true q3.2
      exact ⟨i, zv, hE.ty _ _ hin, hzo, Nat.le_of_ble_eq_true q1, Nat.le_of_ble_eq_true q2, by rw [← hzs, llen_eq, vcells_eq]; simp⟩
theorem capU_lo (n : Nat) : capLo (capU n) = n ∧ capExact (capU n) = false := by
  unfold capLo capU capExact
  refine ⟨by omega, ?_⟩
  rw [show 2 * n % 2 = 0 by omega]; rfl
theorem zeroCells_size (z : Array Value) (n : Nat) : (Builtin.zeroCells z n).size = n * z.size := by simp [Builtin.zeroCells]
theorem append_rel (hE : EnvOk e P) (hi : Inv ρ h w0 w) {st xt ty : TypeId} {dx : TypeDesc} {s x s' x' v : Value} (hx : xappend e h st s x = some (v, h')) (h1 : VRel ρ s s') (h2 : VRel ρ x x')
    (hxt : P.underlying xt = some dx) (hni : ∀ k, dx ≠ .int k) :
    ∃ ρ' w' v', ρ.Ext h.n ρ' h'.n ∧ (Builtin.append_ #[st, xt] ty #[s', x']).run P w = .ok v' w' ∧ VRel ρ' v v' ∧ Inv ρ' h' w0 w' := by
  unfold xappend at hx
  cases hu : e.under st with
  | none => simp [hu] at hx
  | some d =>
    simp only [hu] at hx
    cases d <;> simp only at hx <;> try (cases hx; done)
    rename_i el
    have hus := hE.under hu
    cases hz : sizeOf e el with
    | none => simp [hz] at hx
    | some z =>
      cases hm : lenA x with
      | none => simp [hz, hm] at hx
      | some m =>
        simp only [hz, hm] at hx
        cases hf : firstCells h z m x with
        | none => simp [hf] at hx
        | some new =>
          simp only [hf] at hx
          have hlo := lenA_rel (P := P) (w := w) hm h2
          obtain ⟨cs, hr, hcs, hcl⟩ := firstCells_rel (P := P) hi hm (Nat.le_refl _) hf h2
          obtain ⟨cs2, hr2, hcs2, _⟩ := firstCells_rel (P := P) hi.drew hm (Nat.le_refl _) hf h2
          cases h1 <;> simp only at hx <;> try (cases hx; done)
          · -- onto nil
            rename_i c
            cases hsm : small e el (0 + m) with
            | false => rw [hsm] at hx; cases hx
            | true =>
              simp only [hsm, Bool.not_true, cond_false, bif_beq] at hx
              obtain ⟨i, zv, hinf, hzv, hn6, hb6, hzs⟩ := small_info hE hsm
              have hiz : i.size = z := by obtain ⟨i2, hi2, e2⟩ := sizeOf_info hE hz; rw [hinf] at hi2; cases hi2; exact e2
              subst hiz
              by_cases hm0 : m = 0
              · rw [if_pos hm0] at hx
                simp only [Option.some.injEq, Prod.mk.injEq] at hx
                obtain ⟨rfl, rfl⟩ := hx
                subst hm0
                refine ⟨ρ, w, .slice none 0 0, .refl _, ?_, .sl0 _, hi⟩
                rw [r_append_room hus hxt hni hinf hlo (by omega) hr]; rfl
              · rw [if_neg hm0] at hx
                simp only [Option.some.injEq, Prod.mk.injEq] at hx
                obtain ⟨rfl, rfl⟩ := hx
                obtain ⟨N, hN, hrun⟩ := r_append_grow (P := P) (w := w) (ty := ty) (base := none) (n := 0) (cap := 0) (os := []) hus hxt hni hinf hzv hlo (by omega) (by omega) hb6 (by simp [Builtin.firstCells]) hr2
                obtain ⟨row, hrow⟩ : ∃ row : Array Value, row = (⟨[]⟩ ++ ⟨cs2⟩ ++ Builtin.zeroCells zv.cells (N - (0 + m))) := ⟨_, rfl⟩
                rw [← hrow] at hrun
                have hrl : row.toList = cs2 ++ (Builtin.zeroCells zv.cells (N - (0 + m))).toList := by rw [hrow]; simp
                have hrs : row.size = N * i.size := by
                  have e1 : row.size = row.toList.length := by simp
                  rw [e1, hrl, List.length_append, ← hcs2.length, hcl]
                  have e2 : (Builtin.zeroCells zv.cells (N - (0 + m))).toList.length = (N - (0 + m)) * i.size := by rw [Array.length_toList, zeroCells_size, hzs]
                  rw [e2, ← Nat.add_mul]; congr 1; omega
                have hle := Rho.le_add (d := 0) (n := row.size) (hi.unmapped (Nat.le_refl h.n)) (fun s b e hs => Nat.ne_of_lt (hi.drew.hi hs))
                obtain ⟨hinv, hle2⟩ := hi.drew.new (row_new (t := el) hcs2 hrl hle)
                refine ⟨_, _, .slice (some ⟨w.heap.size, 0, none⟩) (0 + m) N, Rho.ext_add hle2, hrun, ?_, hinv⟩
                rw [Nat.zero_add]
                exact .sl add_ι (by omega) (by rw [(capU_lo m).1]; omega) (by rw [(capU_lo m).2]; intro hh; cases hh) (by show _ ≤ (ρ.add h.n w.heap.size 0 row.size).sz w.heap.size; rw [add_sz, hrs]; omega) (.inr rfl)
          · -- onto a slice
            rename_i r β dd o o' zz n c cap hι hn hlo2 he hs ha
            cases hsm : small e el (n + m) with
            | false => rw [hsm] at hx; cases hx
            | true =>
              simp only [hsm, Bool.not_true, cond_false] at hx
              obtain ⟨i, zv, hinf, hzv, hn6, hb6, hzs⟩ := small_info hE hsm
              have hiz : i.size = z := by obtain ⟨i2, hi2, e2⟩ := sizeOf_info hE hz; rw [hinf] at hi2; cases hi2; exact e2
              subst hiz
              cases hzb : Nat.beq i.size zz with
              | false => simp [hzb] at hx
              | true =>
                have hzz := Nat.eq_of_beq_eq_true hzb
                subst hzz
                simp only [hzb, Bool.not_true, cond_false] at hx
                cases hroom : Nat.ble (n + m) (capLo c) with
                | true =>
                  -- there is room for certain
                  simp only [hroom, cond_true] at hx
                  have hle := Nat.le_of_ble_eq_true hroom
                  cases hst : h.storeAt r (o + n * i.size) new with
                  | none => simp [hst] at hx
                  | some h2' =>
                    simp only [hst, Option.some.injEq, Prod.mk.injEq] at hx
                    obtain ⟨rfl, rfl⟩ := hx
                    obtain ⟨w', hrun, hinv⟩ := hi.store (P := P) hst hι hcs
                    refine ⟨ρ, w', .slice (some ⟨β, o', none⟩) (n + m) cap, .of_eq ρ (by obtain ⟨_, _, _, _, _, _, hn, _⟩ := storeAt_form hst; exact hn), ?_, .sl hι (by omega) hlo2 he hs ha, hinv⟩
                    rw [r_append_room hus hxt hni hinf hlo (by omega) hr]
                    by_cases hcap0 : cap = 0
                    · have hm0 : m = 0 := by omega
                      have hcs0 : cs = [] := List.length_eq_zero_iff.1 (by rw [← hcs.length, hcl, hm0, Nat.zero_mul])
                      subst hcs0
                      simp only [storeCells, Sem.run_pure] at hrun ⊢
                      cases hrun
                      rfl
                    · have hoo := ha.resolve_left hcap0
                      subst hoo
                      simp only [addr_add]
                      rw [show dd + o + n * i.size = dd + (o + n * i.size) by omega, hrun]
                      rfl
                | false =>
                  simp only [hroom, cond_false] at hx
                  cases hld : h.loadAt r o (n * i.size) with
                  | none => simp [hld] at hx
                  | some old =>
                    simp only [hld] at hx
                    cases hone : allOne new with
                    | false => simp [hone] at hx
                    | true =>
                    simp only [hone, Bool.not_true, cond_false] at hx
                    have hbase : VRel ρ (.slice (some ⟨r, o, some i.size⟩) n c) (.slice (some ⟨β, o', none⟩) n cap) := .sl hι hn hlo2 he hs ha
                    obtain ⟨os, hro, hos, hol⟩ := firstCells_rel (P := P) (x := .slice (some ⟨r, o, some i.size⟩) n c) hi.drew (n := n) rfl (Nat.le_refl _) hld hbase
                    -- it grows
                    have grows : ¬ n + m ≤ cap → ∃ N row, n + m ≤ N ∧ (Builtin.append_ #[st, xt] ty #[.slice (some ⟨β, o', none⟩) n cap, x']).run P w = .ok (.slice (some ⟨w.heap.size, 0, none⟩) (n + m) N) (w.drew.alloc (.cells row el)) ∧
                        row.toList = (os ++ cs2) ++ (Builtin.zeroCells zv.cells (N - (n + m))).toList ∧ row.size = N * i.size := by
                      intro hgt
                      obtain ⟨N, hN, hrun⟩ := r_append_grow (P := P) (w := w) (ty := ty) hus hxt hni hinf hzv hlo hgt hn6 hb6 hro hr2
                      refine ⟨N, _, hN, hrun, by simp, ?_⟩
                      simp only [Array.size_append, zeroCells_size, hzs]
                      have e1 : (⟨os⟩ : Array Value).size = n * i.size := by show os.length = _; rw [← hos.length, hol]
                      have e2 : (⟨cs2⟩ : Array Value).size = m * i.size := by show cs2.length = _; rw [← hcs2.length, hcl]
                      rw [e1, e2, ← Nat.add_mul, ← Nat.add_mul]; congr 1; omega
                    cases hex : capExact c with
                    | true =>
                      simp only [hex, cond_true, Option.some.injEq, Prod.mk.injEq, lapp_eq] at hx
                      obtain ⟨rfl, rfl⟩ := hx
                      have hce := he hex
                      have hgt : ¬ n + m ≤ cap := by
                        intro hle
                        have : Nat.ble (n + m) (capLo c) = true := Nat.ble_eq_true_of_le (by omega)
                        rw [hroom] at this; cases this
                      obtain ⟨N, row, hN, hrun, hrl, hrs⟩ := grows hgt
                      have hle := Rho.le_add (d := 0) (n := row.size) (hi.unmapped (Nat.le_refl h.n)) (fun s b e hs => Nat.ne_of_lt (hi.drew.hi hs))
                      obtain ⟨hinv, hle2⟩ := hi.drew.new (row_new (t := el) (hos.append hcs2) hrl hle)
                      refine ⟨_, _, _, Rho.ext_add hle2, hrun, ?_, hinv⟩
                      exact .sl add_ι (by omega) (by rw [(capU_lo _).1]; omega) (by rw [(capU_lo _).2]; intro hh; cases hh) (by show _ ≤ (ρ.add h.n w.heap.size 0 row.size).sz w.heap.size; rw [add_sz, hrs]; omega) (.inr rfl)
                    | false =>
                      simp only [hex, cond_false] at hx
                      cases hk : h.b.get r with
                      | none => simp [hk] at hx
                      | some k =>
                        simp only [hk] at hx
                        cases hob : k.obj <;> simp only [hob] at hx <;> try (cases hx; done)
                        rename_i xs
                        simp only [Option.some.injEq, Prod.mk.injEq, lapp_eq] at hx
                        obtain ⟨rfl, rfl⟩ := hx
                        have hcc : isCells k.obj = true := by rw [hob]; rfl
                        have hnew : ρ.ι h.n = none := hi.unmapped (Nat.le_refl _)
                        have hnget : (h.grow r k o (n * i.size) (old ++ new)).b.get h.n = some ⟨.cells (old ++ new), k.grp, k.co + o⟩ := by simp [H.grow, T.get_set]
                        by_cases hgt : n + m ≤ cap
                        · -- it was written in place
                          by_cases hcap0 : cap = 0
                          · exfalso
                            have : Nat.ble (n + m) (capLo c) = true := Nat.ble_eq_true_of_le (by omega)
                            rw [hroom] at this; cases this
                          · have hoo := ha.resolve_left hcap0
                            subst hoo
                            have hobj := hi.obj _ _ _ _ hι hk
                            rw [hob] at hobj
                            obtain ⟨c0, t0, f0, hb, hsz, hfr, hca⟩ := hobj
                            have hβ := hi.lo _ _ _ _ hι hk (by rw [hob]; rfl)
                            have hm1 : cap * i.size = (n + m) * i.size + (cap - (n + m)) * i.size := by rw [← Nat.add_mul]; congr 1; omega
                            have hm2 : (n + m) * i.size = n * i.size + m * i.size := Nat.add_mul _ _ _
                            have hcsl : cs.length = m * i.size := by rw [← hcs.length, hcl]
                            obtain ⟨w', c', hrun, hb', hs', hc', ht⟩ := run_storeCells (P := P) β (dd + o + n * i.size) cs 0 w c0 t0 f0 hb (by rw [hcsl, hsz]; omega) hfr (hcs.one hone)
                            have hg := hi.grow (cells := old ++ new) (off := o) (len := n * i.size) hk hcc
                            have hsp : Inv ρ (h.grow r k o (n * i.size) (old ++ new)) w0 w' := by
                              refine hg.spill hβ ht hb hb' hs' (pos := dd + o + n * i.size) (fun j hj => ?_) ?_
                              · rw [hc' j, if_neg (by omega)]
                              · intro s d k' hs hk'
                                rcases grow_case hk' with ⟨rfl, _⟩ | ⟨_, k0, hk0, _, _, hob'⟩
                                · rw [hnew] at hs; cases hs
                                · rcases hob' with ⟨e1, hnot⟩ | ⟨e1, _⟩
                                  · by_cases hsr : s = r
                                    · subst hsr
                                      rw [hk] at hk0; cases hk0
                                      rw [hι] at hs; cases hs
                                      refine .inr ⟨xs, by rw [e1, hob], ?_⟩
                                      have hmem := hi.memSelf hk hcc
                                      have hnb : beyond k (k.co + o + n * i.size) = false := by
                                        cases e2 : beyond k (k.co + o + n * i.size) with
                                        | false => rfl
                                        | true => exact absurd ⟨hmem, e2⟩ hnot
                                      unfold beyond at hnb
                                      simp only [hob, llen_eq, Bool.not_eq_false'] at hnb
                                      have := Nat.le_of_ble_eq_true hnb
                                      omega
                                    · obtain ⟨q1, q2⟩ := hi.kin hι hs hk hk0 hcc hsr
                                      rcases q1 with q1 | q1
                                      · obtain ⟨ms, hms, hmem⟩ := q2 q1
                                        obtain ⟨ys, hys⟩ : ∃ ys, k0.obj = .cells ys := by cases e0 : k0.obj <;> simp_all [isCells]
                                        refine .inr ⟨ys, by rw [e1, hys], ?_⟩
                                        have hmem' : s ∈ members h r k.grp := by unfold members; rw [hms]; exact hmem
                                        have hnb : beyond k0 (k.co + o + n * i.size) = false := by
                                          cases e2 : beyond k0 (k.co + o + n * i.size) with
                                          | false => rfl
                                          | true => exact absurd ⟨hmem', e2⟩ hnot
                                        unfold beyond at hnb
                                        simp only [hys, llen_eq, Bool.not_eq_false'] at hnb
                                        have := Nat.le_of_ble_eq_true hnb
                                        have hsame := (hi.same _ _ _ _ _ _ _ hι hs hk hk0).2
                                        omega
                                      · exact .inl (by rw [e1, q1])
                                  · exact .inl e1
                            -- the old elements, as they lie in the new world
                            obtain ⟨k1, xs1, hk1, ho1, hle1, hold⟩ := loadAt_row hld
                            rw [hk] at hk1; cases hk1
                            rw [hob] at ho1
                            have exs : xs = xs1 := by rcases ho1 with e0 | e0 <;> cases e0; rfl
                            subst exs
                            obtain ⟨r1, r2⟩ := hsp.also (s := h.n) (r := r) (β := β) (d := dd + o) (dr := dd) hnget hnew hι (kr := ⟨(if r ∈ members h r k.grp ∧ beyond k (k.co + o + n * i.size) = true then AObj.dead else k.obj), k.grp, k.co⟩)
                              (by
                                have hrn : r ≠ h.n := Nat.ne_of_lt (hi.fresh _ _ hk).1
                                simp only [H.grow, T.get_set, get_killFrom, if_neg hrn, hk, Option.map_some]
                                split <;> rfl)
                              (by
                                show isRo (if _ then AObj.dead else k.obj) = false
                                split
                                · rfl
                                · rw [hob]; rfl) rfl (by show dd + o + k.co = dd + (k.co + o); omega)
                              (by
                                refine ⟨c', t0, f0, hb', by show c'.size = ρ.sz β; rw [hs', hsz], by rw [hs']; exact hfr, ?_, ?_⟩
                                · simp only [List.length_append, hcl, hs', hsz]
                                  have : old.length = n * i.size := hol
                                  omega
                                · intro j vj hj
                                  by_cases hjl : j < n * i.size
                                  · rw [List.getElem?_append_left (by rw [show old.length = n * i.size from hol]; exact hjl)] at hj
                                    have hj2 : xs[o + j]? = some vj := by
                                      rw [hold, List.getElem?_take, if_pos hjl, List.getElem?_drop] at hj
                                      exact hj
                                    obtain ⟨vj', q1, q2⟩ := hca.2 _ _ hj2
                                    refine ⟨vj', ?_, q2.mono (Rho.le_also hnew)⟩
                                    rw [hc', if_neg (by omega), ← q1]; congr 1; omega
                                  · rw [List.getElem?_append_right (by rw [show old.length = n * i.size from hol]; omega)] at hj
                                    rw [show old.length = n * i.size from hol] at hj
                                    obtain ⟨vj', q1, q2⟩ := hcs.get hj
                                    refine ⟨vj', ?_, q2.mono (Rho.le_also hnew)⟩
                                    have hjlt := (List.getElem?_eq_some_iff.1 q1).1
                                    rw [hc', if_pos (by omega), ← q1]; congr 1; omega)
                            refine ⟨_, w', .slice (some ⟨β, dd + o, none⟩) (n + m) cap, Rho.ext_also r2, ?_, ?_, r1⟩
                            · rw [r_append_room hus hxt hni hinf hlo hgt hr]
                              simp only [addr_add]
                              have : (storeCells ⟨β, dd + o + n * i.size, none⟩ cs).run P w = .ok () w' := hrun
                              rw [this]; rfl
                            · refine .sl (by simp [Rho.also]) hgt (by rw [(capU_lo _).1]; exact hgt) (by rw [(capU_lo _).2]; intro hh; cases hh) (by show dd + o + 0 + cap * i.size ≤ ρ.sz β; omega) (.inr rfl)
                        · -- it was laid anew
                          obtain ⟨N, row, hN, hrun, hrl, hrs⟩ := grows hgt
                          have hle := Rho.le_add (d := 0) (n := row.size) hnew (fun s b e hs => Nat.ne_of_lt (hi.drew.hi hs))
                          have hg := hi.drew.grow (cells := old ++ new) (off := o) (len := n * i.size) hk hcc
                          obtain ⟨hinv, hle2⟩ := hg.place hnget hnew (row_new (t := el) (hos.append hcs2) hrl hle)
                          refine ⟨_, _, _, Rho.ext_add hle2, hrun, ?_, hinv⟩
                          exact .sl add_ι (by omega) (by rw [(capU_lo _).1]; omega) (by rw [(capU_lo _).2]; intro hh; cases hh) (by show _ ≤ (ρ.add h.n w.heap.size 0 row.size).sz w.heap.size; rw [add_sz, hrs]; omega) (.inr rfl)
end Go.SX
namespace Go.SX
open Go.RowKit
variable {e : E} {ρ ρ' : Rho} {h h' : H} {w0 w w' : World} {P : Program} {tm : T Value} {a : Act}
/-- What the machine's operation does, where the abstract one does r. -/
def RSound (P : Program) (ρ : Rho) (n : Nat) (w0 w : World) (res : Result Next) : R → Prop
  | .val v h' => ∃ ρ' w' v', ρ.Ext n ρ' h'.n ∧ res = .ok (.value v') w' ∧ VRel ρ' v v' ∧ Inv ρ' h' w0 w'
  | .skip h' => ∃ ρ' w', ρ.Ext n ρ' h'.n ∧ res = .ok .skip w' ∧ Inv ρ' h' w0 w'
  | .enter f args => ∃ args' : Array Value, res = .ok (.enter f args') w ∧ VRels ρ args args'.toList
  | .round l args => ∃ (β : Nat) (args' : Array Value), ρ.ι l = some (β, 0) ∧ res = (Instr.yield β args').run P w ∧ VRels ρ args args'.toList
  | .defer d => ∃ d', res = .ok (.defer d') w ∧ DRel ρ d d'
  | .recover => res = .ok .recover w
  | .panic v h' => ∃ ρ' w' v', ρ.Ext n ρ' h'.n ∧ res = .halt (.panic v') w' ∧ VRel ρ' v v' ∧ Inv ρ' h' w0 w'
  | .fork _ => False
theorem RSound.same (hi : Inv ρ h w0 w) {res : Result Next} {v v' : Value} (hr : res = .ok (.value v') w) (hv : VRel ρ v v') : RSound P ρ h.n w0 w res (.val v h) :=
  ⟨ρ, w, v', .refl _, hr, hv, hi⟩
theorem r_nilDeref (hE : EnvOk e P) : (runtimePanic .nilDeref : Sem Next).run P w = .halt (.panic (nilDeref e)) w := by
  simp [runtimePanic, nilDeref, hE.rt]
theorem nilDeref_rel (e : E) : VRel ρ (nilDeref e) (nilDeref e) := .iface _ (.string _)
theorem RSound.nilDeref (hE : EnvOk e P) (hi : Inv ρ h w0 w) : RSound P ρ h.n w0 w ((runtimePanic .nilDeref : Sem Next).run P w) (.panic (nilDeref e) h) :=
  ⟨ρ, w, _, .refl _, r_nilDeref hE, nilDeref_rel e, hi⟩
theorem fnOk_fn (hE : EnvOk e P) {f : FuncId} (hf : fnOk e f = true) : ∃ fn c, P.funcs[f]? = some fn ∧ fn.body = some c ∧ (fn.name == "runtime.NumGoroutine") = false := by
  unfold fnOk at hf
  cases hg : e.fn.get f with
  | none => simp [hg] at hf
  | some fn =>
    simp only [hg, Bool.and_eq_true] at hf
    obtain ⟨c, hc⟩ := Option.isSome_iff_exists.1 hf.1
    exact ⟨fn, c, hE.fn _ _ hg, hc, by simpa using hf.2⟩
theorem r_callFunc (hE : EnvOk e P) {f : FuncId} (hf : fnOk e f = true) (args : Array Value) : (callFunc f args).run P w = .ok (.enter f args) w := by
  obtain ⟨fn, c, h1, h2, h3⟩ := fnOk_fn hE hf
  have h3' : ¬ fn.name = "runtime.NumGoroutine" := by simpa using h3
  simp [callFunc, h1, h2, h3']
theorem findM_eq (ms : List Method) (n : String) : findM ms n = ms.find? (·.name == n) := by
  induction ms with
  | nil => rfl
  | cons m ms ih =>
    simp only [findM, List.find?]
    cases (m.name == n) <;> simp [ih]
theorem fuel_pos (P : Program) : ∃ n, P.types.size + Made.depth = n + 1 := ⟨P.types.size + 99, rfl⟩
theorem callM_rel (hE : EnvOk e P) (hi : Inv ρ h w0 w) {recv recv' : Value} {name : String} {args : List Value} {args' : Array Value} {r : R} (hx : callM e h recv name args = some r) (hv : VRel ρ recv recv') (ha : VRels ρ args args'.toList) :
    RSound P ρ h.n w0 w ((callMethod recv' name args').run P w) r := by
  unfold callM at hx
  cases hv <;> simp only at hx <;> try (cases hx; done)
  · -- none
    simp only [Option.some.injEq] at hx; subst hx
    exact RSound.nilDeref hE hi
  · rename_i t v v' hv
    cases hin : e.info t with
    | none => simp [hin] at hx
    | some i =>
      simp only [hin, findM_eq] at hx
      have hinf := hE.ty _ _ hin
      cases hfm : i.methods.toList.find? (·.name == name) with
      | none => simp [hfm] at hx
      | some m =>
        simp only [hfm] at hx
        have hfm' : i.methods.find? (·.name == name) = some m := by rw [← Array.find?_toList]; exact hfm
        cases hp : m.path.toList with
        | cons _ _ => simp [hp] at hx
        | nil =>
          simp only [hp] at hx
          cases hfu : m.func with
          | none => simp [hfu] at hx
          | some fp =>
            obtain ⟨f, ptr⟩ := fp
            simp only [hfu] at hx
            cases hu : e.under t with
            | none => simp [hu] at hx
            | some d =>
              have hru := r_underlying (w := w) (hE.under hu)
              obtain ⟨n, hn⟩ := fuel_pos P
              have hmeth : ∀ (x : Value), (receiverAt t (.val v') ptr (if m.path.isEmpty then some ((name.splitOn ".").getLastD name) else none)).run P w = .ok x w → fnOk e f = true →
                  (callMethod (.iface t v') name args').run P w = .ok (.enter f (#[x] ++ args')) w := by
                intro x hx hf
                simp only [callMethod, Sem.run_bind, run_program, Result.andThen_ok, hn, method, r_typeInfo hinf, hfm', follow, hp, Sem.run_pure, hfu]
                rw [hx]
                simp [r_callFunc hE hf]
              simp only [hu] at hx
              cases ptr with
              | true =>
                cases d <;> simp only at hx <;> try (cases hx; done)
                cases hf : fnOk e f with
                | false => simp [hf] at hx
                | true =>
                  simp only [hf, cond_true, Option.some.injEq] at hx; subst hx
                  refine ⟨#[v'] ++ args', hmeth v' ?_ hf, by simpa using VRels.cons hv ha⟩
                  simp [receiverAt, hru, Place.get]
              | false =>
                by_cases hpt : ∃ el, d = .pointer el
                · obtain ⟨el, rfl⟩ := hpt
                  simp only at hx
                  cases hv <;> simp only at hx <;> try (cases hx; done)
                  rename_i rr β dd o hι
                  cases hl : loadVar e h el rr o with
                  | none => simp [hl] at hx
                  | some x =>
                    simp only [hl] at hx
                    cases hf : fnOk e f with
                    | false => simp [hf] at hx
                    | true =>
                      simp only [hf, cond_true, Option.some.injEq] at hx; subst hx
                      obtain ⟨x', hlx, hxr⟩ := loadVar_rel (P := P) hE hi hl hι
                      refine ⟨#[x'] ++ args', hmeth x' ?_ hf, by simpa using VRels.cons hxr ha⟩
                      cases hpe : m.path.isEmpty with
                      | true =>
                        have hw : ∀ (x y : ByteArray), (Builtin.ssaWrapNilChk_ #[t] t #[.pointer (some ⟨β, dd + o, none⟩), .string x, .string y]).run P w = .ok (.pointer (some ⟨β, dd + o, none⟩)) w := fun _ _ => rfl
                        simp only [receiverAt, Sem.run_bind, hru, Result.andThen_ok, Place.get, Sem.run_pure, if_true, strVal, hw, asAddr, hlx]
                      | false =>
                        simp only [receiverAt, Sem.run_bind, hru, Result.andThen_ok, Place.get, Sem.run_pure, Bool.false_eq_true, if_false, asAddr, hlx]
                · have hx' : (bif fnOk e f then some (R.enter f (v :: args)) else none) = some r := by
                    cases d <;> first
                      | exact absurd ⟨_, rfl⟩ hpt
                      | exact hx
                  cases hf : fnOk e f with
                  | false => simp [hf] at hx'
                  | true =>
                    simp only [hf, cond_true, Option.some.injEq] at hx'; subst hx'
                    refine ⟨#[v'] ++ args', hmeth v' ?_ hf, by simpa using VRels.cons hv ha⟩
                    cases d <;> first
                      | exact absurd ⟨_, rfl⟩ hpt
                      | simp [receiverAt, hru, Place.get]
theorem idxB_eq (c : UInt8) : ∀ (l : List UInt8) (i : Nat), idxB c l i = if Lib.indexByte l c = -1 then -1 else Lib.indexByte l c + i := by
  intro l
  induction l with
  | nil => intro i; simp [idxB, Lib.indexByte]
  | cons b l ih =>
    intro i
    have hge := Lib.indexByte_ge l c
    simp only [idxB, ih]
    have hun : Lib.indexByte (b :: l) c = if b == c then 0 else if Lib.indexByte l c == -1 then -1 else Lib.indexByte l c + 1 := rfl
    rw [hun]
    by_cases hb : b = c
    · subst hb
      rw [beqT, cond_true]; simp
    · have h1 : Nat.beq b.toNat c.toNat = false := beqF (fun q => hb (UInt8.toNat_inj.1 q))
      have h2 : (b == c) = false := by simpa using hb
      rw [h1, cond_false, h2]
      simp only [Bool.false_eq_true, if_false]
      by_cases hm : Lib.indexByte l c = -1
      · simp [hm]
      · have hm2 : (Lib.indexByte l c == -1) = false := by simpa using hm
        rw [if_neg hm, hm2]
        simp only [Bool.false_eq_true, if_false]
        rw [if_neg (by omega)]; omega
theorem cntB_eq (c : UInt8) : ∀ (l : List UInt8) (n : Nat), cntB c l n = n + Lib.countByte l c := by
  intro l
  induction l with
  | nil => intro n; simp [cntB, Lib.countByte]
  | cons b l ih =>
    intro n
    simp only [cntB, ih]
    unfold Lib.countByte
    rw [List.count_cons]
    by_cases hb : b = c
    · subst hb; rw [beqT, cond_true]; simp; omega
    · have h1 : Nat.beq b.toNat c.toNat = false := beqF (fun q => hb (UInt8.toNat_inj.1 q))
      have h2 : (b == c) = false := by simpa using hb
      rw [h1, cond_false, h2]; simp
theorem xext_rel {fn : Func} {f : FuncId} {args : List Value} {args' : Array Value} {v : Value} (hf : P.funcs[f]? = some fn) (hb : fn.body = none) (ho : fn.origin = "") (hx : xext fn.name args = some v) (ha : VRels ρ args args'.toList) :
    (callFunc f args').run P w = .ok (.value v) w ∧ ∀ ρ', VRel ρ' v v := by
  unfold xext at hx
  split at hx
  · rename_i s c
    have hargs : args' = #[.string s, .int .u8 c] := by
      obtain ⟨l⟩ := args'
      cases ha with | cons h1 t1 => cases h1; cases t1 with | cons h2 t2 => cases h2; cases t2; rfl
    subst hargs
    cases h1 : (fn.name == "internal/bytealg.IndexByteString") with
    | true =>
      rw [h1, cond_true] at hx; cases hx
      have hn : fn.name = "internal/bytealg.IndexByteString" := by simpa using h1
      refine ⟨?_, fun ρ' => .int _ _⟩
      have hfind : Extern.find fn = some Extern.BytealgIndexByte.indexByte := by
        unfold Extern.find; rw [hn]; kernel_rfl
      have hnext : Extern.findNext fn = none := by
        unfold Extern.findNext; rw [hn, ho]; kernel_rfl
      rw [run_callFunc_extern hf (by rw [hn]; rfl) (by rw [hb]; rfl) hnext hfind, Lib.run_indexByteString, idxB_eq]
      have : (if Lib.indexByte s.data.toList c.toNat.toUInt8 = -1 then (-1 : Int) else Lib.indexByte s.data.toList c.toNat.toUInt8 + (0 : Nat)) = Lib.indexByte s.data.toList c.toNat.toUInt8 := by
        split <;> omega
      rw [this]; rfl
    | false =>
      rw [h1, cond_false] at hx
      cases h2 : (fn.name == "internal/bytealg.CountString") with
      | false => rw [h2] at hx; cases hx
      | true =>
        rw [h2, cond_true] at hx; cases hx
        have hn : fn.name = "internal/bytealg.CountString" := by simpa using h2
        refine ⟨?_, fun ρ' => .int _ _⟩
        have hfind : Extern.find fn = some Extern.BytealgCount.count := by
          unfold Extern.find; rw [hn]; kernel_rfl
        have hnext : Extern.findNext fn = none := by
          unfold Extern.findNext; rw [hn, ho]; kernel_rfl
        rw [run_callFunc_extern hf (by rw [hn]; rfl) (by rw [hb]; rfl) hnext hfind, Lib.run_countString, cntB_eq, Nat.zero_add]; rfl
  · cases hx
theorem invokeA_rel (hE : EnvOk e P) (hi : Inv ρ h w0 w) {fn fn' : Fn} {cap args : List Value} {cap' args' : Array Value} {r : R} (hx : invokeA e h fn cap args = some r) (hf : FnRel ρ fn fn') (hc : VRels ρ cap cap'.toList) (ha : VRels ρ args args'.toList) :
    RSound P ρ h.n w0 w ((invoke (.fn fn' cap') args').run P w) r := by
  unfold invokeA at hx
  cases hf with
  | func f =>
    simp only [lapp_eq] at hx
    cases hok : fnOk e f with
    | false =>
      rw [hok, cond_false] at hx
      unfold extA at hx
      cases hg : e.fn.get f with
      | none => rw [hg] at hx; cases hx
      | some fn =>
        rw [hg] at hx
        simp only at hx
        cases hq : (!fn.body.isSome && fn.origin == "") with
        | false => rw [hq] at hx; cases hx
        | true =>
          rw [hq, cond_true] at hx
          rw [Bool.and_eq_true] at hq
          have hb : fn.body = none := by
            cases hb : fn.body with
            | none => rfl
            | some c => rw [hb] at hq; simp at hq
          cases hv : xext fn.name (args ++ cap) with
          | none => rw [hv] at hx; cases hx
          | some v =>
            rw [hv] at hx; cases hx
            obtain ⟨h1, h2⟩ := xext_rel (P := P) (w := w) (args' := args' ++ cap') (hE.fn _ _ hg) hb (by simpa using hq.2) hv (by simpa using ha.append hc)
            exact ⟨ρ, w, v, .refl _, by simp [invoke, h1], h2 ρ, hi⟩
    | true =>
      simp only [hok, cond_true, Option.some.injEq] at hx; subst hx
      exact ⟨args' ++ cap', by simp [invoke, r_callFunc hE hok], by simpa using ha.append hc⟩
  | method n =>
    simp only at hx
    cases args with
    | nil => simp at hx
    | cons x xs =>
      obtain ⟨al⟩ := args'
      obtain ⟨y, ys, hal, hy, hys⟩ := VRels.cons_inv ha
      simp only at hal
      subst hal
      have := callM_rel (P := P) (args' := ⟨ys⟩) hE hi hx hy hys
      have e1 : (invoke (.fn (.method n) cap') ⟨y :: ys⟩).run P w = (callMethod y n ⟨ys⟩).run P w := by
        have e2 : (⟨y :: ys⟩ : Array Value)[0]? = some y := rfl
        have e3 : (⟨y :: ys⟩ : Array Value).extract 1 (⟨y :: ys⟩ : Array Value).size = ⟨ys⟩ := by simp
        simp only [invoke, e2, e3]
      rw [e1]; exact this
  | methodOf t n => simp at hx
  | yield hl =>
    simp only [Option.some.injEq] at hx; subst hx
    exact ⟨_, args', hl, by simp [invoke], ha⟩
theorem resolveA_rel (ht : TRel ρ tm a.tmps) {c : Call} {d : Deferred} {ty : TypeId} (hx : resolveA tm c = some d) : ∃ d', (resolve a.eval c ty).run P w = .ok d' w ∧ DRel ρ d d' := by
  unfold resolveA at hx
  cases hargs : evs tm c.args.toList with
  | none => simp [hargs] at hx
  | some args =>
    simp only [hargs] at hx
    have har := evs_rel ht hargs
    have har' : VRels ρ args (c.args.map a.eval).toList := by simpa using har
    cases hc : c.callee with
    | builtin b =>
      simp only [hc, Option.some.injEq] at hx; subst hx
      exact ⟨_, by simp only [resolve, hc, Sem.run_pure]; rfl, ⟨.builtin b c.argTypes _ _ _ _, har'⟩⟩
    | invoke recv name =>
      simp only [hc] at hx
      cases hr : ev tm recv with
      | none => simp [hr] at hx
      | some r =>
        simp only [hr, Option.some.injEq] at hx; subst hx
        refine ⟨_, by simp only [resolve, hc, Sem.run_pure]; rfl, ⟨.fn (.method name) .nil, ?_⟩⟩
        simpa using VRels.cons (ev_rel ht hr) har'
    | value f =>
      simp only [hc] at hx
      cases hr : ev tm f with
      | none => simp [hr] at hx
      | some fv =>
        have hfv := ev_rel ht hr
        cases hv : fv <;> simp only [hr, hv] at hx <;> try (cases hx; done)
        · rename_i fn first captured
          simp only [Option.some.injEq, lapp_eq] at hx; subst hx
          rw [hv] at hfv
          generalize hev : a.eval f = fe at hfv
          cases hfv with
          | func hfn hfa hfb =>
            refine ⟨_, by simp only [resolve, hc, hev, Deferred.ofValue, Sem.run_pure]; rfl, ⟨.fn hfn hfb, ?_⟩⟩
            simpa using hfa.append har'
        · simp only [Option.some.injEq] at hx; subst hx
          rw [hv] at hfv
          generalize hev : a.eval f = fe at hfv
          cases hfv
          exact ⟨_, by simp only [resolve, hc, hev, Deferred.ofValue, Sem.run_pure]; rfl, ⟨.nil, har'⟩⟩
end Go.SX
namespace Go.SX
open Go.RowKit
variable {e : E} {ρ ρ' : Rho} {h h' : H} {w0 w w' : World} {P : Program} {tm : T Value} {a : Act}
theorem ptr_inv {v' : Value} {p : Addr} (hv : VRel ρ (.pointer (some p)) v') : ∃ β d, ρ.ι p.block = some (β, d) ∧ v' = .pointer (some ⟨β, d + p.off, none⟩) := by
  cases hv with | ptr o h => exact ⟨_, _, h, rfl⟩
/-- the result of an operation whose value alone counts -/
theorem RSound.of {s : Sem Value} {v : Value} (hi : Inv ρ h w0 w) (hs : ∃ v', s.run P w = .ok v' w ∧ VRel ρ v v') : RSound P ρ h.n w0 w ((do pure (.value (← s)) : Sem Next).run P w) (.val v h) := by
  obtain ⟨v', h1, h2⟩ := hs
  refine ⟨ρ, w, v', .refl _, ?_, h2, hi⟩
  simp only [Sem.run_bind, h1, Result.andThen_ok, Sem.run_pure]
theorem xnil_rel (hE : EnvOk e P) {t : TypeId} {v v' : Value} {name : String} (hx : aheadOk e t v name = true) (hv : VRel ρ v v') :
    (nilAhead (P.types.size + Made.depth) t v' name).run P w = .ok (some false) w := by
  obtain ⟨n, hn⟩ := fuel_pos P
  rw [hn]
  unfold aheadOk at hx
  cases hin : e.info t with
  | none => simp [hin] at hx
  | some i =>
    simp only [hin, findM_eq] at hx
    have hinf := hE.ty _ _ hin
    cases hfm : i.methods.toList.find? (·.name == name) with
    | none => simp [hfm] at hx
    | some m =>
      simp only [hfm] at hx
      have hfm' : i.methods.find? (·.name == name) = some m := by rw [← Array.find?_toList]; exact hfm
      cases hp : m.path.toList with
      | cons _ _ => simp [hp] at hx
      | nil =>
        cases hfu : m.func with
        | none => simp [hp, hfu] at hx
        | some fp =>
          obtain ⟨f, ptr⟩ := fp
          simp only [hp, hfu] at hx
          simp only [nilAhead, Sem.run_bind, r_typeInfo hinf, Result.andThen_ok, hfm', hp, followBlind, Sem.run_pure, hfu]
          cases ptr with
          | true => simp
          | false =>
            cases hu : e.under t with
            | none => simp [hu] at hx
            | some d =>
              simp only [hu] at hx
              have hru := r_underlying (w := w) (hE.under hu)
              cases d <;> cases hv <;> first
                | (simp at hx; done)
                | simp [hru]
theorem r_len {t : TypeId} {d : TypeDesc} {tl : List TypeId} {x : Value} {n : Nat} (hu : P.underlying t = some d)
    (hn : (d = .string ∧ ∃ s : ByteArray, x = .string s ∧ s.size = n) ∨ (∃ el b c, d = .slice el ∧ x = .slice b n c) ∨ (∃ k v, d = .map k v ∧ x = .map none ∧ n = 0) ∨
      (∃ k v r es c, d = .map k v ∧ x = .map (some r) ∧ w.heap[r]? = some (.map es c) ∧ es.size = n)) :
    (Builtin.len_ ⟨t :: tl⟩ 0 #[x]).run P w = .ok (goInt n) w := by
  have e0 : (⟨t :: tl⟩ : Array TypeId)[0]? = some t := rfl
  have e1 : (#[x] : Array Value)[0]? = some x := rfl
  rcases hn with ⟨rfl, s, rfl, rfl⟩ | ⟨el, b, c, rfl, rfl⟩ | ⟨k, v, rfl, rfl, rfl⟩ | ⟨k, v, r, es, c, rfl, rfl, hb, rfl⟩
  · simp only [Builtin.len_, e0, e1, Sem.run_bind, r_underlying hu, Result.andThen_ok]; rfl
  · simp only [Builtin.len_, e0, e1, Sem.run_bind, r_underlying hu, Result.andThen_ok]; rfl
  · simp only [Builtin.len_, e0, e1, Sem.run_bind, r_underlying hu, Result.andThen_ok]; rfl
  · simp only [Builtin.len_, e0, e1, Sem.run_bind, r_underlying hu, Result.andThen_ok, r_getObj hb (by intro _ _ _ hh; cases hh)]; rfl
theorem len_type {ats : Array TypeId} {ty ty' : TypeId} {args : Array Value} : Builtin.len_ ats ty args = Builtin.len_ ats ty' args := rfl
theorem xbuiltin_rel (hE : EnvOk e P) (hi : Inv ρ h w0 w) {b : Builtin} {ats : Array TypeId} {ty : TypeId} {consts : Array Bool} {args : List Value} {args' : Array Value} {r : R}
    (hx : xbuiltin e h b ats.toList args = some r) (ha : VRels ρ args args'.toList) : RSound P ρ h.n w0 w ((builtin b ats ty consts args').run P w) r := by
  obtain ⟨al⟩ := args'
  obtain ⟨tl⟩ := ats
  simp only at ha hx
  unfold xbuiltin at hx
  split at hx
  · -- len
    rename_i t tl' x
    obtain ⟨y, ys, rfl, hy, hys⟩ := ha.cons_inv
    cases hys
    cases hu : e.under t with
    | none => simp [hu] at hx
    | some d =>
      simp only [hu] at hx
      have hu' := hE.under hu
      have fin : ∀ n : Nat, ((d = .string ∧ ∃ s : ByteArray, y = .string s ∧ s.size = n) ∨ (∃ el b c, d = .slice el ∧ y = .slice b n c) ∨ (∃ k v, d = .map k v ∧ y = .map none ∧ n = 0) ∨
          (∃ k v r es c, d = .map k v ∧ y = .map (some r) ∧ w.heap[r]? = some (.map es c) ∧ es.size = n)) →
          RSound P ρ h.n w0 w ((builtin .len ⟨t :: tl'⟩ ty consts ⟨[y]⟩).run P w) (.val (goInt n) h) := by
        intro n hn
        refine RSound.of hi ⟨goInt n, ?_, .int _ _⟩
        rw [len_type (ty' := 0)]
        exact r_len hu' hn
      cases d <;> cases hy <;> simp only at hx <;> try (cases hx; done)
      · rename_i s
        simp only [Option.some.injEq, llen_eq] at hx; subst hx
        rw [← Lib.size_eq]
        exact fin _ (.inl ⟨rfl, s, rfl, rfl⟩)
      · simp only [Option.some.injEq] at hx; subst hx
        exact fin _ (.inr (.inl ⟨_, _, _, rfl, rfl⟩))
      · simp only [Option.some.injEq] at hx; subst hx
        exact fin _ (.inr (.inl ⟨_, _, _, rfl, rfl⟩))
      · simp only [Option.some.injEq] at hx; subst hx
        exact fin 0 (.inr (.inr (.inl ⟨_, _, rfl, rfl, rfl⟩)))
      · rename_i kt vt r β hι
        cases ho : h.obj r with
        | none => simp [ho] at hx
        | some o =>
          cases o <;> simp only [ho] at hx <;> try (cases hx; done)
          rename_i es ck
          simp only [Option.some.injEq, llen_eq] at hx; subst hx
          obtain ⟨k, hk, hko⟩ := obj_some ho
          have hob := hi.obj _ _ _ _ hι hk
          rw [hko] at hob
          obtain ⟨_, es', hb, hes⟩ := hob
          rw [hes.length]
          exact fin _ (.inr (.inr (.inr ⟨_, _, _, _, _, rfl, rfl, hb, by simp⟩)))
  · -- append
    rename_i st xt s x
    obtain ⟨y1, ys, rfl, hy1, hys⟩ := ha.cons_inv
    obtain ⟨y2, zs, rfl, hy2, hzs⟩ := hys.cons_inv
    cases hzs
    cases hu : e.under xt with
    | none => simp [hu] at hx
    | some dx =>
      simp only [hu] at hx
      have hu' := hE.under hu
      have key : ∀ (_ : ∀ k, dx ≠ .int k) (_ : (match xappend e h st s x with | some (v, h') => some (R.val v h') | none => none) = some r), RSound P ρ h.n w0 w ((builtin .append ⟨[st, xt]⟩ ty consts ⟨[y1, y2]⟩).run P w) r := by
        intro hni hq
        cases hap : xappend e h st s x with
        | none => simp [hap] at hq
        | some p =>
          obtain ⟨v, h'⟩ := p
          simp only [hap, Option.some.injEq] at hq; subst hq
          obtain ⟨ρ', w', v', h1, h2, h3, h4⟩ := append_rel (P := P) (ty := ty) hE hi hap hy1 hy2 hu' hni
          refine ⟨ρ', w', v', h1, ?_, h3, h4⟩
          show (do pure (.value (← Builtin.append_ #[st, xt] ty #[y1, y2])) : Sem Next).run P w = _
          simp only [Sem.run_bind, h2, Result.andThen_ok, Sem.run_pure]
      cases dx <;> first
        | (simp at hx; done)
        | exact key (by intro k hh; cases hh) hx
  · -- recover
    simp only [Option.some.injEq] at hx; subst hx
    rfl
  · -- min
    rename_i k x k' y
    obtain ⟨y1, ys, rfl, hy1, hys⟩ := ha.cons_inv
    obtain ⟨y2, zs, rfl, hy2, hzs⟩ := hys.cons_inv
    cases hzs; cases hy1; cases hy2
    simp only [Option.some.injEq] at hx; subst hx
    refine RSound.of hi ⟨_, ?_, .int _ _⟩
    have : (bif ileb x y then x else y) = (if y < x then y else x) := by
      rw [ileb_iff]
      by_cases hxy : x ≤ y
      · simp [hxy] <;> omega
      · simp [hxy] <;> omega
    rw [this]
    simp [Builtin.min_, Builtin.min2]
  · -- max
    rename_i k x k' y
    obtain ⟨y1, ys, rfl, hy1, hys⟩ := ha.cons_inv
    obtain ⟨y2, zs, rfl, hy2, hzs⟩ := hys.cons_inv
    cases hzs; cases hy1; cases hy2
    simp only [Option.some.injEq] at hx; subst hx
    refine RSound.of hi ⟨_, ?_, .int _ _⟩
    have : (bif ileb y x then x else y) = (if y > x then y else x) := by
      rw [ileb_iff]
      by_cases hxy : y ≤ x
      · simp [hxy] <;> omega
      · simp [hxy] <;> omega
    rw [this]
    simp [Builtin.max_, Builtin.max2]
  · cases hx
theorem xconv_rel (hE : EnvOk e P) (hi : Inv ρ h w0 w) {s d : TypeId} {v v' : Value} {r : R} (hx : xconv e h s d v = some r) (hv : VRel ρ v v') :
    RSound P ρ h.n w0 w ((do pure (.value (← convert s d v')) : Sem Next).run P w) r := by
  unfold xconv at hx
  cases hs : e.under s with
  | none => simp [hs] at hx
  | some ds =>
    cases hd : e.under d with
    | none => simp [hs, hd] at hx
    | some dd =>
      have hs' := r_underlying (w := w) (hE.under hs)
      have hd' := r_underlying (w := w) (hE.under hd)
      simp only [hs, hd] at hx
      split at hx
      · -- int to int
        rename_i k k0 n heq1 heq2 
        cases heq2
        cases hv
        simp only [Option.some.injEq] at hx; subst hx
        refine RSound.of hi ⟨_, ?_, .int _ _⟩
        simp only [convert, Sem.run_bind, hs', hd', Result.andThen_ok, Conv.intToInt, fit_eq]
        rfl
      · -- string to string
        rename_i b heq1 heq2
        cases heq2
        cases hv
        simp only [Option.some.injEq] at hx; subst hx
        refine RSound.of hi ⟨_, ?_, .string _⟩
        simp only [convert, Sem.run_bind, hs', hd', Result.andThen_ok]
        rfl
      · -- string to bytes
        rename_i el b heq1 heq2
        cases heq2
        cases hv
        split at hx
        · rename_i hel
          simp only [Option.some.injEq] at hx; subst hx
          have hel' := hE.under hel
          have hrun := Lib.run_convert_string_bytes (P := P) w s d el b (hE.under hs) (hE.under hd) hel'
          have hcap : b.size ≤ grownCap w b.size 0 el := cut_ge _ _ _ _
          have hi1 : Inv ρ h w0 w.drew := hi.drew
          have hcsz : (Lib.bytesCells w el b).size = grownCap w b.size 0 el := by
            simp only [Lib.bytesCells, Array.size_append, Array.size_map, Array.size_replicate]
            have : b.data.size = b.size := rfl
            omega
          have hrow : ∀ hle : ρ.Le (ρ.add h.n w.drew.heap.size 0 (Lib.bytesCells w el b).size), _ := fun hle =>
            row_new (w := w.drew) (t := el) (c := Lib.bytesCells w el b) (extra := (Array.replicate (grownCap w b.size 0 el - b.size) (Value.int .u8 0)).toList) (r := h.n) (bytes_rel (ρ := ρ) b) (by simp [Lib.bytesCells]) hle
          have hle : ρ.Le (ρ.add h.n w.drew.heap.size 0 (Lib.bytesCells w el b).size) := Rho.le_add (hi.unmapped (Nat.le_refl _)) (fun s' b' e' hs' => Nat.ne_of_lt (hi1.hi hs'))
          obtain ⟨hi2, _⟩ := hi1.new (n := (Lib.bytesCells w el b).size) (o := .cells (b.data.toList.map byteVal)) (O := .cells (Lib.bytesCells w el b) el) (hrow hle)
          have hb2 : (w.drew.alloc (.cells (Lib.bytesCells w el b) el)).heap[w.heap.size]? = some (.cells (Lib.bytesCells w el b) el (0, 0)) := heap_alloc_new w.drew _
          obtain ⟨ht3, f', hb3, hf3⟩ := heap_freeze (n := 0) hb2 (.inl rfl)
          have hi3 := hi2.mark (β := w.heap.size) hi.below.size ht3 hb2 hb3 hf3
          refine ⟨_, _, .slice (some ⟨w.heap.size, 0, none⟩) b.size (grownCap w b.size 0 el), Rho.ext_add hle, ?_, ?_, hi3⟩
          · simp only [Sem.run_bind, hrun, Result.andThen_ok, Sem.run_pure]
            rfl
          · rw [llen_eq, ← Lib.size_eq]
            refine .sl (d := 0) add_ι hcap ?_ ?_ ?_ (.inr rfl)
            · rw [(capU_lo _).1]; exact hcap
            · rw [(capU_lo _).2]; intro hh; cases hh
            · have : (ρ.add h.n w.drew.heap.size 0 (Lib.bytesCells w el b).size).sz w.heap.size = (Lib.bytesCells w el b).size := add_sz
              rw [this, hcsz]; omega
        · cases hx
      · -- nil to string
        rename_i el n c heq1 heq2
        cases heq1; cases heq2
        cases hv
        split at hx
        · rename_i hel
          simp only [Option.some.injEq] at hx; subst hx
          refine RSound.of hi ⟨.string .empty, ?_, .string _⟩
          rw [run_convert_bytes_string w s d el none _ _ (hE.under hs) (hE.under hel) (hE.under hd)]
          rfl
        · cases hx
      · -- bytes to string
        rename_i el ad n c heq1 heq2
        cases heq1; cases heq2
        split at hx
        · rename_i hel
          cases hl : h.loadAt ad.block ad.off n with
          | none => simp [hl] at hx
          | some cs =>
            simp only [hl] at hx
            cases hb : bytesOf cs with
            | none => simp [hb] at hx
            | some l =>
              simp only [hb, Option.some.injEq] at hx; subst hx
              cases hv with
              | @sl r β dd o o' z n c cap hι hn hlo he hsz ha =>
                obtain ⟨cs', h1, h2, h3⟩ := hi.load hl hι
                obtain ⟨ns, rfl, rfl⟩ := bytesOf_rel hb h1
                have hlc : (loadCells ⟨β, o', none⟩ n).run P w = .ok ⟨ns.map (Value.int .u8)⟩ w := by
                  rcases ha with h0 | h0
                  · have : n = 0 := by omega
                    subst this
                    exact run_loadCells h2 (fun j hj => absurd hj (Nat.not_lt_zero j))
                  · rw [h0]; exact run_loadCells h2 h3
                refine RSound.of hi ⟨_, ?_, .string _⟩
                rw [run_convert_bytes_string w s d el _ _ _ (hE.under hs) (hE.under hel) (hE.under hd), run_bytesToString w _ _ _ ns hlc, push_foldl]
                rfl
        · cases hx
      · -- bytes to bytes
        rename_i el0 el ad n c heq1 heq2
        cases heq1; cases heq2
        split at hx
        · rename_i hel ob
          cases hsd : Nat.beq s d with
          | false => simp [hsd] at hx
          | true =>
            simp only [hsd, cond_true, Option.some.injEq] at hx; subst hx
            obtain rfl := Nat.eq_of_beq_eq_true hsd
            obtain rfl : el0 = el := by rw [hs] at hd; cases hd; rfl
            cases hv with
            | @sl r β dd o o' z n c cap hι hn hlo he hsz ha =>
              obtain ⟨k, hk, hko⟩ := obj_some ob
              have hob := hi.obj _ _ _ _ hι hk
              have hlo' := hi.lo _ _ _ _ hι hk (by rw [hko]; rfl)
              rw [hko] at hob
              obtain ⟨cc, t, f, hbl, hcs, huf, _⟩ := hob
              obtain ⟨ht3, f', hb3, hf3⟩ := heap_freeze (n := 0) hbl huf
              have hi3 := hi.mark hlo' ht3 hbl hb3 hf3
              refine ⟨ρ, _, _, .refl _, ?_, .sl hι hn hlo he hsz ha, hi3⟩
              have hel' := r_underlying (w := w) (hE.under hel)
              have hsh : w.shape? β = some (t, cc.size) := by simp [World.shape?, hbl]
              simp [convert, Sem.run_bind, hs', hel', Result.andThen_ok, markStringish, hsh]
        · cases hx
      · cases hx
end Go.SX
namespace Go.SX
open Go.RowKit
variable {e : E} {ρ ρ' : Rho} {h h' : H} {w0 w w' : World} {P : Program} {tm : T Value} {a : Act}
theorem bind1_some {x : Option Value} {f : Value → Option R} {r : R} (hx : bind1 x f = some r) : ∃ v, x = some v ∧ f v = some r := by
  cases x with
  | none => cases hx
  | some v => exact ⟨v, rfl, hx⟩
theorem bind2_some {x y : Option Value} {f : Value → Value → Option R} {r : R} (hx : bind2 x y f = some r) : ∃ v u, x = some v ∧ y = some u ∧ f v u = some r := by
  cases x with
  | none => cases hx
  | some v => cases y with
    | none => cases hx
    | some u => exact ⟨v, u, rfl, rfl, hx⟩
theorem ret_some {x : Option Value} {r : R} (hx : ret h x = some r) : ∃ v, x = some v ∧ r = .val v h := by
  cases x with
  | none => cases hx
  | some v => cases hx; exact ⟨v, rfl, rfl⟩
theorem lget_at {α : Type} (l : List α) (i : Nat) : lget l i = l[i]? := by
  induction l generalizing i with
  | nil => rfl
  | cons x xs ih => cases i with
    | zero => rfl
    | succ i => simp [lget, beqF (Nat.succ_ne_zero i), ih]
/-- an operation that gives a value alone -/
theorem RSound.v (hi : Inv ρ h w0 w) {s : Sem Value} {v v' : Value} (hs : s.run P w = .ok v' w) (hv : VRel ρ v v') : RSound P ρ h.n w0 w ((do pure (.value (← s)) : Sem Next).run P w) (.val v h) :=
  RSound.of hi ⟨v', hs, hv⟩
theorem index_rel (hE : EnvOk e P) (hi : Inv ρ h w0 w) {t : TypeId} {v k v' k' : Value} {r : R} (hv : VRel ρ v v') (hk : VRel ρ k k')
    (hx : (match (generalizing := false) e.under t, v, nat? k with
    | some (.array n el), .agg cs, some j => (match sizeOf e el with
      | some z => bif Nat.blt j n then ret h (partOf e el cs.toList (j * z)) else none
      | none => none)
    | some .string, .string s, some j => (match lget s.data.toList j with | some b => some (.val (byteVal b) h) | none => none)
    | _, _, _ => none) = some r) : RSound P ρ h.n w0 w ((do pure (.value (← Instr.index t v' k')) : Sem Next).run P w) r := by
  cases hu : e.under t with
  | none => simp [hu] at hx
  | some d =>
    have hru := r_underlying (w := w) (hE.under hu)
    cases hn : nat? k with
    | none => rw [hu, hn] at hx; split at hx <;> first | cases hx | (simp_all; done)
    | some j =>
      obtain ⟨kk, rfl⟩ := nat?_int hn
      obtain rfl := int_rel hk
      rw [hu, hn] at hx
      cases d <;> cases hv <;> simp only at hx <;> try (cases hx; done)
      rotate_left
      · rename_i n el as as' hcs
        cases hz : sizeOf e el with
        | none => simp [hz] at hx
        | some z =>
          simp only [hz] at hx
          cases hb : Nat.blt j n with
          | false => simp [hb] at hx
          | true =>
            simp only [hb, cond_true] at hx
            obtain ⟨x, hp, rfl⟩ := ret_some hx
            obtain ⟨v', q1, q2⟩ := partOf_rel (P := P) (w := w) (cs' := ⟨as'⟩) hE hp hcs
            have hjn : j < n := Nat.le_of_ble_eq_true hb
            refine RSound.v hi (v' := v') ?_ q2
            have hc : (0 : Int) ≤ (j : Int) ∧ (j : Int) < (n : Int) := ⟨Int.natCast_nonneg j, by omega⟩
            simp [Instr.index, asIntOf, hru, r_size hE hz, hc, q1, hjn]
      · rename_i s
        rw [lget_at] at hx
        cases hb : s.data.toList[j]? with
        | none => simp [hb] at hx
        | some b =>
          simp only [hb, Option.some.injEq] at hx; subst hx
          refine RSound.v hi (v' := byteVal b) ?_ (.int _ _)
          have hsz := Lib.size_eq s
          have hlt : j < s.size := by rw [hsz]; exact (List.getElem?_eq_some_iff.1 hb).1
          have hg : s[j]? = some b := by
            rw [getElem?_pos s j hlt]
            have := (List.getElem?_eq_some_iff.1 hb).2
            simp only [Option.some.injEq]
            rw [← this]; rfl
          simp [Instr.index, asIntOf, hru, hg, byteVal]
theorem fieldAddr_rel (hE : EnvOk e P) (hi : Inv ρ h w0 w) {s : TypeId} {f : Nat} {x : Option Value} {x' : Value} {r : R} (hv : ∀ v, x = some v → VRel ρ v x')
    (hx : (match e.under s with
    | some (.struct fs) => (match lget fs.toList f with
      | some fd => (match sizeOf e fd.type with
        | some (Nat.succ _) => bind1 x fun | .pointer (some p) => some (.val (.pointer (some ⟨p.block, p.off + fd.offset, none⟩)) h) | _ => none
        | _ => none)
      | none => none)
    | _ => none) = some r) : RSound P ρ h.n w0 w ((do pure (.value (← Instr.fieldAt s x' f)) : Sem Next).run P w) r := by
  cases hu : e.under s with
  | none => simp [hu] at hx
  | some d =>
    have hru := r_underlying (w := w) (hE.under hu)
    rw [hu] at hx
    cases d <;> simp only at hx <;> try (cases hx; done)
    rename_i fs
    rw [lget_at] at hx
    cases hf : fs.toList[f]? with
    | none => simp [hf] at hx
    | some fd =>
      simp only [hf] at hx
      cases hz : sizeOf e fd.type with
      | none => simp [hz] at hx
      | some z =>
        cases z with
        | zero => simp [hz] at hx
        | succ z =>
          simp only [hz] at hx
          obtain ⟨v, rfl, hx⟩ := bind1_some hx
          have hv1 := hv _ rfl
          clear hv
          cases hv1 <;> try (cases hx; done)
          · rename_i rr β d o hι _hx0
            cases hx
            have hf' : fs[f]? = some fd := by rw [← Array.getElem?_toList]; exact hf
            refine RSound.v hi (v' := .pointer (some ⟨β, d + (o + fd.offset), none⟩)) ?_ (.ptr _ hι)
            simp [Instr.fieldAt, hru, hf', Instr.sureAddr, fieldPlace, r_size hE hz, addr_add, Nat.add_assoc]
theorem indexAddr_rel (hE : EnvOk e P) (hi : Inv ρ h w0 w) {t : TypeId} {v k v' k' : Value} {r : R} (hv : VRel ρ v v') (hk : VRel ρ k k')
    (hx : (match (generalizing := false) e.under t, v, nat? k with
    | some (.array n el), .pointer (some p), some j => (match sizeOf e el with
      | some z => bif Nat.blt j n then some (.val (.pointer (some ⟨p.block, p.off + j * z, none⟩)) h) else none
      | none => none)
    | some (.slice el), .slice (some p) n _, some j => (match sizeOf e el with
      | some z => bif Nat.blt j n then some (.val (.pointer (some ⟨p.block, p.off + j * z, none⟩)) h) else none
      | none => none)
    | _, _, _ => none) = some r) : RSound P ρ h.n w0 w ((do pure (.value (← Instr.indexAt t v' k')) : Sem Next).run P w) r := by
  cases hu : e.under t with
  | none => simp [hu] at hx
  | some d =>
    have hru := r_underlying (w := w) (hE.under hu)
    cases hn : nat? k with
    | none => rw [hu, hn] at hx; split at hx <;> first | cases hx | (simp_all; done)
    | some j =>
      obtain ⟨kk, rfl⟩ := nat?_int hn
      obtain rfl := int_rel hk
      rw [hu, hn] at hx
      cases d <;> cases hv <;> simp only at hx <;> try (cases hx; done)
      rotate_left
      · rename_i n el rr β d o hι
        cases hz : sizeOf e el with
        | none => simp [hz] at hx
        | some z =>
          simp only [hz] at hx
          cases hb : Nat.blt j n with
          | false => simp [hb] at hx
          | true =>
            simp only [hb, cond_true, Option.some.injEq] at hx; subst hx
            have hjn : j < n := Nat.le_of_ble_eq_true hb
            refine RSound.v hi (v' := .pointer (some ⟨β, d + (o + j * z), none⟩)) ?_ (.ptr _ hι)
            have hc : (0 : Int) ≤ (j : Int) ∧ (j : Int) < (n : Int) := ⟨Int.natCast_nonneg j, by omega⟩
            simp [Instr.indexAt, asIntOf, hru, Instr.sureAddr, r_size hE hz, hc, hjn, addr_add, Nat.add_assoc]
      · rename_i el rr β dd o o' zz n c cap hι hnc hlo he hsz ha
        cases hz : sizeOf e el with
        | none => simp [hz] at hx
        | some z =>
          simp only [hz] at hx
          cases hb : Nat.blt j n with
          | false => simp [hb] at hx
          | true =>
            simp only [hb, cond_true, Option.some.injEq] at hx; subst hx
            have hjn : j < n := Nat.le_of_ble_eq_true hb
            · have ho' : o' = dd + o := by rcases ha with h0 | h0 <;> omega
              subst ho'
              refine RSound.v hi (v' := .pointer (some ⟨β, dd + (o + j * z), none⟩)) ?_ (.ptr _ hι)
              have hc : (0 : Int) ≤ (j : Int) ∧ (j : Int) < (n : Int) := ⟨Int.natCast_nonneg j, by omega⟩
              simp [Instr.indexAt, asIntOf, hru, r_size hE hz, hc, hjn, addr_add, Nat.add_assoc]
end Go.SX
namespace Go.SX
open Go.RowKit
variable {e : E} {ρ ρ' : Rho} {h h' : H} {w0 w w' : World} {P : Program} {tm : T Value} {a : Act}
theorem mapM_run {g : Field → Sem (Nat × Nat)} (q : Field → Nat × Nat) : ∀ {fs : List Field}, (∀ f ∈ fs, (g f).run P w = .ok (q f) w) → (List.mapM g fs).run P w = .ok (fs.map q) w := by
  intro fs
  induction fs with
  | nil => intro _; simp [Sem.run_pure]
  | cons f fs ih =>
    intro hq
    have h0 := hq f (by simp)
    have h1 := ih (fun f hf => hq f (by simp [hf]))
    simp [List.mapM_cons, Sem.run_bind, h0, Result.andThen_ok, h1]
theorem allSized_mem {fs : List Field} (h : allSized e fs = true) : ∀ f ∈ fs, ∃ n, sizeOf e f.type = some n := by
  induction fs with
  | nil => intro f hf; cases hf
  | cons g fs ih =>
    simp only [allSized, Bool.and_eq_true] at h
    intro f hf
    rcases List.mem_cons.1 hf with rfl | hf
    · exact Option.isSome_iff_exists.1 h.1
    · exact ih h.2 f hf
theorem build_rel (hE : EnvOk e P) {t : TypeId} {ps : Array (Nat × Value)} {vs : List (Nat × Value)} {z : Value} {d : TypeDesc} {cs : List Value} (hps : PRels ρ vs ps.toList) (hu : e.under t = some d) (hz : zeroOf e t = some z) (hc : closedV z = true)
    (hd : (∃ fs, d = .struct fs ∧ allSized e fs.toList = true ∧ fillL (place e fs.toList) (vcells z) vs = some cs) ∨ (∃ n el k, d = .array n el ∧ sizeOf e el = some k ∧ fillL (fun i => some (i * k, k)) (vcells z) vs = some cs)) :
    ∃ v', (Instr.build t ps).run P w = .ok v' w ∧ VRel ρ (.agg ⟨cs⟩) v' := by
  have hru := r_underlying (w := w) (hE.under hu)
  have hzr := r_zero (w := w) hE hz
  have hcells : VRels ρ (vcells z) z.cells.toList := vcells_rel (closedV_rel ρ z hc)
  rcases hd with ⟨fs, rfl, hal, hf⟩ | ⟨n, el, k, rfl, hk, hf⟩
  · have hall := allSized_mem hal
    let q : Field → Nat × Nat := fun f => (f.offset, (sizeOf e f.type).getD 0)
    have hm : (fs.mapM (fun f => do pure (f.offset, ← Go.sizeOf f.type) : Field → Sem (Nat × Nat))).run P w = .ok (fs.map q) w := by
      rw [Array.mapM_eq_mapM_toList, Sem.run_map, mapM_run q]
      · show Result.ok _ w = _
        congr 1
        apply Array.ext'
        simp
      · intro f hf
        obtain ⟨n, hn⟩ := hall f hf
        simp [r_size hE hn, Result.andThen_ok, q, hn]
    have hpl : ∀ i p, place e fs.toList i = some p → (fs.map q)[i]? = some p := by
      intro i p hp
      unfold place at hp
      rw [lget_at] at hp
      cases hf : fs.toList[i]? with
      | none => simp [hf] at hp
      | some f =>
        simp only [hf] at hp
        have hf' : fs[i]? = some f := by rw [← Array.getElem?_toList]; exact hf
        cases hn : sizeOf e f.type with
        | none => simp [hn] at hp
        | some n =>
          simp only [hn, Option.some.injEq] at hp
          simp [hf', q, hn, hp]
    obtain ⟨out, h1, h2⟩ := fillL_rel (ρ := ρ) (place' := ((fs.map q)[·]?)) hpl hf hps hcells
    refine ⟨.agg out, ?_, .agg (a' := out.toList) h2⟩
    have hm' := hm
    simp only [Instr.build, Sem.run_bind, hzr, Result.andThen_ok, hru, hm', h1, Sem.run_pure]
  · obtain ⟨out, h1, h2⟩ := fillL_rel (ρ := ρ) (place' := fun i => some (i * k, k)) (fun i p hp => hp) hf hps hcells
    refine ⟨.agg out, ?_, .agg (a' := out.toList) h2⟩
    simp only [Instr.build, Sem.run_bind, hzr, Result.andThen_ok, hru, r_size hE hk, h1, Sem.run_pure]
theorem map_of (hi : Inv ρ h w0 w) {r β : Nat} {es : List MapEntry} {c : Nat} (hι : ρ.ι r = some (β, 0)) (ho : h.obj r = some (.map es c)) :
    ∃ k es', h.b.get r = some k ∧ k.obj = .map es c ∧ w.heap[β]? = some (.map es' c) ∧ ERels ρ es es'.toList := by
  obtain ⟨k, hk, hko⟩ := obj_some ho
  have hob := hi.obj _ _ _ _ hι hk
  rw [hko] at hob
  obtain ⟨_, es', hb, hes⟩ := hob
  exact ⟨k, es', hk, hko, hb, hes⟩
/-- the entries that a lookup ranges over -/
def esOf (h : H) : Value → Option (List MapEntry)
  | .map none => some []
  | .map (some r) => (match h.obj r with | some (.map es _) => some es | _ => none)
  | _ => none
theorem lookup_rel (hE : EnvOk e P) (hi : Inv ρ h w0 w) {t kt el : TypeId} {kd : TypeDesc} {v k v' k' : Value} {ok : Bool} {es : List MapEntry} {x : Value} (hv : VRel ρ v v') (hk : VRel ρ k k')
    (hu : e.under t = some (.map kt el)) (hkd : e.under kt = some kd) (hko : keyOk kd k = true) (hes : esOf h v = some es)
    (hx : (∃ j m, keyIdx kd k es 0 = some (some j) ∧ es[j]? = some m ∧ x = bif ok then .tuple ⟨[m.val, .bool true]⟩ else m.val) ∨
      (∃ z, keyIdx kd k es 0 = some none ∧ zeroOf e el = some z ∧ closedV z = true ∧ x = bif ok then .tuple ⟨[z, .bool false]⟩ else z)) :
    ∃ x', (Instr.lookup t v' k' ok).run P w = .ok x' w ∧ VRel ρ x x' := by
  have hru := r_underlying (w := w) (hE.under hu)
  have hke := hE.under hkd
  have key : ∀ es' : Array MapEntry, ERels ρ es es'.toList → ((∃ n, v' = .map none ∧ es' = #[] ∧ n = 0) ∨ ∃ β c, v' = .map (some β) ∧ w.heap[β]? = some (.map es' c)) →
      ∃ x', (Instr.lookup t v' k' ok).run P w = .ok x' w ∧ VRel ρ x x' := by
    intro es' her hor
    have hc := r_checkKey (w := w) hke hko hk es'.isEmpty
    rcases hx with ⟨j, m, hj, hm, rfl⟩ | ⟨z, hj, hz, hcz, rfl⟩
    · have hf := r_findKey (w := w) hke hk her hj
      obtain ⟨m', hm', her'⟩ := her.get hm
      have hm2 : es'[j]? = some m' := by rw [← Array.getElem?_toList]; exact hm'
      refine ⟨if ok then .tuple #[m'.val, .bool true] else m'.val, ?_, ?_⟩
      · rcases hor with ⟨_, rfl, rfl, _⟩ | ⟨β, c, rfl, hb⟩
        · simp at hm'
        · simp [Instr.lookup, hru, r_getObj hb (by intro _ _ _ hh; cases hh), hc, Result.andThen_ok, hf, hm2]
      · cases ok
        · exact her'.val
        · exact .tuple (.cons her'.val (.cons (.bool _) .nil))
    · have hf := r_findKey (w := w) hke hk her hj
      refine ⟨if ok then .tuple #[z, .bool false] else z, ?_, ?_⟩
      · rcases hor with ⟨_, rfl, rfl, _⟩ | ⟨β, c, rfl, hb⟩
        · have hc' : (Instr.checkKey true 10000 kt k').run P w = .ok () w := r_checkKey (w := w) hke hko hk true
          have hf' : (Instr.findKey kt k' []).run P w = .ok none w := hf
          simp [Instr.lookup, hru, hc', Result.andThen_ok, hf', r_zero hE hz]
        · simp [Instr.lookup, hru, r_getObj hb (by intro _ _ _ hh; cases hh), hc, Result.andThen_ok, hf, r_zero hE hz]
      · cases ok
        · exact closedV_rel ρ z hcz
        · exact .tuple (.cons (closedV_rel ρ z hcz) (.cons (.bool _) .nil))
  cases hv <;> simp only [esOf] at hes <;> try (cases hes; done)
  · cases hes; exact key #[] .nil (.inl ⟨0, rfl, rfl, rfl⟩)
  · rename_i r β hι
    split at hes
    · rename_i es0 c ho
      cases hes
      obtain ⟨kk, es', _, _, hb, her⟩ := map_of hi hι ho
      exact key es' her (.inr ⟨β, c, rfl, hb⟩)
    · cases hes
theorem sameBits_of {kd : TypeDesc} {k m k' m' : Value} (h : keyEq kd k m = some true) (h1 : VRel ρ k k') (h2 : VRel ρ m m') : Instr.sameBits 10000 m' k' = true := by
  unfold keyEq at h
  split at h
  · cases h1; cases h2
    rename_i a b
    have h2 := Option.some.inj h
    show (b == a) = true
    have h3 : (a.toList == b.toList) = true := by rw [← h2, bytesEq_iff, Lib.toList_data, Lib.toList_data]
    rw [beq_toListBytes, eq_of_beq h3]
    exact beq_self_eq_true _
  · rename_i j a j' b
    cases h1; cases h2
    cases hj : j == j' with
    | false => rw [hj] at h; cases h
    | true =>
      rw [hj] at h
      have h2 := Option.some.inj h
      rw [ibeq_iff] at h2
      have h3 := of_decide_eq_true h2
      have := eq_of_beq hj
      subst this h3
      show (j == j && a == a) = true
      simp
  · cases h
theorem keyIdx_le {kd : TypeDesc} {k : Value} : ∀ {ms : List MapEntry} {i j : Nat}, keyIdx kd k ms i = some (some j) → i ≤ j := by
  intro ms
  induction ms with
  | nil => intro i j h; simp [keyIdx] at h
  | cons m ms ih =>
    intro i j h
    simp only [keyIdx] at h
    split at h
    · simp only [Option.some.injEq] at h; omega
    · have := ih h; omega
    · cases h
theorem keyIdx_eq {kd : TypeDesc} {k : Value} : ∀ {es : List MapEntry} {i j : Nat}, keyIdx kd k es i = some (some j) → ∃ m, es[j - i]? = some m ∧ keyEq kd k m.key = some true := by
  intro es
  induction es with
  | nil => intro i j h; simp [keyIdx] at h
  | cons m ms ih =>
    intro i j h
    simp only [keyIdx] at h
    split at h
    · rename_i hk
      simp only [Option.some.injEq] at h; subst h
      exact ⟨m, by simp, hk⟩
    · rename_i hk
      obtain ⟨m', h1, h2⟩ := ih h
      have hle : i + 1 ≤ j := keyIdx_le h
      refine ⟨m', ?_, h2⟩
      rw [show j - i = (j - (i + 1)) + 1 by omega]
      simpa using h1
    · cases h
end Go.SX
namespace Go.SX
open Go.RowKit
variable {e : E} {ρ ρ' : Rho} {h h' : H} {w0 w w' : World} {P : Program} {tm : T Value} {a : Act}
theorem mapUpdate_rel (hE : EnvOk e P) (hi : Inv ρ h w0 w) {t kt el : TypeId} {kd : TypeDesc} {r c : Nat} {k x m' k' x' : Value} {es es2 : List MapEntry} {c2 : Nat} (hv : VRel ρ (.map (some r)) m') (hk : VRel ρ k k') (hxr : VRel ρ x x')
    (hu : e.under t = some (.map kt el)) (hkd : e.under kt = some kd) (hko : keyOk kd k = true) (ho : h.obj r = some (.map es c))
    (hx : (∃ j m, keyIdx kd k es 0 = some (some j) ∧ es[j]? = some m ∧ es2 = es.set j { m with key := k, val := x } ∧ c2 = c) ∨
      (keyIdx kd k es 0 = some none ∧ es2 = es ++ [{ key := k, val := x, born := c }] ∧ c2 = c + 1)) :
    ∃ w', (Instr.mapUpdate t m' k' x').run P w = .ok () w' ∧ Inv ρ (h.put r (.map es2 c2)) w0 w' := by
  have hru := r_underlying (w := w) (hE.under hu)
  have hke := hE.under hkd
  cases hv with
  | @map r β hι =>
  obtain ⟨kk, es', hkk, hko2, hb, her⟩ := map_of hi hι ho
  have hc := r_checkKey (w := w) hke hko hk false
  have hgo := r_getObj (P := P) hb (by intro _ _ _ hh; cases hh)
  have hso : ∀ o', (setObj β o').run P w = .ok () { w with heap := w.heap.setIfInBounds β o' } := fun o' => r_setObj (P := P) (o' := o') hb (by intro _ _ _ hh; cases hh)
  have hput : ∀ (esn : Array MapEntry) (cn : Nat), ERels ρ es2 esn.toList → cn = c2 → Inv ρ (h.put r (.map es2 c2)) w0 { w with heap := w.heap.setIfInBounds β (.map esn cn) } := by
    intro esn cn hr hcn
    obtain ⟨ht, hb'⟩ := Turned.setObj w (o' := .map esn cn) hb
    refine hi.put hkk hι ?_ ?_ ht ?_
    · rw [hko2]; simp [kindOf]
    · simp [kindOf]
    · subst hcn; exact ⟨rfl, esn, hb', hr⟩
  rcases hx with ⟨j, m, hj, hm, rfl, rfl⟩ | ⟨hj, rfl, rfl⟩
  · have hf := r_findKey (w := w) hke hk her hj
    obtain ⟨m2, hm', her'⟩ := her.get hm
    have hm2 : es'[j]? = some m2 := by rw [← Array.getElem?_toList]; exact hm'
    obtain ⟨m0, hm0, hkeq⟩ := keyIdx_eq hj
    rw [Nat.sub_zero, hm] at hm0; cases hm0
    have hsb := sameBits_of hkeq hk her'.key
    have hkeep : (Instr.keyThatStays m2.key k').run P w = .ok k' w := by
      unfold Instr.keyThatStays
      rw [hsb]; rfl
    refine ⟨_, ?_, hput (es'.modify j fun e => { e with key := k', val := x' }) c2 ?_ rfl⟩
    · simp [Instr.mapUpdate, hru, hgo, hc, hf, hm2, hkeep, hso, Result.andThen_ok]
    · have : (es'.modify j fun e => { e with key := k', val := x' }).toList = es'.toList.set j { m2 with key := k', val := x' } := by
        apply List.ext_getElem?
        intro i
        rw [Array.getElem?_toList, Array.getElem?_modify, List.getElem?_set]
        by_cases hij : j = i
        · subst hij
          rw [if_pos rfl, if_pos rfl, hm2]
          have : j < es'.size := (Array.getElem?_eq_some_iff.1 hm2).1
          simp [this]
        · rw [if_neg hij, if_neg hij, Array.getElem?_toList]
      rw [this]
      exact her.set ⟨hk, hxr, her'.born⟩
  · have hf := r_findKey (w := w) hke hk her hj
    refine ⟨_, ?_, hput (es'.push { key := k', val := x', born := c }) (c + 1) ?_ rfl⟩
    · simp [Instr.mapUpdate, hru, hgo, hc, hf, hso, Result.andThen_ok]
    · simp only [Array.toList_push]
      exact her.append (.cons ⟨hk, hxr, rfl⟩ .nil)
theorem range_rel (hE : EnvOk e P) (hi : Inv ρ h w0 w) {t kt el : TypeId} {v v' : Value} {m : Option Nat} {c : Nat} (hu : e.under t = some (.map kt el)) (hv : VRel ρ v v')
    (hx : (v = .map none ∧ m = none ∧ c = 0) ∨ ∃ r es, v = .map (some r) ∧ m = some r ∧ h.obj r = some (.map es c)) :
    RSound P ρ h.n w0 w ((do pure (.value (← Instr.range t v')) : Sem Next).run P w) (.val (.pointer (some ⟨h.n, 0, none⟩)) (h.new (.miter m c [] c))) := by
  have hru := r_underlying (w := w) (hE.under hu)
  have key : ∀ m', OptRel (fun a b => ρ.ι a = some (b, 0)) m m' → (Instr.range t v').run P w = .ok (.pointer (some ⟨w.heap.size, 0, none⟩)) (w.alloc (.mapIter m' c #[] c)) →
      RSound P ρ h.n w0 w ((do pure (.value (← Instr.range t v')) : Sem Next).run P w) (.val (.pointer (some ⟨h.n, 0, none⟩)) (h.new (.miter m c [] c))) := by
    intro m' hm hr
    have hle : ρ.Le (ρ.add h.n w.heap.size 0 0) := Rho.le_add (hi.unmapped (Nat.le_refl _)) (fun s' b' e' hs' => Nat.ne_of_lt (hi.hi hs'))
    obtain ⟨hi2, hle⟩ := hi.new (n := 0) (o := .miter m c [] c) (O := .mapIter m' c #[] c) ⟨rfl, m', #[], heap_alloc_new _ _, rfl, hm.mono fun _ _ hh => hle.ι _ _ hh⟩
    exact ⟨_, _, _, Rho.ext_add hle, by simp only [Sem.run_bind, hr, Result.andThen_ok, Sem.run_pure], .ptr 0 add_ι, hi2⟩
  rcases hx with ⟨rfl, rfl, rfl⟩ | ⟨r, es, rfl, rfl, ho⟩
  · cases hv
    exact key none .none (by simp [Instr.range, hru, Result.andThen_ok])
  · cases hv with
    | @map r β hι =>
      obtain ⟨kk, es', _, _, hb, _⟩ := map_of hi hι ho
      have hgo := r_getObj (P := P) hb (by intro _ _ _ hh; cases hh)
      exact key (some β) (.some hι) (by simp [Instr.range, hru, hgo, Result.andThen_ok])
end Go.SX
namespace Go.SX
open Go.RowKit
variable {e : E} {ρ ρ' : Rho} {h h' : H} {w0 w w' : World} {P : Program} {tm : T Value} {a : Act}
theorem ERels.filter {x y : List MapEntry} (hr : ERels ρ x y) (q : Nat → Bool) : ERels ρ (x.filter fun m => q m.born) (y.filter fun m => q m.born) := by
  induction hr with
  | nil => exact .nil
  | cons hh t ih =>
    rename_i a b x y
    simp only [List.filter_cons, hh.born]
    split
    · exact .cons hh ih
    · exact ih
theorem ERels.all {x y : List MapEntry} (hr : ERels ρ x y) (q : Nat → Bool) : (x.all fun m => q m.born) = (y.all fun m => q m.born) := by
  induction hr with
  | nil => rfl
  | cons hh t ih => simp only [List.all_cons, hh.born, ih]
theorem any_contains (seen : List Nat) (n : Nat) : seen.any (Nat.beq n) = seen.contains n := by
  induction seen with
  | nil => rfl
  | cons x xs ih =>
    simp only [List.any_cons, List.contains_cons, ih]
    have : n.beq x = (n == x) := by
      cases hh : n.beq x with
      | true => rw [Nat.eq_of_beq_eq_true hh]; simp
      | false =>
        have : n ≠ x := by intro q; subst q; rw [beqT] at hh; cases hh
        simp [this]
    rw [this]
theorem next_rel (hE : EnvOk e P) (hi : Inv ρ h w0 w) {pb : Nat} {v' : Value} {ty : TypeId} {r : R} (hv : VRel ρ (.pointer (some ⟨pb, 0, none⟩)) v')
    (hx : (match h.obj pb with
      | some (.miter none _ _ _) => some (.val (.tuple ⟨[.bool false]⟩) h)
      | some (.miter (some r) since seen last) => (match h.obj r with
        | some (.map es c) => bif !seen.isEmpty && !es.isEmpty && es.all (fun x => Nat.ble last x.born) then none else
          (match es.filter (fun x => !seen.any (Nat.beq x.born)) with
          | [] => some (.val (.tuple ⟨[.bool false]⟩) h)
          | [x] => bif Nat.blt x.born since then some (.val (.tuple ⟨[.bool true, x.key, x.val]⟩) (h.put pb (.miter (some r) since (lapp seen [x.born]) c))) else none
          | _ => none)
        | _ => none)
      | _ => none) = some r) : RSound P ρ h.n w0 w ((do pure (.value (← Instr.next v' false ty)) : Sem Next).run P w) r := by
  obtain ⟨β, d, hι, rfl⟩ := ptr_inv hv
  cases ho : h.obj pb with
  | none => simp [ho] at hx
  | some ob =>
    obtain ⟨k, hk, hko⟩ := obj_some ho
    have hob := hi.obj _ _ _ _ hι hk
    rw [hko] at hob
    cases ob with
    | miter m since seen last =>
      obtain ⟨rfl, m', seen', hb, hs, hm⟩ := hob
      subst hs
      have hgo := r_getObj (P := P) hb (by intro _ _ _ hh; cases hh)
      cases hm with
      | none =>
        simp only [ho, Option.some.injEq] at hx; subst hx
        exact RSound.v hi (v' := .tuple #[.bool false]) (by simp [Instr.next, hgo, Result.andThen_ok]) (.tuple (.cons (.bool _) .nil))
      | some hmm =>
        rename_i mr mβ
        simp only [ho] at hx
        cases ho2 : h.obj mr with
        | none => simp [ho2] at hx
        | some ob2 =>
          cases ob2 with
          | map es c =>
            simp only [ho2] at hx
            obtain ⟨k2, es', hk2, hko3, hb2, her⟩ := map_of hi hmm ho2
            have hgo2 := r_getObj (P := P) hb2 (by intro _ _ _ hh; cases hh)
            cases hcnd : (!seen'.toList.isEmpty && !es.isEmpty && es.all (fun x => Nat.ble last x.born)) with
            | true => rw [hcnd] at hx; cases hx
            | false =>
              rw [hcnd, cond_false] at hx
              have hcnd' : (!seen'.isEmpty && !es'.isEmpty && es'.all (fun x => decide (x.born ≥ last))) = false := by
                rw [← hcnd]
                have e1 : es.all (fun x => Nat.ble last x.born) = es'.all (fun x => decide (x.born ≥ last)) := by
                  rw [her.all (Nat.ble last), ← Array.all_toList]
                  congr 1
                  funext x
                  cases hh : Nat.ble last x.born with
                  | true => simp [Nat.le_of_ble_eq_true hh]
                  | false =>
                    have : ¬ last ≤ x.born := fun q => by rw [Nat.ble_eq_true_of_le q] at hh; cases hh
                    simp [this]
                have e2 : es.isEmpty = es'.isEmpty := by
                  have := her.length
                  cases es with
                  | nil => cases hes : es'.toList with
                    | nil => have : es' = #[] := by apply Array.ext'; simpa using hes
                             subst this; rfl
                    | cons _ _ => rw [hes] at this; simp at this
                  | cons _ _ =>
                    cases hes : es'.toList with
                    | nil => rw [hes] at this; simp at this
                    | cons _ _ =>
                      have : es'.isEmpty = false := by
                        rw [Array.isEmpty_eq_false_iff]
                        intro hh; subst hh; simp at hes
                      rw [this]; rfl
                have e3 : seen'.toList.isEmpty = seen'.isEmpty := by simp
                rw [e1, e2, e3]
              have hfil := her.filter (fun n => !seen'.toList.any (Nat.beq n))
              simp only [any_contains] at hfil hx
              have hleft : (es'.filter fun m => !seen'.contains m.born).toList = es'.toList.filter fun m => !seen'.toList.contains m.born := by simp
              cases hl : es.filter (fun x => !seen'.toList.contains x.born) with
              | nil =>
                rw [hl] at hx hfil
                simp only [Option.some.injEq] at hx; subst hx
                have hempty : (es'.filter fun m => !seen'.contains m.born) = #[] := by
                  apply Array.ext'
                  rw [hleft]
                  cases hq : es'.toList.filter fun m => !seen'.toList.contains m.born with
                  | nil => rfl
                  | cons _ _ => rw [hq] at hfil; cases hfil
                refine RSound.v hi (v' := .tuple #[.bool false]) ?_ (.tuple (.cons (.bool _) .nil))
                simp only [Instr.next, Sem.run_bind, hgo, Nat.add_zero, Result.andThen_ok, hgo2, hcnd', hempty]
                simp [Question.forced]
              | cons x xs =>
                cases xs with
                | cons _ _ => rw [hl] at hx; cases hx
                | nil =>
                  rw [hl] at hx hfil
                  simp only at hx
                  cases hbl : Nat.blt x.born since with
                  | false => simp [hbl] at hx
                  | true =>
                    simp only [hbl, cond_true, Option.some.injEq, lapp_eq] at hx; subst hx
                    cases hq : es'.toList.filter fun m => !seen'.toList.contains m.born with
                    | nil => rw [hq] at hfil; cases hfil
                    | cons y ys =>
                      rw [hq] at hfil
                      cases hfil with
                      | cons hxy hys =>
                      cases hys
                      have hone : (es'.filter fun m => !seen'.contains m.born) = #[y] := by
                        apply Array.ext'
                        rw [hleft, hq]
                      have hlt : y.born < since := by rw [← hxy.born]; exact Nat.le_of_ble_eq_true hbl
                      have hso := r_setObj (P := P) (o' := .mapIter (some mβ) since (seen'.push y.born) c) hb (by intro _ _ _ hh; cases hh)
                      obtain ⟨ht, hb'⟩ := Turned.setObj w (o' := .mapIter (some mβ) since (seen'.push y.born) c) hb
                      have hi2 : Inv ρ (h.put pb (.miter (some mr) since (seen'.toList ++ [x.born]) c)) w0 _ := hi.put hk hι (by rw [hko]; simp [kindOf]) (by simp [kindOf]) ht
                        ⟨rfl, some mβ, seen'.push y.born, hb', by simp [hxy.born], .some hmm⟩
                      refine ⟨ρ, _, .tuple #[.bool true, y.key, y.val], .of_eq ρ (H.put_n ..), ?_, .tuple (.cons (.bool _) (.cons hxy.key (.cons hxy.val .nil))), hi2⟩
                      simp only [Instr.next, Sem.run_bind, hgo, Nat.add_zero, Result.andThen_ok, hgo2, hcnd', hone]
                      have hge : ¬ since ≤ y.born := by omega
                      simp [Question.forced, hlt, hge, hso]
          | _ => simp [ho2] at hx
    | _ => simp [ho] at hx
theorem typeAssert_rel (hE : EnvOk e P) (hi : Inv ρ h w0 w) {t xt : TypeId} {v v' : Value} {ok : Bool} {r : R} (hv : VRel ρ v v')
    (hx : (match (generalizing := false) e.under t, v with
    | some (.interface _), .iface _ _ => none
    | some _, .nilIface => bif ok then bind1 (zeroOf e t) fun z => bif closedV z then some (.val (.tuple ⟨[z, .bool false]⟩) h) else none else none
    | some _, .iface d w => bif Nat.beq d t then some (.val (bif ok then .tuple ⟨[w, .bool true]⟩ else w) h) else
          bif ok then bind1 (zeroOf e t) fun z => bif closedV z then some (.val (.tuple ⟨[z, .bool false]⟩) h) else none else none
    | _, _ => none) = some r) : RSound P ρ h.n w0 w ((do pure (.value (← Instr.typeAssert v' xt t ok)) : Sem Next).run P w) r := by
  cases hu : e.under t with
  | none => rw [hu] at hx; cases hv <;> simp at hx
  | some d =>
    have hru := r_underlying (w := w) (hE.under hu)
    rw [hu] at hx
    have hzero : (bif ok then bind1 (zeroOf e t) fun z => bif closedV z then some (R.val (.tuple ⟨[z, .bool false]⟩) h) else none else none) = some r →
        ∃ z, ok = true ∧ zeroOf e t = some z ∧ closedV z = true ∧ r = .val (.tuple ⟨[z, .bool false]⟩) h := by
      intro hq
      cases ok with
      | false => cases hq
      | true =>
        obtain ⟨z, hz, hq⟩ := bind1_some hq
        cases hc : closedV z with
        | false => simp [hc] at hq
        | true => simp only [hc, cond_true, Option.some.injEq] at hq; exact ⟨z, rfl, hz, hc, hq.symm⟩
    cases hv with
    | iface0 =>
      have hx' : (bif ok then bind1 (zeroOf e t) fun z => bif closedV z then some (R.val (.tuple ⟨[z, .bool false]⟩) h) else none else none) = some r := by
        cases d <;> exact hx
      obtain ⟨z, rfl, hz, hc, rfl⟩ := hzero hx'
      refine RSound.v hi (v' := .tuple #[z, .bool false]) ?_ (.tuple (.cons (closedV_rel ρ z hc) (.cons (.bool _) .nil)))
      cases d <;> simp [Instr.typeAssert, hru, r_zero hE hz, Result.andThen_ok]
    | @iface u x x' hxx =>
      have hni : ∀ ms, d ≠ .interface ms := by intro ms hh; subst hh; cases hx
      have hx' : (bif Nat.beq u t then some (R.val (bif ok then .tuple ⟨[x, .bool true]⟩ else x) h) else
          bif ok then bind1 (zeroOf e t) fun z => bif closedV z then some (R.val (.tuple ⟨[z, .bool false]⟩) h) else none else none) = some r := by
        cases d <;> first | exact hx | exact absurd rfl (hni _)
      have hrun : ∀ v1, ((if u = t then (pure (if ok then .tuple #[x', .bool true] else x') : Sem Value) else if ok then (do pure (.tuple #[← zeroValue t, .bool false])) else runtimePanic (.typeAssertion (some xt) (some u) t "")).run P w = .ok v1 w) →
          (Instr.typeAssert (.iface u x') xt t ok).run P w = .ok v1 w := by
        intro v1 hq
        cases d <;> first | exact absurd rfl (hni _) | (simpa [Instr.typeAssert, hru, Result.andThen_ok] using hq)
      cases hut : Nat.beq u t with
      | true =>
        obtain rfl := Nat.eq_of_beq_eq_true hut
        simp only [hut, cond_true, Option.some.injEq] at hx'; subst hx'
        refine RSound.v hi (v' := if ok then .tuple #[x', .bool true] else x') (hrun _ ?_) ?_
        · rw [if_pos rfl]; rfl
        · cases ok
          · exact hxx
          · exact .tuple (.cons hxx (.cons (.bool _) .nil))
      | false =>
        simp only [hut, cond_false] at hx'
        obtain ⟨z, rfl, hz, hc, rfl⟩ := hzero hx'
        have hne : ¬ u = t := by intro hh; subst hh; rw [beqT] at hut; cases hut
        refine RSound.v hi (v' := .tuple #[z, .bool false]) (hrun _ ?_) (.tuple (.cons (closedV_rel ρ z hc) (.cons (.bool _) .nil)))
        rw [if_neg hne]
        simp [r_zero hE hz, Result.andThen_ok]
    | _ => cases d <;> cases hx
end Go.SX
namespace Go.SX
open Go.RowKit
variable {e : E} {ρ ρ' : Rho} {h h' : H} {w0 w w' : World} {P : Program} {tm : T Value} {a : Act}
theorem fresh_case (hE : EnvOk e P) (hi : Inv ρ h w0 w) (ht : TRel ρ tm a.tmps) {o : Oper} {r : R}
    (hx : (match xfresh e tm o.op with | some (ob, mk) => some (R.val (mk.at h.n) (h.new ob)) | none => none) = some r) : RSound P ρ h.n w0 w ((execOp a.eval o).run P w) r := by
  cases hf : xfresh e tm o.op with
  | none => rw [hf] at hx; cases hx
  | some p =>
    obtain ⟨ob, mk⟩ := p
    rw [hf] at hx
    cases hx
    obtain ⟨O, n, v', h1, _, h2⟩ := xfresh_rel (P := P) (w := w) hE ht hf
    have hle : ρ.Le (ρ.add h.n w.heap.size 0 n) := Rho.le_add (hi.unmapped (Nat.le_refl _)) (fun s' b' e' hs' => Nat.ne_of_lt (hi.hi hs'))
    obtain ⟨h3, h4⟩ := h2 h.n hle
    obtain ⟨hi2, _⟩ := hi.new (O := O) h3
    exact ⟨_, _, v', Rho.ext_add hle, h1, h4, hi2⟩
theorem storeVar_n {t : TypeId} {r off : Nat} {v : Value} (hs : storeVar e h t r off v = some h') : h'.n = h.n := by
  unfold storeVar at hs
  split at hs
  · rename_i n hn
    cases hb : Nat.beq (llen (vcells v)) n with
    | false => rw [hb] at hs; cases hs
    | true =>
      rw [hb, cond_true] at hs
      obtain ⟨_, _, _, _, _, _, hn, _⟩ := storeAt_form hs
      exact hn
  · cases hs
theorem args_rel (ht : TRel ρ tm a.tmps) {xs : Array Operand} {vs : List Value} (hx : evs tm xs.toList = some vs) : VRels ρ vs (xs.map a.eval).toList := by
  rw [Array.toList_map]; exact evs_rel ht hx
theorem update_case (hE : EnvOk e P) (hi : Inv ρ h w0 w) (ht : TRel ρ tm a.tmps) {o : Oper} {t : TypeId} {m k x : Operand} {r : R} (hop : o.op = .mapUpdate t m k x ∨ o.op = .insert t m k x)
    (hx : (bind2 (ev tm m) (ev tm k) fun mv kv => bind1 (ev tm x) fun xv => (match mv, e.under t with
    | .map (some r), some (.map kt _) => (match e.under kt, h.obj r with
      | some kd, some (.map es c) => bif keyOk kd kv then (match keyIdx kd kv es 0 with
        | some (some j) => (match lget es j with
          | some m => some (.skip (h.put r (.map (lset es j { m with key := kv, val := xv }) c)))
          | none => none)
        | some none => some (.skip (h.put r (.map (lapp es [{ key := kv, val := xv, born := c }]) (c + 1))))
        | none => none) else none
      | _, _ => none)
    | _, _ => none)) = some r) : RSound P ρ h.n w0 w ((execOp a.eval o).run P w) r := by
  obtain ⟨mv, kv, hm, hk, hx1⟩ := bind2_some hx
  clear hx
  obtain ⟨xv, hv, hx⟩ := bind1_some hx1
  clear hx1
  have hmr := ev_rel ht hm
  cases mv <;> try (cases hx; done)
  rename_i mo
  cases mo with
  | none => cases hx
  | some r0 =>
  cases hut : e.under t with
  | none => rw [hut] at hx; cases hx
  | some d =>
    rw [hut] at hx
    cases d <;> try (cases hx; done)
    rename_i kt el
    simp only at hx
    cases hkd : e.under kt with
    | none => rw [hkd] at hx; cases hx
    | some kd =>
      cases ho : h.obj r0 with
      | none => rw [hkd, ho] at hx; cases hx
      | some ob =>
        rw [hkd, ho] at hx
        cases ob <;> try (cases hx; done)
        rename_i es c
        simp only at hx
        cases hko : keyOk kd kv with
        | false => rw [hko] at hx; cases hx
        | true =>
          rw [hko, cond_true] at hx
          have fin : ∀ {es2 : List MapEntry} {c2 : Nat}, r = .skip (h.put r0 (.map es2 c2)) → ((∃ j m, keyIdx kd kv es 0 = some (some j) ∧ es[j]? = some m ∧ es2 = es.set j { m with key := kv, val := xv } ∧ c2 = c) ∨
              (keyIdx kd kv es 0 = some none ∧ es2 = es ++ [{ key := kv, val := xv, born := c }] ∧ c2 = c + 1)) → RSound P ρ h.n w0 w ((execOp a.eval o).run P w) r := by
            intro es2 c2 hr hor
            subst hr
            obtain ⟨w', q1, q2⟩ := mapUpdate_rel (P := P) hE hi hmr (ev_rel ht hk) (ev_rel ht hv) hut hkd hko ho hor
            refine ⟨ρ, w', .of_eq ρ (H.put_n ..), ?_, q2⟩
            rcases hop with hop | hop <;> simp [execOp, hop, q1, Result.andThen_ok]
          cases hki : keyIdx kd kv es 0 with
          | none => rw [hki] at hx; cases hx
          | some oj =>
            rw [hki] at hx
            cases oj with
            | some j =>
              simp only [lget_at, lset_eq] at hx
              cases hmm : es[j]? with
              | none => rw [hmm] at hx; cases hx
              | some m => rw [hmm] at hx; cases hx; exact fin rfl (.inl ⟨j, m, hki, hmm, rfl, rfl⟩)
            | none =>
              simp only [lapp_eq] at hx
              cases hx; exact fin rfl (.inr ⟨hki, rfl, rfl⟩)
theorem xop_sound (hE : EnvOk e P) (hi : Inv ρ h w0 w) (ht : TRel ρ tm a.tmps) {o : Oper} {r : R} (hx : xop e tm h o = some r) : RSound P ρ h.n w0 w ((execOp a.eval o).run P w) r := by
  unfold xop at hx
  cases hop : o.op with
  | move x =>
    rw [hop] at hx
    obtain ⟨v, hv, rfl⟩ := ret_some hx
    exact RSound.same hi (by simp [execOp, hop]) (ev_rel ht hv)
  | assign x =>
    rw [hop] at hx
    obtain ⟨v, hv, rfl⟩ := ret_some hx
    exact RSound.same hi (by simp [execOp, hop]) (ev_rel ht hv)
  | pick c x y =>
    rw [hop] at hx
    obtain ⟨v, hv, hx1⟩ := bind1_some hx
    clear hx
    have hx := hx1
    clear hx1
    have hr := ev_rel ht hv
    cases v <;> try (cases hx; done)
    rename_i b
    obtain ⟨u, hu, rfl⟩ := ret_some hx
    generalize hcc : a.eval c = cc at hr
    cases hr
    refine RSound.same hi (v' := if b then a.eval x else a.eval y) (by simp [execOp, hop, hcc, asBool]) ?_
    cases b
    · exact ev_rel ht hu
    · exact ev_rel ht hu
  | alloc _ => rw [hop] at hx; exact fresh_case hE hi ht (by rw [hop]; exact hx)
  | box _ _ => rw [hop] at hx; exact fresh_case hE hi ht (by rw [hop]; exact hx)
  | buildSlice _ _ _ => rw [hop] at hx; exact fresh_case hE hi ht (by rw [hop]; exact hx)
  | makeMap _ _ => rw [hop] at hx; exact fresh_case hE hi ht (by rw [hop]; exact hx)
  | makeSlice _ _ _ => rw [hop] at hx; exact fresh_case hE hi ht (by rw [hop]; exact hx)
  | build t ps =>
    rw [hop] at hx
    simp only at hx
    cases hu : e.under t with
    | none => rw [hu] at hx; cases hx
    | some d =>
      cases hz : zeroOf e t with
      | none => rw [hu, hz] at hx; cases d <;> cases hx
      | some z =>
        cases hp : evParts tm ps.toList with
        | none => rw [hu, hz, hp] at hx; cases d <;> cases hx
        | some vs =>
          rw [hu, hz, hp] at hx
          have hpr := evParts_rel ht hp
          have hpr' : PRels ρ vs (ps.map fun (i, x) => (i, a.eval x)).toList := by rw [Array.toList_map]; exact hpr
          have fin : ∀ cs, r = .val (.agg ⟨cs⟩) h → closedV z = true → ((∃ fs, d = .struct fs ∧ allSized e fs.toList = true ∧ fillL (place e fs.toList) (vcells z) vs = some cs) ∨ (∃ n el k, d = .array n el ∧ sizeOf e el = some k ∧ fillL (fun i => some (i * k, k)) (vcells z) vs = some cs)) →
              RSound P ρ h.n w0 w ((execOp a.eval o).run P w) r := by
            intro cs hr hc hor
            subst hr
            obtain ⟨v', h1, h2⟩ := build_rel (P := P) (w := w) hE hpr' hu hz hc hor
            have := RSound.v hi h1 h2
            simpa [execOp, hop] using this
          cases d <;> try (cases hx; done)
          rotate_left
          · rename_i fs
            simp only at hx
            cases hc : closedV z <;> cases hal : allSized e fs.toList <;> simp only [hc, hal, Bool.and_true, Bool.and_false, cond_true, cond_false] at hx <;> try (cases hx; done)
            cases hfl : fillL (place e fs.toList) (vcells z) vs with
            | none => rw [hfl] at hx; cases hx
            | some cs => rw [hfl] at hx; cases hx; exact fin cs rfl hc (.inl ⟨fs, rfl, hal, hfl⟩)
          · rename_i n el
            simp only at hx
            cases hk : sizeOf e el with
            | none => rw [hk] at hx; cases hx
            | some k =>
              simp only [hk] at hx
              cases hc : closedV z with
              | false => rw [hc] at hx; cases hx
              | true =>
                simp only [hc, cond_true] at hx
                cases hfl : fillL (fun i => some (i * k, k)) (vcells z) vs with
                | none => rw [hfl] at hx; cases hx
                | some cs => rw [hfl] at hx; cases hx; exact fin cs rfl hc (.inr ⟨n, el, k, rfl, hk, hfl⟩)
  | load t x =>
    rw [hop] at hx
    obtain ⟨v, hv, hx1⟩ := bind1_some hx
    clear hx
    have hx := hx1
    clear hx1
    have hr := ev_rel ht hv
    cases v <;> try (cases hx; done)
    rename_i p
    cases p with
    | none => cases hx
    | some p =>
      obtain ⟨u, hu, rfl⟩ := ret_some hx
      obtain ⟨β, d, hι, hpe⟩ := ptr_inv hr
      obtain ⟨v', h1, h2⟩ := loadVar_rel (P := P) hE hi hu hι
      have := RSound.v hi (s := Instr.loadAt t (a.eval x)) (P := P) (by rw [hpe]; simpa [Instr.loadAt, Instr.sureAddr] using h1) h2
      simpa [execOp, hop] using this
  | store t x y =>
    rw [hop] at hx
    obtain ⟨v, u, hv, hu, hx1⟩ := bind2_some hx
    clear hx
    have hx := hx1
    clear hx1
    have hr := ev_rel ht hv
    have hr2 := ev_rel ht hu
    cases v <;> try (cases hx; done)
    rename_i p
    cases p with
    | none => cases hx
    | some p =>
      simp only at hx
      cases hs : storeVar e h t p.block p.off u with
      | none => rw [hs] at hx; cases hx
      | some h2 =>
        rw [hs] at hx; cases hx
        obtain ⟨β, d, hι, hpe⟩ := ptr_inv hr
        obtain ⟨w', h1, h3⟩ := storeVar_rel (P := P) hE hi hs hι hr2
        refine ⟨ρ, w', .of_eq ρ (storeVar_n hs), ?_, h3⟩
        simp [execOp, hop, Instr.storeAt, hpe, Instr.sureAddr, h1, Result.andThen_ok]
  | nilCheck x =>
    rw [hop] at hx
    obtain ⟨v, hv, hx1⟩ := bind1_some hx
    clear hx
    have hx := hx1
    clear hx1
    have hr := ev_rel ht hv
    generalize hcc : a.eval x = cc at hr
    cases hr with
    | ptr0 => cases hx; simpa [execOp, hop, hcc] using RSound.nilDeref hE hi
    | iface0 => cases hx; simpa [execOp, hop, hcc] using RSound.nilDeref hE hi
    | func0 => cases hx; simpa [execOp, hop, hcc] using RSound.nilDeref hE hi
    | @func f f' fa fa' fb fb' hf ha hb =>
      cases hf with
      | method name =>
        simp only at hx
        cases ha with
        | nil => cases hx
        | @cons q q' qs qs' hq hqs =>
          cases hq <;> try (cases hx; done)
          rename_i t u u' huu
          simp only at hx
          cases hah : aheadOk e t u name with
          | false => rw [hah] at hx; cases hx
          | true =>
            rw [hah] at hx; cases hx
            have hn := xnil_rel (P := P) (w := w) hE hah huu
            have e0 : ∀ (l : List Value), (⟨(Value.iface t u') :: l⟩ : Array Value)[0]? = some (Value.iface t u') := fun _ => rfl
            refine RSound.same hi (v' := .func (.method name) ⟨.iface t u' :: qs'⟩ ⟨fb'⟩) ?_ (.func (.method name) (.cons (.iface _ huu) hqs) hb)
            simp [execOp, hop, hcc, e0, hn, Result.andThen_ok]
      | func f => cases hx; exact RSound.same hi (by simp [execOp, hop, hcc]) (.func (.func f) ha hb)
      | methodOf t n => cases hx; exact RSound.same hi (by simp [execOp, hop, hcc]) (.func (.methodOf t n) ha hb)
      | yield hl => cases hx; exact RSound.same hi (by simp [execOp, hop, hcc]) (.func (.yield hl) ha hb)
    | bool b => cases hx; exact RSound.same hi (by simp [execOp, hop, hcc]) (.bool b)
    | int k n => cases hx; exact RSound.same hi (by simp [execOp, hop, hcc]) (.int k n)
    | string s => cases hx; exact RSound.same hi (by simp [execOp, hop, hcc]) (.string s)
    | ptr o hι => cases hx; exact RSound.same hi (by simp [execOp, hop, hcc]) (.ptr o hι)
    | sl0 c => cases hx; exact RSound.same hi (by simp [execOp, hop, hcc]) (.sl0 c)
    | sl h1 h2 h3 h4 h5 h6 => cases hx; exact RSound.same hi (by simp [execOp, hop, hcc]) (.sl h1 h2 h3 h4 h5 h6)
    | map0 => cases hx; exact RSound.same hi (by simp [execOp, hop, hcc]) .map0
    | map hι => cases hx; exact RSound.same hi (by simp [execOp, hop, hcc]) (.map hι)
    | iface t hh => cases hx; exact RSound.same hi (by simp [execOp, hop, hcc]) (.iface t hh)
    | agg hh => cases hx; exact RSound.same hi (by simp [execOp, hop, hcc]) (.agg hh)
    | tuple hh => cases hx; exact RSound.same hi (by simp [execOp, hop, hcc]) (.tuple hh)
  | binOp op t x y c =>
    rw [hop] at hx
    obtain ⟨v, u, hv, hu, hx1⟩ := bind2_some hx
    clear hx
    have hx := hx1
    clear hx1
    obtain ⟨z, hz, rfl⟩ := ret_some hx
    obtain ⟨v', h1, h2⟩ := xbin_rel (P := P) (w := w) hE hz (ev_rel ht hv) (ev_rel ht hu)
    have := RSound.v hi h1 h2
    simpa [execOp, hop] using this
  | unOp op t x =>
    rw [hop] at hx
    obtain ⟨v, hv, hx1⟩ := bind1_some hx
    clear hx
    have hx := hx1
    clear hx1
    have hr := ev_rel ht hv
    generalize hcc : a.eval x = cc at hr
    cases op <;> cases hr <;> simp only at hx <;> try (cases hx; done)
    · cases hx; exact RSound.same hi (by simp [execOp, hop, hcc, Op.unary, Op.intArith, fit_eq]) (.int _ _)
    · cases hx; exact RSound.same hi (by simp [execOp, hop, hcc, Op.unary]) (.bool _)
  | convert s d x =>
    rw [hop] at hx
    obtain ⟨v, hv, hx1⟩ := bind1_some hx
    clear hx
    have hx := hx1
    clear hx1
    have := xconv_rel (P := P) hE hi hx (ev_rel ht hv)
    simpa [execOp, hop] using this
  | makeInterface t x =>
    rw [hop] at hx
    simp only at hx
    cases hu : e.under t with
    | none => rw [hu] at hx; cases hx
    | some d =>
      have hru := r_underlying (w := w) (hE.under hu)
      rw [hu] at hx
      have hx2 : (∀ ms, d ≠ .interface ms) ∧ (bind1 (ev tm x) fun v => some (R.val (.iface t v) h)) = some r := by
        cases d <;> first | (cases hx; done) | exact ⟨(by intro ms hh; cases hh), hx⟩
      obtain ⟨hni, hx⟩ := hx2
      obtain ⟨v, hv, hx⟩ := bind1_some hx
      cases hx
      refine RSound.same hi (v' := .iface t (a.eval x)) ?_ (.iface t (ev_rel ht hv))
      cases d <;> first | exact absurd rfl (hni _) | simp [execOp, hop, Instr.makeInterface, hru, Result.andThen_ok]
  | makeFunc fn first captured =>
    rw [hop] at hx
    simp only at hx
    cases hpf : plainFn fn with
    | false => rw [hpf] at hx; cases hx
    | true =>
    rw [hpf, cond_true] at hx
    have hfr : FnRel ρ fn fn := by cases fn <;> first | (cases hpf; done) | exact .func _ | exact .method _ | exact .methodOf _ _
    cases h1 : evs tm first.toList with
    | none => rw [h1] at hx; cases hx
    | some x =>
      cases h2 : evs tm captured.toList with
      | none => rw [h1, h2] at hx; cases hx
      | some y =>
        rw [h1, h2] at hx; cases hx
        exact RSound.same hi (v' := .func fn (first.map a.eval) (captured.map a.eval)) (by simp [execOp, hop, Instr.makeFunc]) (.func (a' := (first.map a.eval).toList) (b' := (captured.map a.eval).toList) hfr (args_rel ht h1) (args_rel ht h2))
  | slice t x lo hi2 mx =>
    rw [hop] at hx
    obtain ⟨v, hv, hx1⟩ := bind1_some hx
    clear hx
    have hx := hx1
    clear hx1
    cases h1 : oev tm lo with
    | none => rw [h1] at hx; cases hx
    | some p =>
      cases h2 : oev tm hi2 with
      | none => rw [h1, h2] at hx; cases hx
      | some q =>
        cases h3 : oev tm mx with
        | none => rw [h1, h2, h3] at hx; cases hx
        | some s =>
          rw [h1, h2, h3] at hx
          obtain ⟨z, hz, rfl⟩ := ret_some hx
          obtain ⟨v', q1, q2⟩ := xslice_rel (P := P) hE hi hz (ev_rel ht hv) (oev_rel ht h1) (oev_rel ht h2) (oev_rel ht h3)
          have := RSound.v hi q1 q2
          simpa [execOp, hop] using this
  | fieldAddr s x f =>
    rw [hop] at hx
    have := fieldAddr_rel (P := P) (x' := a.eval x) (x := ev tm x) hE hi (fun v hv => ev_rel ht hv) hx
    simpa [execOp, hop] using this
  | indexAddr t x i =>
    rw [hop] at hx
    obtain ⟨v, u, hv, hu, hx1⟩ := bind2_some hx
    clear hx
    have hx := hx1
    clear hx1
    have := indexAddr_rel (P := P) hE hi (ev_rel ht hv) (ev_rel ht hu) hx
    simpa [execOp, hop] using this
  | index t x i =>
    rw [hop] at hx
    obtain ⟨v, u, hv, hu, hx1⟩ := bind2_some hx
    clear hx
    have hx := hx1
    clear hx1
    have := index_rel (P := P) hE hi (ev_rel ht hv) (ev_rel ht hu) hx
    simpa [execOp, hop] using this
  | lookup t x i ok =>
    rw [hop] at hx
    obtain ⟨v, u, hv, hu, hx1⟩ := bind2_some hx
    clear hx
    have hx := hx1
    clear hx1
    cases hut : e.under t with
    | none => rw [hut] at hx; cases hx
    | some d =>
      rw [hut] at hx
      cases d <;> try (cases hx; done)
      rename_i kt el
      simp only at hx
      cases hkd : e.under kt with
      | none => rw [hkd] at hx; cases hx
      | some kd =>
        simp only [hkd] at hx
        cases hko : keyOk kd u with
        | false => rw [hko] at hx; cases hx
        | true =>
          rw [hko, cond_true] at hx
          split at hx
          · rename_i es hes
            have hes' : esOf h v = some es := hes
            cases hki : keyIdx kd u es 0 with
            | none => rw [hki] at hx; cases hx
            | some oj =>
              rw [hki] at hx
              cases oj with
              | some j =>
                simp only [lget_at] at hx
                cases hm : es[j]? with
                | none => rw [hm] at hx; cases hx
                | some m =>
                  rw [hm] at hx; cases hx
                  obtain ⟨x', q1, q2⟩ := lookup_rel (P := P) hE hi (ok := ok) (ev_rel ht hv) (ev_rel ht hu) hut hkd hko hes' (.inl ⟨j, m, hki, hm, rfl⟩)
                  have := RSound.v hi q1 q2
                  simpa [execOp, hop] using this
              | none =>
                simp only at hx
                cases hz : zeroOf e el with
                | none => rw [hz] at hx; cases hx
                | some z =>
                  simp only [hz] at hx
                  cases hc : closedV z with
                  | false => rw [hc] at hx; cases hx
                  | true =>
                    rw [hc] at hx; cases hx
                    obtain ⟨x', q1, q2⟩ := lookup_rel (P := P) hE hi (ok := ok) (ev_rel ht hv) (ev_rel ht hu) hut hkd hko hes' (.inr ⟨z, hki, hz, hc, rfl⟩)
                    have := RSound.v hi q1 q2
                    simpa [execOp, hop] using this
          · cases hx
  | mapUpdate t m k x => rw [hop] at hx; exact update_case hE hi ht (.inl hop) hx
  | insert t m k x => rw [hop] at hx; exact update_case hE hi ht (.inr hop) hx
  | range t x =>
    rw [hop] at hx
    obtain ⟨v, hv, hx1⟩ := bind1_some hx
    clear hx
    have hx := hx1
    clear hx1
    cases hut : e.under t with
    | none => rw [hut] at hx; cases hx
    | some d =>
      rw [hut] at hx
      cases d <;> try (cases hx; done)
      rename_i kt el
      have hr := ev_rel ht hv
      cases v <;> try (cases hx; done)
      rename_i mo
      cases mo with
      | none =>
        cases hx
        have := range_rel (P := P) hE hi hut hr (.inl ⟨rfl, rfl, rfl⟩)
        simpa [execOp, hop] using this
      | some mr =>
        simp only at hx
        cases ho : h.obj mr with
        | none => rw [ho] at hx; cases hx
        | some ob =>
          rw [ho] at hx
          cases ob <;> try (cases hx; done)
          rename_i es c
          cases hx
          have := range_rel (P := P) hE hi hut hr (.inr ⟨mr, es, rfl, rfl, ho⟩)
          simpa [execOp, hop] using this
  | next it isStr =>
    rw [hop] at hx
    obtain ⟨v, hv, hx1⟩ := bind1_some hx
    clear hx
    have hx := hx1
    clear hx1
    split at hx
    · rename_i pb
      have := next_rel (P := P) (ty := o.type) hE hi (ev_rel ht hv) hx
      simpa [execOp, hop] using this
    · cases hx
  | typeAssert x xt t ok =>
    rw [hop] at hx
    obtain ⟨v, hv, hx1⟩ := bind1_some hx
    clear hx
    have hx := hx1
    clear hx1
    have := typeAssert_rel (P := P) (xt := xt) hE hi (ev_rel ht hv) hx
    simpa [execOp, hop] using this
  | extract x i =>
    rw [hop] at hx
    obtain ⟨v, hv, hx1⟩ := bind1_some hx
    clear hx
    have hx := hx1
    clear hx1
    have hr := ev_rel ht hv
    generalize hcc : a.eval x = cc at hr
    cases hr <;> try (cases hx; done)
    rename_i l l' hll
    obtain ⟨z, hz, rfl⟩ := ret_some hx
    rw [lget_at] at hz
    obtain ⟨v', q1, q2⟩ := hll.get hz
    refine RSound.same hi (v' := v') ?_ q2
    have : (⟨l'⟩ : Array Value)[i]? = some v' := by rw [← Array.getElem?_toList]; exact q1
    simp [execOp, hop, hcc, Instr.extract, this]
  | call c =>
    rw [hop] at hx
    simp only at hx
    cases hcl : c.callee with
    | builtin b =>
      rw [hcl] at hx
      simp only at hx
      cases hev : evs tm c.args.toList with
      | none => rw [hev] at hx; cases hx
      | some args =>
        rw [hev] at hx
        have := xbuiltin_rel (P := P) (ty := o.type) (consts := c.args.map fun | .const _ => true | _ => false) (args' := c.args.map a.eval) hE hi hx (args_rel ht hev)
        have e1 : (execOp a.eval o).run P w = (builtin b c.argTypes o.type (c.args.map fun | .const _ => true | _ => false) (c.args.map a.eval)).run P w := by
          simp only [execOp, hop, resolve, hcl, Sem.run_bind, Sem.run_pure, Result.andThen_ok, invoke]
          rfl
        rw [e1]; exact this
    | invoke recv name =>
      rw [hcl] at hx
      simp only at hx
      cases hrv : ev tm recv with
      | none => rw [hrv] at hx; cases hx
      | some rv =>
        cases hev : evs tm c.args.toList with
        | none => rw [hrv, hev] at hx; cases hx
        | some args =>
          rw [hrv, hev] at hx
          have := invokeA_rel (P := P) (fn := .method name) (cap := []) (args := rv :: args) (cap' := #[]) (args' := #[a.eval recv] ++ c.args.map a.eval) hE hi hx (.method name) .nil (by
            rw [Array.toList_append]; exact .cons (ev_rel ht hrv) (args_rel ht hev))
          have e1 : (execOp a.eval o).run P w = (invoke (.fn (.method name) #[]) (#[a.eval recv] ++ c.args.map a.eval)).run P w := by
            simp only [execOp, hop, resolve, hcl, Sem.run_bind, Sem.run_pure, Result.andThen_ok]
          rw [e1]; exact this
    | value f =>
      rw [hcl] at hx
      simp only at hx
      cases hrv : ev tm f with
      | none => rw [hrv] at hx; cases hx
      | some rv =>
        have hr := ev_rel ht hrv
        generalize hcc : a.eval f = cc at hr
        cases hev : evs tm c.args.toList with
        | none => rw [hrv, hev] at hx; cases hr <;> cases hx
        | some args =>
          rw [hrv, hev] at hx
          cases hr <;> try (cases hx; done)
          · cases hx
            have := RSound.nilDeref (P := P) hE hi
            have e1 : (execOp a.eval o).run P w = (runtimePanic .nilDeref : Sem Next).run P w := by
              simp only [execOp, hop, resolve, hcl, Sem.run_bind, Sem.run_pure, Result.andThen_ok, hcc, Deferred.ofValue, invoke]
            rw [e1]; exact this
          · rename_i fn fn' fa fa' fb fb' hf ha hb
            have := invokeA_rel (P := P) (cap' := ⟨fb'⟩) (args' := ⟨fa'⟩ ++ c.args.map a.eval) hE hi hx hf hb (by rw [lapp_eq, Array.toList_append]; exact ha.append (args_rel ht hev))
            have e1 : (execOp a.eval o).run P w = (invoke (.fn fn' ⟨fb'⟩) (⟨fa'⟩ ++ c.args.map a.eval)).run P w := by
              simp only [execOp, hop, resolve, hcl, Sem.run_bind, Sem.run_pure, Result.andThen_ok, hcc, Deferred.ofValue]
            rw [e1]; exact this
  | defer c =>
    rw [hop] at hx
    simp only at hx
    cases hd : resolveA tm c with
    | none => rw [hd] at hx; cases hx
    | some d =>
      rw [hd] at hx; cases hx
      obtain ⟨d', h1, h2⟩ := resolveA_rel (P := P) (w := w) (ty := o.type) ht hd
      exact ⟨d', by simp [execOp, hop, h1, Result.andThen_ok], h2⟩
  | panic x =>
    rw [hop] at hx
    obtain ⟨v, hv, hx1⟩ := bind1_some hx
    clear hx
    have hx := hx1
    clear hx1
    have hr := ev_rel ht hv
    generalize hcc : a.eval x = cc at hr
    cases hr <;> try (cases hx; done)
    rename_i t u u' huu
    cases hx
    exact ⟨ρ, w, .iface t u', .refl _, by simp [execOp, hop, hcc, Instr.panic, goPanic], .iface t huu, hi⟩
  | _ => rw [hop] at hx; cases hx
end Go.SX
namespace Go.SX
open Go.RowKit
variable {e : E} {ρ ρ' : Rho} {h h' : H} {w0 w w' : World} {P : Program}
/-! ### what an abstract frame says of a frame -/
structure CRel (ρ : Rho) (a b : PanicEntry) : Prop where
  v : VRel ρ a.v b.v
  rc : a.recovered = b.recovered
  ge : a.goexit = b.goexit
inductive CRels (ρ : Rho) : List PanicEntry → List PanicEntry → Prop where
  | nil : CRels ρ [] []
  | cons {a b : PanicEntry} {x y : List PanicEntry} (h : CRel ρ a b) (t : CRels ρ x y) : CRels ρ (a :: x) (b :: y)
inductive MRel (ρ : Rho) : FrameMode → FrameMode → Prop where
  | run : MRel ρ .run .run
  | returning : MRel ρ .returning .returning
  | panicking {a b : List PanicEntry} (h : CRels ρ a b) : MRel ρ (.panicking a) (.panicking b)
inductive IRel (ρ : Rho) : AIt → Item → Prop where
  | code (c : Code) : IRel ρ (.code c) (.code c)
  | inBlock (id : Nat) : IRel ρ (.inBlock id) (.inBlock id)
  | inLoop (c : Code) : IRel ρ (.inLoop c) (.inLoop c)
  | inScope (c : Code) : IRel ρ (.inScope c) (.inScope c)
  | inRangeFunc {l β : Nat} (h : ρ.ι l = some (β, 0)) : IRel ρ (.inRangeFunc l) (.inRangeFunc β)
  | endRangeFunc {l β : Nat} (h : ρ.ι l = some (β, 0)) : IRel ρ (.endRangeFunc l) (.endRangeFunc β)
  | beginRound : IRel ρ .beginRound .beginRound
inductive IRels (ρ : Rho) : List AIt → List Item → Prop where
  | nil : IRels ρ [] []
  | cons {a : AIt} {b : Item} {x : List AIt} {y : List Item} (h : IRel ρ a b) (t : IRels ρ x y) : IRels ρ (a :: x) (b :: y)
/-- how far a region of open order is -/
structure DR (ρ : Rho) (lo hi nt : Nat) (tm : T Value) (tmps : Array Value) (ops : Array Oper) (n : Nat) (vals : T Value) (L : Array Bool) : Prop where
  ok : dok ops.toList = true
  dst : dstOk nt ops.toList = true
  size : L.size = ops.size
  closed : ∀ i o x, L.getD i false = true → ops[i]? = some o → x ∈ o.after.toList → Region.binds .any x = true → L.getD x.on false = true
  efs : ∀ j i o, (efs ops.toList 0)[j]? = some (i, o) → (L.getD i false = true ↔ j < n)
  val : ∀ i o, L.getD i false = true → ops[i]? = some o → ∃ v, vals.get i = some v ∧ ∀ d, o.dst = some d → ∃ v', tmps[d]? = some v' ∧ VRel ρ v v'
  old : ∀ t v, tm.get t = some v → (∀ i o, L.getD i false = true → ops[i]? = some o → o.dst ≠ some t) → ∃ v', tmps[t]? = some v' ∧ VRel ρ v v'
  pend : ∀ i o v r, L.getD i false = false → ops[i]? = some o → freshOp o.op = true → vals.get i = some v → idOf v = some r → ρ.ι r = none ∧ lo ≤ r ∧ r < hi
  dist : ∀ i j o o' v v' r, L.getD i false = false → L.getD j false = false → ops[i]? = some o → ops[j]? = some o' → freshOp o.op = true → freshOp o'.op = true →
    vals.get i = some v → vals.get j = some v' → idOf v = some r → idOf v' = some r → i = j
/-- the operations that are not done yet -/
def left (L : Array Bool) (n : Nat) : Nat := ((List.range n).filter fun i => !L.getD i true).length
inductive BRel (ρ : Rho) (lo hi nt : Nat) (tm : T Value) (tmps : Array Value) (call : Bool) : List AIt → List Item → Prop where
  | plain {x : List AIt} {y : List Item} (ht : TRel ρ tm tmps) (hk : IRels ρ x y) : BRel ρ lo hi nt tm tmps call x y
  | ops {ops : Array Oper} {i : Nat} {x : List AIt} {y : List Item} (ht : TRel ρ tm tmps) (hd : dstOk nt ops.toList = true) (hk : IRels ρ x y) :
      BRel ρ lo hi nt tm tmps call (.ops ops.toList (ops.toList.drop i) :: x) (.inRegion ops (List.range' i (ops.size - i)) :: y)
  | dops {ops : Array Oper} {n fuel t : Nat} {vals : T Value} {L : Array Bool} {todo : List Nat} {x : List AIt} {y : List Item} (hD : DR ρ lo hi nt tm tmps ops n vals L) (hf : left L ops.size ≤ fuel)
      (htd : todo = Region.linearise.go .any ops fuel t L []) (hc : call = true → ∃ i o rest, (efs ops.toList 0)[n]? = some (i, o) ∧ todo = i :: rest) (hk : IRels ρ x y) :
      BRel ρ lo hi nt tm tmps call (.dops ops.toList n vals :: x) (.inRegion ops todo :: y)
structure FRel (ρ : Rho) (lo hi : Nat) (call : Bool) (x : AFr) (fr : Frame) : Prop where
  fn : fr.fn = x.fn
  kind : fr.kind = x.kind
  kinds : x.kind = .normal ∨ x.kind = .deferred
  nt : x.nt ≤ fr.tmps.size
  mode : MRel ρ x.mode fr.mode
  defers : DRels ρ x.defers fr.defers
  round : OptRel (fun a b => ρ.ι a = some (b, 0)) x.round fr.roundOf
  run : x.mode = .run → BRel ρ lo hi x.nt x.tm fr.tmps call x.todo fr.todo
  off : x.mode ≠ .run → TRel ρ x.tm fr.tmps
inductive SRel (ρ : Rho) : Nat → List AFr → List Frame → Prop where
  | nil (hi : Nat) : SRel ρ hi [] []
  | cons {lo hi : Nat} {x : AFr} {fr : Frame} {xs : List AFr} {frs : List Frame} (hl : lo ≤ hi) (hf : FRel ρ lo hi true x fr) (hs : SRel ρ lo xs frs) : SRel ρ hi (x :: xs) (fr :: frs)
def bottom : AFr → List AFr → Prop
  | x, [] => x.kind = .normal
  | _, y :: ys => bottom y ys
structure MR (ρ : Rho) (w0 : World) (m : AM) (fr : Frame) (cs base : List Frame) (w : World) : Prop where
  inv : Inv ρ m.h w0 w
  frames : ∃ lo cs1, cs = cs1 ++ base ∧ lo ≤ m.h.n ∧ FRel ρ lo m.h.n false m.fr fr ∧ SRel ρ lo m.cs cs1
  bot : bottom m.fr m.cs
/-! later renamings -/
theorem CRel.mono (hle : ρ.Le ρ') {a b : PanicEntry} (h : CRel ρ a b) : CRel ρ' a b := ⟨h.v.mono hle, h.rc, h.ge⟩
theorem CRels.mono (hle : ρ.Le ρ') {a b : List PanicEntry} (h : CRels ρ a b) : CRels ρ' a b := by
  induction h with
  | nil => exact .nil
  | cons h _ ih => exact .cons (h.mono hle) ih
theorem CRels.append {a b a' b' : List PanicEntry} (h : CRels ρ a a') (k : CRels ρ b b') : CRels ρ (a ++ b) (a' ++ b') := by
  induction h with
  | nil => exact k
  | cons h _ ih => exact .cons h ih
theorem MRel.mono (hle : ρ.Le ρ') {a b : FrameMode} (h : MRel ρ a b) : MRel ρ' a b := by
  cases h with
  | run => exact .run
  | returning => exact .returning
  | panicking h => exact .panicking (h.mono hle)
theorem IRel.mono (hle : ρ.Le ρ') {a : AIt} {b : Item} (h : IRel ρ a b) : IRel ρ' a b := by
  cases h with
  | code c => exact .code c
  | inBlock i => exact .inBlock i
  | inLoop c => exact .inLoop c
  | inScope c => exact .inScope c
  | inRangeFunc h => exact .inRangeFunc (hle.ι _ _ h)
  | endRangeFunc h => exact .endRangeFunc (hle.ι _ _ h)
  | beginRound => exact .beginRound
theorem IRels.mono (hle : ρ.Le ρ') {a : List AIt} {b : List Item} (h : IRels ρ a b) : IRels ρ' a b := by
  induction h with
  | nil => exact .nil
  | cons h _ ih => exact .cons (h.mono hle) ih
theorem DR.mono {lo hi hi' nt n k k' : Nat} {tm : T Value} {tmps : Array Value} {ops : Array Oper} {vals : T Value} {L : Array Bool} (h : DR ρ lo hi nt tm tmps ops n vals L)
    (hx : ρ.Ext k ρ' k') (hk : hi ≤ k) (hh : hi ≤ hi') : DR ρ' lo hi' nt tm tmps ops n vals L :=
  { h with
    val := fun i o a b => by
      obtain ⟨v, h1, h2⟩ := h.val i o a b
      exact ⟨v, h1, fun d hd => let ⟨v', p, q⟩ := h2 d hd; ⟨v', p, q.mono hx.le⟩⟩
    old := fun t v a b => let ⟨v', p, q⟩ := h.old t v a b; ⟨v', p, q.mono hx.le⟩
    pend := fun i o v r a b c d f => by
      obtain ⟨h1, h2, h3⟩ := h.pend i o v r a b c d f
      exact ⟨hx.keep r (Nat.lt_of_lt_of_le h3 hk) h1, h2, Nat.lt_of_lt_of_le h3 hh⟩ }
theorem BRel.mono {lo hi hi' nt k k' : Nat} {tm : T Value} {tmps : Array Value} {c : Bool} {x : List AIt} {y : List Item} (h : BRel ρ lo hi nt tm tmps c x y)
    (hx : ρ.Ext k ρ' k') (hk : hi ≤ k) (hh : hi ≤ hi') : BRel ρ' lo hi' nt tm tmps c x y := by
  cases h with
  | plain ht hs => exact .plain (ht.mono hx.le) (hs.mono hx.le)
  | ops ht hd hs => exact .ops (ht.mono hx.le) hd (hs.mono hx.le)
  | dops hD hf htd hc hs => exact .dops (hD.mono hx hk hh) hf htd hc (hs.mono hx.le)
theorem FRel.mono {lo hi hi' k k' : Nat} {c : Bool} {x : AFr} {fr : Frame} (h : FRel ρ lo hi c x fr) (hx : ρ.Ext k ρ' k') (hk : hi ≤ k) (hh : hi ≤ hi') : FRel ρ' lo hi' c x fr :=
  { h with
    mode := h.mode.mono hx.le
    defers := h.defers.mono hx.le
    round := h.round.mono fun _ _ q => hx.le.ι _ _ q
    run := fun hm => (h.run hm).mono hx hk hh
    off := fun hm => (h.off hm).mono hx.le }
theorem SRel.mono {hi k k' : Nat} {xs : List AFr} {frs : List Frame} (h : SRel ρ hi xs frs) (hx : ρ.Ext k ρ' k') (hk : hi ≤ k) : SRel ρ' hi xs frs := by
  induction h with
  | nil hi => exact .nil hi
  | cons hl hf hs ih => exact .cons hl (hf.mono hx hk (Nat.le_refl _)) (ih (Nat.le_trans hl hk))
theorem SRel.up {hi hi' : Nat} {xs : List AFr} {frs : List Frame} (h : SRel ρ hi xs frs) (hh : hi ≤ hi') : SRel ρ hi' xs frs := by
  cases h with
  | nil => exact .nil _
  | cons hl hf hs => exact .cons (Nat.le_trans hl hh) (hf.mono (.refl (n := hi) ρ) (Nat.le_refl _) hh) hs
/-! temporaries -/
def putA (tmps : Array Value) (d : Option Tmp) (v : Value) : Array Value := match d with
  | some i => tmps.setIfInBounds i v
  | none => tmps
@[simp] theorem putA_size (tmps : Array Value) (d : Option Tmp) (v : Value) : (putA tmps d v).size = tmps.size := by cases d <;> simp [putA]
theorem TRel.put {tm : T Value} {tmps : Array Value} (ht : TRel ρ tm tmps) {d : Option Tmp} {v v' : Value} (hv : VRel ρ v v') (hd : ∀ i, d = some i → i < tmps.size) :
    TRel ρ (putD tm d v) (putA tmps d v') := by
  cases d with
  | none => exact ht
  | some i =>
    intro j u hu
    simp only [putD, T.get_set] at hu
    by_cases hj : j = i
    · subst hj
      rw [if_pos rfl] at hu; cases hu
      exact ⟨v', by simp [putA, hd j rfl], hv⟩
    · rw [if_neg hj] at hu
      obtain ⟨u', h1, h2⟩ := ht j u hu
      exact ⟨u', by simp only [putA]; rw [Array.getElem?_setIfInBounds_ne (fun q => hj q.symm)]; exact h1, h2⟩
theorem dstOk_get {n : Nat} {arr : List Oper} (h : dstOk n arr = true) {i : Nat} {o : Oper} (ho : arr[i]? = some o) {d : Tmp} (hd : o.dst = some d) : d < n := by
  induction arr generalizing i with
  | nil => simp at ho
  | cons x xs ih =>
    simp only [dstOk, Bool.and_eq_true] at h
    cases i with
    | zero => simp at ho; subst ho; rw [hd] at h; exact Nat.le_of_ble_eq_true h.1
    | succ i => exact ih h.2 (by simpa using ho)
theorem noWriter_get {d : Tmp} {arr : List Oper} (h : noWriter d arr = true) {i : Nat} {o : Oper} (ho : arr[i]? = some o) : o.dst ≠ some d := by
  induction arr generalizing i with
  | nil => simp at ho
  | cons x xs ih =>
    simp only [noWriter, Bool.and_eq_true] at h
    cases i with
    | zero =>
      simp at ho; subst ho
      intro hd
      rw [hd] at h
      simp only [beqT] at h
      simp at h
    | succ i => exact ih h.2 (by simpa using ho)
theorem uniqueOk_get {arr : List Oper} (h : uniqueOk arr = true) {i j : Nat} {o o' : Oper} (hi : arr[i]? = some o) (hj : arr[j]? = some o') {d : Tmp} (hd : o.dst = some d) (hd' : o'.dst = some d) : i = j := by
  induction arr generalizing i j with
  | nil => simp at hi
  | cons x xs ih =>
    simp only [uniqueOk, Bool.and_eq_true] at h
    cases i with
    | zero =>
      cases j with
      | zero => rfl
      | succ j =>
        simp at hi hj; subst hi
        rw [hd] at h
        exact absurd hd' (noWriter_get h.1 hj)
    | succ i =>
      cases j with
      | zero =>
        simp at hi hj; subst hj
        rw [hd'] at h
        exact absurd hd (noWriter_get h.1 hi)
      | succ j => simp at hi hj; rw [ih h.2 hi hj]
end Go.SX
namespace Go.SX
open Go.RowKit
variable {e : E} {ρ ρ' : Rho} {h h' : H} {w0 w w' : World} {P : Program}
/-! ### masks -/
theorem bef_bit {acc : List Nat} {j : Nat} : ∀ {es : List Edge}, Nat.testBit (bef acc es) j = true → ∃ x, x ∈ es ∧ Region.binds .any x = true ∧ (j = x.on ∨ Nat.testBit (maskAt acc x.on) j = true) := by
  intro es
  induction es with
  | nil => intro hb; simp [bef] at hb
  | cons x xs ih =>
    intro hb
    simp only [bef] at hb
    cases hx : Region.binds .any x with
    | false =>
      rw [hx, cond_false] at hb
      obtain ⟨y, h1, h2, h3⟩ := ih hb
      exact ⟨y, by simp [h1], h2, h3⟩
    | true =>
      rw [hx, cond_true] at hb
      have hb' : Nat.testBit ((2 ^ x.on ||| maskAt acc x.on) ||| bef acc xs) j = true := hb
      rw [Nat.testBit_or, Nat.testBit_or, Bool.or_eq_true, Bool.or_eq_true] at hb'
      rcases hb' with (h1 | h1) | h1
      · rw [Nat.testBit_two_pow] at h1
        exact ⟨x, by simp, hx, .inl (of_decide_eq_true h1).symm⟩
      · exact ⟨x, by simp, hx, .inr h1⟩
      · obtain ⟨y, h1, h2, h3⟩ := ih h1
        exact ⟨y, by simp [h1], h2, h3⟩
theorem maskAt_get {bs : List Nat} {i : Nat} : maskAt bs i = (bs[i]?).getD 0 := by
  unfold maskAt
  rw [lget_at]
  cases bs[i]? <;> rfl
theorem masks_pre {arr : List Oper} : ∀ {acc : List Nat} {i : Nat}, i < acc.length → (masks acc arr)[i]? = acc[i]? := by
  induction arr with
  | nil => intro acc i _; rfl
  | cons o r ih =>
    intro acc i hi
    simp only [masks, lapp_eq]
    rw [ih (by simp; omega), List.getElem?_append_left hi]
theorem mask_bit_aux : ∀ {arr : List Oper} {acc : List Nat} {i j : Nat}, Nat.testBit (maskAt (masks acc arr) (acc.length + i)) j = true →
    ∃ o x, arr[i]? = some o ∧ x ∈ o.after.toList ∧ Region.binds .any x = true ∧ (j = x.on ∨ (x.on < acc.length + i ∧ Nat.testBit (maskAt (masks acc arr) x.on) j = true)) := by
  intro arr
  induction arr with
  | nil => intro acc i j hb; simp [masks, maskAt_get] at hb
  | cons o r ih =>
    intro acc i j hb
    cases i with
    | zero =>
      have h1 : (masks acc (o :: r))[acc.length]? = some (bef acc o.after.toList) := by
        simp only [masks, lapp_eq]
        rw [masks_pre (by simp)]
        simp
      rw [maskAt_get, Nat.add_zero, h1] at hb
      obtain ⟨x, hx, hbd, hor⟩ := bef_bit hb
      refine ⟨o, x, rfl, hx, hbd, ?_⟩
      rcases hor with h2 | h2
      · exact .inl h2
      · right
        have hlt : x.on < acc.length := by
          rcases Nat.lt_or_ge x.on acc.length with q | q
          · exact q
          · rw [maskAt_get, List.getElem?_eq_none q] at h2; simp at h2
        refine ⟨by omega, ?_⟩
        rw [maskAt_get, masks_pre hlt, ← maskAt_get]; exact h2
    | succ i =>
      have hl : acc.length + (i + 1) = (lapp acc [bef acc o.after.toList]).length + i := by simp; omega
      have hm : masks acc (o :: r) = masks (lapp acc [bef acc o.after.toList]) r := rfl
      rw [hm, hl] at hb
      obtain ⟨o', x, h1, h2, h3, h4⟩ := ih hb
      refine ⟨o', x, by simpa using h1, h2, h3, ?_⟩
      rw [hm, hl]; exact h4
theorem mask_bit {arr : List Oper} {i j : Nat} (hb : Nat.testBit (maskAt (masks [] arr) i) j = true) :
    ∃ o x, arr[i]? = some o ∧ x ∈ o.after.toList ∧ Region.binds .any x = true ∧ (j = x.on ∨ (x.on < i ∧ Nat.testBit (maskAt (masks [] arr) x.on) j = true)) := by
  have := mask_bit_aux (acc := []) (i := i) (arr := arr) (j := j) (by simpa using hb)
  simpa using this
theorem arr_get {ops : Array Oper} {i : Nat} : ops.toList[i]? = ops[i]? := Array.getElem?_toList
theorem DR.closedM {lo hi nt n : Nat} {tm : T Value} {tmps : Array Value} {ops : Array Oper} {vals : T Value} {L : Array Bool} (hD : DR ρ lo hi nt tm tmps ops n vals L) :
    ∀ (i j : Nat), L.getD i false = true → Nat.testBit (maskAt (masks [] ops.toList) i) j = true → L.getD j false = true := by
  intro i
  induction i using Nat.strongRecOn with
  | _ i ih =>
    intro j hL hb
    obtain ⟨o, x, h1, h2, h3, h4⟩ := mask_bit hb
    have hx := hD.closed i o x hL (by rw [← arr_get]; exact h1) h2 h3
    rcases h4 with rfl | ⟨h4, h5⟩
    · exact hx
    · exact ih x.on h4 j hx h5
theorem edgesBack_mem {i : Nat} {es : List Edge} (h : edgesBack i es = true) {x : Edge} (hx : x ∈ es) (hb : Region.binds .any x = true) : x.on < i := by
  induction es with
  | nil => cases hx
  | cons y ys ih =>
    simp only [edgesBack, Bool.and_eq_true, Bool.or_eq_true] at h
    rcases List.mem_cons.1 hx with rfl | hx
    · rcases h.1 with q | q
      · rw [hb] at q; cases q
      · exact Nat.le_of_ble_eq_true q
    · exact ih h.2 hx
theorem edgesOk_get {arr : List Oper} : ∀ {k i : Nat}, edgesOk arr k = true → ∀ {o : Oper}, arr[i]? = some o → edgesBack (k + i) o.after.toList = true := by
  induction arr with
  | nil => intro k i _ o ho; simp at ho
  | cons y ys ih =>
    intro k i h o ho
    simp only [edgesOk, Bool.and_eq_true] at h
    cases i with
    | zero => simp at ho; subst ho; exact h.1
    | succ i =>
      have := ih (i := i) h.2 (o := o) (by simpa using ho)
      rw [show k + (i + 1) = k + 1 + i by omega]; exact this
theorem dok_parts {arr : List Oper} (h : dok arr = true) : chained (masks [] arr) (efs arr 0) = true ∧ edgesOk arr 0 = true ∧ uniqueOk arr = true := by
  simp only [dok, Bool.and_eq_true] at h
  exact ⟨h.1.1, h.1.2, h.2⟩
/-! ### the operations with an effect -/
theorem efs_get : ∀ {arr : List Oper} {k j i : Nat} {o : Oper}, (efs arr k)[j]? = some (i, o) → k ≤ i ∧ arr[i - k]? = some o ∧ eagerOp o.op = false := by
  intro arr
  induction arr with
  | nil => intro k j i o h; simp [efs] at h
  | cons x xs ih =>
    intro k j i o h
    simp only [efs] at h
    cases hx : eagerOp x.op with
    | true =>
      rw [hx, cond_true] at h
      obtain ⟨h1, h2, h3⟩ := ih h
      refine ⟨by omega, ?_, h3⟩
      rw [show i - k = (i - (k + 1)) + 1 by omega]; simpa using h2
    | false =>
      rw [hx, cond_false] at h
      cases j with
      | zero =>
        simp only [List.getElem?_cons_zero, Option.some.injEq, Prod.mk.injEq] at h
        obtain ⟨rfl, rfl⟩ := h
        exact ⟨Nat.le_refl _, by simp, hx⟩
      | succ j =>
        simp only [List.getElem?_cons_succ] at h
        obtain ⟨h1, h2, h3⟩ := ih h
        refine ⟨by omega, ?_, h3⟩
        rw [show i - k = (i - (k + 1)) + 1 by omega]; simpa using h2
theorem efs_of : ∀ {arr : List Oper} {k i : Nat} {o : Oper}, arr[i]? = some o → eagerOp o.op = false → ∃ j : Nat, (efs arr k)[j]? = some (k + i, o) := by
  intro arr
  induction arr with
  | nil => intro k i o h; simp at h
  | cons x xs ih =>
    intro k i o h he
    simp only [efs]
    cases i with
    | zero =>
      simp at h; subst h
      rw [he, cond_false]
      exact ⟨0, by simp⟩
    | succ i =>
      obtain ⟨j, hj⟩ := ih (k := k + 1) (i := i) (by simpa using h) he
      rw [show k + 1 + i = k + (i + 1) by omega] at hj
      cases hx : eagerOp x.op with
      | true => exact ⟨j, by simpa using hj⟩
      | false => exact ⟨j + 1, by simpa using hj⟩
theorem chained_get {bs : List Nat} : ∀ {ef : List (Nat × Oper)} {j a b : Nat} {x y : Oper}, chained bs ef = true → ef[j]? = some (a, x) → ef[j + 1]? = some (b, y) → Nat.testBit (maskAt bs b) a = true := by
  intro ef
  induction ef with
  | nil => intro j a b x y _ h; simp at h
  | cons p ps ih =>
    intro j a b x y hc h1 h2
    cases ps with
    | nil => simp at h2
    | cons q qs =>
      obtain ⟨pi, po⟩ := p
      obtain ⟨qi, qo⟩ := q
      simp only [chained, Bool.and_eq_true] at hc
      cases j with
      | zero =>
        simp at h1 h2
        obtain ⟨rfl, rfl⟩ := h1
        obtain ⟨rfl, rfl⟩ := h2
        exact hc.1
      | succ j => exact ih hc.2 (by simpa using h1) (by simpa using h2)
theorem mayAt_of {bs : List Nat} {m i : Nat} : ∀ {ef : List (Nat × Oper)} {k : Nat}, (∀ (j x : Nat) (o : Oper), ef[j]? = some (x, o) → (k ≤ j → Nat.testBit m x = false) ∧ (j < k → Nat.testBit (maskAt bs x) i = false)) → mayAt bs m i k ef = true := by
  intro ef
  induction ef with
  | nil => intro k _; cases k <;> rfl
  | cons p ps ih =>
    intro k hh
    obtain ⟨x, o⟩ := p
    have h0 := hh 0 x o rfl
    cases k with
    | zero =>
      simp only [mayAt, h0.1 (Nat.le_refl _), Bool.not_false, Bool.true_and]
      exact ih fun j y oy hj => ⟨fun _ => (hh (j + 1) y oy (by simpa using hj)).1 (Nat.zero_le _), fun q => absurd q (Nat.not_lt_zero _)⟩
    | succ k =>
      simp only [mayAt, h0.2 (Nat.succ_pos _), Bool.not_false, Bool.true_and]
      exact ih fun j y oy hj => ⟨fun q => (hh (j + 1) y oy (by simpa using hj)).1 (Nat.succ_le_succ q), fun q => (hh (j + 1) y oy (by simpa using hj)).2 (Nat.succ_lt_succ q)⟩
/-! ### what is ready -/
theorem filter_less {α : Type} (p q : α → Bool) : ∀ {l : List α}, (∀ x, x ∈ l → q x = true → p x = true) → (∃ x, x ∈ l ∧ p x = true ∧ q x = false) → (l.filter q).length < (l.filter p).length := by
  have hle : ∀ {l : List α}, (∀ x, x ∈ l → q x = true → p x = true) → (l.filter q).length ≤ (l.filter p).length := by
    intro l
    induction l with
    | nil => intro _; simp
    | cons x xs ih =>
      intro hh
      have := ih fun y hy => hh y (by simp [hy])
      cases hq : q x with
      | true => simp [hq, hh x (by simp) hq, this]
      | false => cases hp : p x <;> simp [hq, hp] <;> omega
  intro l
  induction l with
  | nil => rintro _ ⟨x, hx, _⟩; cases hx
  | cons x xs ih =>
    rintro hh ⟨y, hy, hp, hq⟩
    have hxs := hle (l := xs) fun z hz => hh z (by simp [hz])
    rcases List.mem_cons.1 hy with rfl | hy
    · simp [hp, hq]; omega
    · have := ih (fun z hz => hh z (by simp [hz])) ⟨y, hy, hp, hq⟩
      cases hqx : q x with
      | true => simp [hqx, hh x (by simp) hqx, this]
      | false => cases hpx : p x <;> simp [hqx, hpx] <;> omega
theorem getD_size {L : Array Bool} {i : Nat} (hi : i < L.size) (a b : Bool) : L.getD i a = L.getD i b := by simp [Array.getD, hi]
theorem set_getD {L : Array Bool} {i j : Nat} (hi : i < L.size) : (L.setIfInBounds i true).getD j false = if j = i then true else L.getD j false := by
  simp only [Array.getD_eq_getD_getElem?]
  by_cases hj : j = i
  · subst hj; simp [hi]
  · rw [if_neg hj, Array.getElem?_setIfInBounds_ne (fun q => hj q.symm)]
theorem left_less {L : Array Bool} {n i : Nat} (hn : L.size = n) (hi : i < n) (hL : L.getD i true = false) : left (L.setIfInBounds i true) n + 1 ≤ left L n := by
  refine filter_less _ _ ?_ ⟨i, by simp [hi], by simp [hL], ?_⟩
  · intro x hx hq
    have hx' : x < L.size := by rw [hn]; simpa using hx
    rw [getD_size (by simpa using hx') true false, set_getD (by omega)] at hq
    rw [getD_size hx' true false]
    by_cases q : x = i
    · simp [q] at hq
    · simpa [q] using hq
  · rw [getD_size (by simp; omega) true false, set_getD (by omega)]; simp
theorem ready_nil {ops : Array Oper} {L : Array Bool} (hs : L.size = ops.size) (he : edgesOk ops.toList 0 = true) (hr : Region.ready .any ops L = []) : ∀ i, i < ops.size → L.getD i false = true := by
  intro i
  induction i using Nat.strongRecOn with
  | _ i ih =>
    intro hi
    cases hL : L.getD i false with
    | true => rfl
    | false =>
      exfalso
      have : i ∈ Region.ready .any ops L := by
        unfold Region.ready
        rw [List.mem_filter]
        refine ⟨by simpa using hi, ?_⟩
        rw [getD_size (by omega) true false, hL]
        obtain ⟨o, ho⟩ : ∃ o, ops[i]? = some o := ⟨ops[i], by simp [hi]⟩
        simp only [ho, Option.map_some, Option.getD_some, Bool.not_false, Bool.true_and, ← Array.all_toList, List.all_eq_true, Bool.or_eq_true]
        intro x hx
        cases hb : Region.binds .any x with
        | false => left; rfl
        | true =>
          right
          have hlt := edgesBack_mem (edgesOk_get he (o := o) (i := i) (by rw [arr_get]; exact ho)) hx hb
          rw [Nat.zero_add] at hlt
          exact ih x.on hlt (by omega)
      rw [hr] at this; cases this
theorem ready_mem {ops : Array Oper} {L : Array Bool} {i : Nat} (hs : L.size = ops.size) (hi : i ∈ Region.ready .any ops L) :
    i < ops.size ∧ L.getD i false = false ∧ ∃ o, ops[i]? = some o ∧ ∀ x, x ∈ o.after.toList → Region.binds .any x = true → L.getD x.on false = true := by
  unfold Region.ready at hi
  rw [List.mem_filter] at hi
  obtain ⟨h1, h2⟩ := hi
  have hlt : i < ops.size := by simpa using h1
  simp only [Bool.and_eq_true] at h2
  have h3 : L.getD i false = false := by
    have := h2.1
    rw [getD_size (by omega) true false] at this
    simpa using this
  obtain ⟨o, ho⟩ : ∃ o, ops[i]? = some o := ⟨ops[i], by simp [hlt]⟩
  refine ⟨hlt, h3, o, ho, ?_⟩
  intro x hx hb
  have h4 := h2.2
  simp only [ho, Option.map_some, Option.getD_some, ← Array.all_toList, List.all_eq_true, Bool.or_eq_true] at h4
  rcases h4 x hx with q | q
  · rw [hb] at q; cases q
  · exact q
end Go.SX
namespace Go.SX
open Go.RowKit
variable {e : E} {ρ ρ' : Rho} {h h' : H} {w0 w w' : World} {P : Program}
/-! ### what an operation of a region of open order sees -/
/-- the temporaries that 'seen' gives are so: each defined one bears the value of its one writer, or the old one -/
theorem seen_get {bs : List Nat} {vals : T Value} {me m : Nat} : ∀ {arr : List Oper} {k : Nat} {tm0 tm : T Value}, seen bs vals me m arr k tm0 = some tm → ∀ t v, tm.get t = some v →
    (∃ i o, arr[i]? = some o ∧ o.dst = some t ∧ Nat.testBit m (k + i) = true ∧ vals.get (k + i) = some v) ∨
    (tm0.get t = some v ∧ ∀ i o, arr[i]? = some o → o.dst = some t → Nat.testBit m (k + i) = false ∧ (k + i = me ∨ Nat.testBit (maskAt bs (k + i)) me = true)) := by
  intro arr
  induction arr with
  | nil => intro k tm0 tm hs t v hv; simp only [seen, Option.some.injEq] at hs; subst hs; exact .inr ⟨hv, fun i o ho => by simp at ho⟩
  | cons x xs ih =>
    intro k tm0 tm hs t v hv
    simp only [seen] at hs
    have lift : ∀ {tm1 : T Value}, seen bs vals me m xs (k + 1) tm1 = some tm →
        (tm1.get t = some v → (∃ i o, (x :: xs)[i]? = some o ∧ o.dst = some t ∧ Nat.testBit m (k + i) = true ∧ vals.get (k + i) = some v) ∨
          (tm0.get t = some v ∧ (x.dst = some t → Nat.testBit m k = false ∧ (k = me ∨ Nat.testBit (maskAt bs k) me = true)))) →
        (∃ i o, (x :: xs)[i]? = some o ∧ o.dst = some t ∧ Nat.testBit m (k + i) = true ∧ vals.get (k + i) = some v) ∨
        (tm0.get t = some v ∧ ∀ i o, (x :: xs)[i]? = some o → o.dst = some t → Nat.testBit m (k + i) = false ∧ (k + i = me ∨ Nat.testBit (maskAt bs (k + i)) me = true)) := by
      intro tm1 h1 h2
      rcases ih h1 t v hv with ⟨i, o, q1, q2, q3, q4⟩ | ⟨q1, q2⟩
      · exact .inl ⟨i + 1, o, by simpa using q1, q2, by rw [show k + (i + 1) = k + 1 + i by omega]; exact q3, by rw [show k + (i + 1) = k + 1 + i by omega]; exact q4⟩
      · rcases h2 q1 with h3 | ⟨h3, h4⟩
        · exact .inl h3
        · refine .inr ⟨h3, fun i o ho hd => ?_⟩
          cases i with
          | zero => simp at ho; subst ho; exact h4 hd
          | succ i =>
            have := q2 i o (by simpa using ho) hd
            rw [show k + (i + 1) = k + 1 + i by omega]; exact this
    cases hb : Nat.testBit m k with
    | true =>
      rw [hb, cond_true] at hs
      cases hg : vals.get k with
      | none => rw [hg] at hs; cases hs
      | some u =>
        rw [hg] at hs
        refine lift hs fun h1 => ?_
        cases hd : x.dst with
        | none => rw [hd] at h1; exact .inr ⟨h1, fun q => by cases q⟩
        | some d =>
          rw [hd] at h1
          simp only [putD, T.get_set] at h1
          by_cases htd : t = d
          · subst htd
            rw [if_pos rfl] at h1; cases h1
            exact .inl ⟨0, x, rfl, hd, hb, hg⟩
          · rw [if_neg htd] at h1
            exact .inr ⟨h1, fun q => by cases q; exact absurd rfl htd⟩
    | false =>
      rw [hb, cond_false] at hs
      cases hc : (Nat.beq k me || Nat.testBit (maskAt bs k) me) with
      | true =>
        rw [hc, cond_true] at hs
        refine lift hs fun h1 => .inr ⟨h1, fun _ => ⟨hb, ?_⟩⟩
        rw [Bool.or_eq_true] at hc
        rcases hc with q | q
        · exact .inl (Nat.eq_of_beq_eq_true q)
        · exact .inr q
      | false =>
        rw [hc, cond_false] at hs
        refine lift hs fun h1 => ?_
        cases hd : x.dst with
        | none => rw [hd] at h1; exact .inr ⟨h1, fun q => by cases q⟩
        | some d =>
          rw [hd] at h1
          simp only [T.get_del] at h1
          by_cases htd : t = d
          · rw [if_pos htd] at h1; cases h1
          · rw [if_neg htd] at h1
            exact .inr ⟨h1, fun q => by cases q; exact absurd rfl htd⟩
section
variable {lo hi nt n : Nat} {tm : T Value} {tmps : Array Value} {ops : Array Oper} {vals : T Value} {L : Array Bool}
/-- what a ready operation sees is there -/
theorem DR.seen (hD : DR ρ lo hi nt tm tmps ops n vals L) {i : Nat} (hL : L.getD i false = false) (hm : ∀ j, Nat.testBit (maskAt (masks [] ops.toList) i) j = true → L.getD j false = true)
    {tm1 : T Value} (hs : SX.seen (masks [] ops.toList) vals i (maskAt (masks [] ops.toList) i) ops.toList 0 tm = some tm1) : TRel ρ tm1 tmps := by
  have hu := (dok_parts hD.ok).2.2
  intro t v hv
  rcases seen_get hs t v hv with ⟨j, o, h1, h2, h3, h4⟩ | ⟨h1, h2⟩
  · rw [Nat.zero_add] at h3 h4
    obtain ⟨u, hu1, hu2⟩ := hD.val j o (hm j h3) (by rw [← arr_get]; exact h1)
    rw [h4] at hu1; cases hu1
    exact hu2 t h2
  · refine hD.old t v h1 ?_
    intro j o hLj hj hd
    obtain ⟨h3, h4⟩ := h2 j o (by rw [arr_get]; exact hj) hd
    rw [Nat.zero_add] at h4
    rcases h4 with rfl | h4
    · rw [hL] at hLj; cases hLj
    · have := hD.closedM j i hLj h4
      rw [hL] at this; cases this
theorem DR.wanted (hD : DR ρ lo hi nt tm tmps ops n vals L) {m : Nat} (hm : ∀ j, Nat.testBit m j = true → L.getD j false = true) {o : Oper} {b : Bool}
    (hw : wantedV ops.toList vals m o.guard = some b) : Region.wanted o (yielded ops tmps) = b := by
  unfold wantedV at hw
  unfold Region.wanted
  cases hg : o.guard with
  | none => rw [hg] at hw; cases hw; rfl
  | some p =>
    obtain ⟨j, want⟩ := p
    rw [hg] at hw
    simp only at hw ⊢
    cases hb : Nat.testBit m j with
    | false => rw [hb] at hw; cases hw
    | true =>
      rw [hb, cond_true, lget_at, arr_get] at hw
      cases ho : ops[j]? with
      | none => rw [ho] at hw; cases hw
      | some oj =>
        rw [ho] at hw
        simp only at hw
        cases hd : oj.dst with
        | none => rw [hd] at hw; cases hw
        | some d =>
          rw [hd] at hw
          simp only at hw
          obtain ⟨v, h1, h2⟩ := hD.val j oj (hm j hb) ho
          obtain ⟨v', h3, h4⟩ := h2 d hd
          rw [h1] at hw
          simp only [yielded, ho, Option.bind_some, hd, h3]
          cases h4 with
          | bool x =>
            simp only [Option.some.injEq] at hw
            subst hw
            cases x <;> cases want <;> rfl
          | _ => simp only [Option.some.injEq] at hw; subst hw; rfl
end
/-! ### the machine's steps -/
theorem eval_act (fr : Frame) : fr.eval = (Act.mk fr.tmps fr.defers).eval := by
  funext x; cases x <;> rfl
section
variable {fr : Frame} {cs : List Frame} {ops : Array Oper} {i : Nat} {rest : List Nat} {K : List Item} {o : Oper}
theorem stepG_oper (hm : fr.mode = .run) (ht : fr.todo = .inRegion ops (i :: rest) :: K) (ho : ops[i]? = some o) (hw : Region.wanted o (yielded ops fr.tmps) = true) (hd : fr.roundOf = none ∨ ∀ c, o.op ≠ .defer c) :
    stepG P true { frame := fr, callers := cs, status := .running, dying := none } w = stepG.apply P true fr cs none (execOp fr.eval o) w := by
  obtain ⟨fn, tmps, todo, defers, mode, kind, round⟩ := fr
  simp only at hm ht hw hd
  subst hm ht
  simp only [stepG, stepG.exec, ho, Option.map_some, hw, Option.getD_some, if_true, stepG.oper, Frame.oper?]
  rcases hd with hd | hd
  · subst hd; rfl
  · cases round with
    | none => rfl
    | some l =>
      cases hop : o.op <;> first | rfl | exact absurd hop (hd _)
theorem step_not (hm : fr.mode = .run) (ht : fr.todo = .inRegion ops (i :: rest) :: K) (ho : ops[i]? = some o) (hw : Region.wanted o (yielded ops fr.tmps) = false) :
    Go.step P (lone fr cs w) = .next (lone (fr.finish undef) cs w) := by
  obtain ⟨fn, tmps, todo, defers, mode, kind, round⟩ := fr
  simp only at hm ht hw
  subst hm ht
  refine step_lone_go ?_
  simp [stepG, stepG.exec, ho, hw]
theorem finish_region (ht : fr.todo = .inRegion ops (i :: rest) :: K) (ho : ops[i]? = some o) (v : Value) :
    fr.finish v = { fr with tmps := putA fr.tmps o.dst v, todo := .inRegion ops rest :: K } := by
  obtain ⟨fn, tmps, todo, defers, mode, kind, round⟩ := fr
  simp only at ht
  subst ht
  cases hd : o.dst <;> simp [Frame.finish, ho, hd, putA]
variable (hg : stepG P true { frame := fr, callers := cs, status := .running, dying := none } w = stepG.apply P true fr cs none (execOp fr.eval o) w)
include hg
theorem step_val {v : Value} (hr : (execOp fr.eval o).run P w = .ok (.value v) w') : Go.step P (lone fr cs w) = .next (lone (fr.finish v) cs w') :=
  step_lone_go (by rw [hg]; simp [stepG.apply, hr])
theorem step_skipped (hr : (execOp fr.eval o).run P w = .ok .skip w') : Go.step P (lone fr cs w) = .next (lone (fr.finish undef) cs w') :=
  step_lone_go (by rw [hg]; simp [stepG.apply, hr])
theorem step_panics {v : Value} (hr : (execOp fr.eval o).run P w = .halt (.panic v) w') : Go.step P (lone fr cs w) = .next (lone (fr.raise [{ v, recovered := false }]) cs w') :=
  step_lone_go (by rw [hg]; simp [stepG.apply, hr])
theorem step_defers {d : Deferred} (hr : (execOp fr.eval o).run P w = .ok (.defer d) w') : Go.step P (lone fr cs w) = .next (lone (({ fr with defers := d :: fr.defers } : Frame).finish undef) cs w') :=
  step_lone_go (by rw [hg]; simp [stepG.apply, hr])
theorem step_enters {f : FuncId} {args : Array Value} (ht : fr.todo = .inRegion ops (i :: rest) :: K) (hr : (execOp fr.eval o).run P w = .ok (.enter f args) w') :
    Go.step P (lone fr cs w) = .next (lone (Frame.enter P f args .normal) (fr :: cs) w') :=
  step_lone_go (by rw [hg]; simp [stepG.apply, hr, ht])
theorem step_rounds {l : Nat} {f : FuncId} {tmps : Array Value} {assign body : Code} (hr : (execOp fr.eval o).run P w = .ok (.round l f tmps assign body) w') :
    Go.step P (lone fr cs w) = .next (lone (Frame.round l f tmps assign body .normal) (fr :: cs) w') :=
  step_lone_go (by rw [hg]; simp [stepG.apply, hr])
theorem step_recovers (hrf : P.follows .rangeFuncRecover = true) (hr : (execOp fr.eval o).run P w = .ok .recover w') :
    Go.step P (lone fr cs w) = .next (match tryRecover fr cs with | some (v, cs') => lone (fr.finish v) cs' w' | none => lone (fr.finish .nilIface) cs w') := by
  cases ht : tryRecover fr cs with
  | none => exact step_lone_go (by rw [hg]; cases hq : fr.roundOf <;> simp [stepG.apply, hr, hq, hrf, ht])
  | some p => exact step_lone_go (by rw [hg]; cases hq : fr.roundOf <;> simp [stepG.apply, hr, hq, hrf, ht])
end
end Go.SX
namespace Go.SX
open Go.RowKit
variable {e : E} {ρ ρ' : Rho} {h h' : H} {w0 w w' : World} {P : Program}
mutual
theorem veq_eq : ∀ (a b : Value), veq a b = true → a = b
  | .bool a, .bool b, h => by cases a <;> cases b <;> simp_all [veq]
  | .int k a, .int k' b, h => by
    simp only [veq, Bool.and_eq_true, ibeq_iff, decide_eq_true_eq] at h
    rw [eq_of_beq h.1, h.2]
  | .string a, .string b, h => by
    simp only [veq, bytesEq_iff] at h
    obtain ⟨⟨x⟩⟩ := a
    obtain ⟨⟨y⟩⟩ := b
    have := eq_of_beq h
    simp at this
    rw [this]
  | .pointer none, .pointer none, _ => rfl
  | .pointer (some ⟨a, b, c⟩), .pointer (some ⟨a', b', c'⟩), h => by
    simp only [veq, Bool.and_eq_true] at h
    rw [Nat.eq_of_beq_eq_true h.1.1, Nat.eq_of_beq_eq_true h.1.2, eq_of_beq h.2]
  | .slice none n c, .slice none n' c', h => by
    simp only [veq, Bool.and_eq_true] at h
    rw [Nat.eq_of_beq_eq_true h.1, Nat.eq_of_beq_eq_true h.2]
  | .slice (some ⟨a, b, c⟩) n d, .slice (some ⟨a', b', c'⟩) n' d', h => by
    simp only [veq, Bool.and_eq_true] at h
    rw [Nat.eq_of_beq_eq_true h.1.1.1.1, Nat.eq_of_beq_eq_true h.1.1.1.2, eq_of_beq h.1.1.2, Nat.eq_of_beq_eq_true h.1.2, Nat.eq_of_beq_eq_true h.2]
  | .map none, .map none, _ => rfl
  | .map (some a), .map (some b), h => by
    rw [veq] at h
    rw [Nat.eq_of_beq_eq_true h]
  | .func f ⟨a⟩ ⟨b⟩, .func g ⟨c⟩ ⟨d⟩, h => by
    simp only [veq, veqA, Bool.and_eq_true] at h
    rw [eq_of_beq h.1.1, veqL_eq a c h.1.2, veqL_eq b d h.2]
  | .nilFunc, .nilFunc, _ => rfl
  | .nilIface, .nilIface, _ => rfl
  | .iface t v, .iface u w, h => by
    simp only [veq, Bool.and_eq_true] at h
    rw [Nat.eq_of_beq_eq_true h.1, veq_eq v w h.2]
  | .agg ⟨a⟩, .agg ⟨b⟩, h => by rw [veqL_eq a b (by simpa [veq, veqA] using h)]
  | .tuple ⟨a⟩, .tuple ⟨b⟩, h => by rw [veqL_eq a b (by simpa [veq, veqA] using h)]
theorem veqL_eq : ∀ (a b : List Value), veqL a b = true → a = b
  | [], [], _ => rfl
  | x :: xs, y :: ys, h => by
    simp only [veqL, Bool.and_eq_true] at h
    rw [veq_eq x y h.1, veqL_eq xs ys h.2]
end
theorem oeq_eq {a b : AObj} (h : oeq a b = true) : a = b := by
  unfold oeq at h
  split at h
  · rw [veqL_eq _ _ h]
  · rw [Nat.eq_of_beq_eq_true h]
  · cases h
theorem bif_some {α : Type} {b : Bool} {q : Option α} {r : α} (h : (bif b then q else none) = some r) : q = some r := by
  cases b
  · cases h
  · exact h
theorem xbuiltin_same {b : Builtin} {ats : List TypeId} {args : List Value} {v : Value} (hb : b = .len ∨ b = .cap ∨ b = .min ∨ b = .max) (hx : xbuiltin e h b ats args = some (.val v h')) : h' = h := by
  unfold xbuiltin at hx
  split at hx
  · rename_i t _ x
    cases hu : e.under t with
    | none => rw [hu] at hx; cases hx
    | some d =>
      rw [hu] at hx
      cases d <;> cases x <;> try (cases hx; done)
      all_goals (first | (cases hx; rfl) | skip)
      rename_i kt vt m
      cases m with
      | none => cases hx; rfl
      | some r =>
        simp only at hx
        cases ho : h.obj r with
        | none => rw [ho] at hx; cases hx
        | some ob =>
          rw [ho] at hx
          cases ob <;> first | (cases hx; done) | (cases hx; rfl)
  · rcases hb with q | q | q | q <;> cases q
  · rcases hb with q | q | q | q <;> cases q
  · cases hx; rfl
  · cases hx; rfl
  · cases hx
/-- an eager operation that lays no block leaves abstract memory as it was, but for the bytes of a string -/
theorem eager_same {tm : T Value} {o : Oper} {v : Value} (he : eagerOp o.op = true) (hf : freshOp o.op = false) (hx : xop e tm h o = some (.val v h'))
    (hv : (match (generalizing := false) v with | .slice (some a) _ _ => Nat.blt a.block h.n | _ => true) = true) : h' = h := by
  unfold xop at hx
  have hret : ∀ {x : Option Value}, ret h x = some (.val v h') → h' = h := by
    intro x q
    obtain ⟨u, _, hu⟩ := ret_some q
    cases hu; rfl
  cases hop : o.op with
  | move x => rw [hop] at hx; exact hret hx
  | assign x => rw [hop] at hx; exact hret hx
  | pick c x y =>
    rw [hop] at hx
    obtain ⟨u, _, hx1⟩ := bind1_some hx
    cases u <;> first | (cases hx1; done) | exact hret hx1
  | load t x =>
    rw [hop] at hx
    obtain ⟨u, _, hx1⟩ := bind1_some hx
    clear hx
    split at hx1
    · exact hret hx1
    · cases hx1
  | nilCheck x =>
    rw [hop] at hx
    obtain ⟨u, _, hx1⟩ := bind1_some hx
    clear hx
    split at hx1 <;> try (cases hx1; done)
    · split at hx1
      · rename_i t w _ _ 
        cases hb : aheadOk e t w ‹String› with
        | true => rw [hb] at hx1; cases hx1; rfl
        | false => rw [hb] at hx1; cases hx1
      · cases hx1
    · cases hx1; rfl
  | binOp op t x y c =>
    rw [hop] at hx
    obtain ⟨u, v', _, _, hx1⟩ := bind2_some hx
    exact hret hx1
  | unOp op t x =>
    rw [hop] at hx
    obtain ⟨u, _, hx1⟩ := bind1_some hx
    clear hx
    split at hx1 <;> first | (cases hx1; done) | (cases hx1; rfl)
  | makeInterface t x =>
    rw [hop] at hx
    simp only at hx
    split at hx
    · cases hx
    · obtain ⟨u, _, hx1⟩ := bind1_some hx
      cases hx1; rfl
    · cases hx
  | makeFunc fn first captured =>
    rw [hop] at hx
    simp only at hx
    cases hp : plainFn fn with
    | false => rw [hp] at hx; cases hx
    | true =>
      rw [hp, cond_true] at hx
      split at hx
      · cases hx; rfl
      · cases hx
  | fieldAddr s x f =>
    rw [hop] at hx
    simp only at hx
    split at hx <;> try (cases hx; done)
    split at hx <;> try (cases hx; done)
    split at hx <;> try (cases hx; done)
    obtain ⟨u, _, hx1⟩ := bind1_some hx
    clear hx
    split at hx1
    · cases hx1; rfl
    · cases hx1
  | indexAddr t x i =>
    rw [hop] at hx
    obtain ⟨u, v', _, _, hx1⟩ := bind2_some hx
    clear hx
    have key : ∀ {b : Bool} {q : R}, (bif b then some q else none) = some (R.val v h') → q = R.val v h' := by
      intro b q hq; cases b
      · cases hq
      · exact Option.some.inj hq
    split at hx1
    · split at hx1
      · have := key hx1; cases this; rfl
      · cases hx1
    · split at hx1
      · have := key hx1; cases this; rfl
      · cases hx1
    · cases hx1
  | index t x i =>
    rw [hop] at hx
    obtain ⟨u, v', _, _, hx1⟩ := bind2_some hx
    clear hx
    split at hx1
    · split at hx1
      · exact hret (bif_some hx1)
      · cases hx1
    · split at hx1
      · cases hx1; rfl
      · cases hx1
    · cases hx1
  | lookup t x i ok =>
    rw [hop] at hx
    obtain ⟨u, v', _, _, hx1⟩ := bind2_some hx
    clear hx
    split at hx1 <;> try (cases hx1; done)
    split at hx1 <;> try (cases hx1; done)
    rename_i kd _
    cases hk : keyOk kd v' with
    | false => rw [hk] at hx1; cases hx1
    | true =>
      rw [hk, cond_true] at hx1
      split at hx1 <;> try (cases hx1; done)
      split at hx1 <;> try (cases hx1; done)
      · split at hx1
        · cases hx1; rfl
        · cases hx1
      · split at hx1
        · rename_i z _
          cases hc : closedV z with
          | false => rw [hc] at hx1; cases hx1
          | true => rw [hc] at hx1; cases hx1; rfl
        · cases hx1
  | slice t x lo hi mx =>
    rw [hop] at hx
    obtain ⟨u, _, hx1⟩ := bind1_some hx
    clear hx
    split at hx1
    · exact hret hx1
    · cases hx1
  | extract x i =>
    rw [hop] at hx
    obtain ⟨u, _, hx1⟩ := bind1_some hx
    clear hx
    split at hx1
    · exact hret hx1
    · cases hx1
  | typeAssert x xt t ok =>
    rw [hop] at hx
    obtain ⟨u, _, hx1⟩ := bind1_some hx
    clear hx
    have key : ∀ {b : Bool}, (bif b then bind1 (zeroOf e t) fun z => bif closedV z then some (R.val (.tuple ⟨[z, .bool false]⟩) h) else none else none) = some (R.val v h') → h' = h := by
      intro b q
      cases b
      · cases q
      · obtain ⟨z, _, q⟩ := bind1_some q
        cases hc : closedV z with
        | false => rw [hc] at q; cases q
        | true => rw [hc] at q; cases q; rfl
    split at hx1 <;> try (cases hx1; done)
    · exact key hx1
    · have key2 : ∀ {b : Bool} {x : Value} {y : Option R}, (y = some (R.val v h') → h' = h) → (bif b then some (R.val x h) else y) = some (R.val v h') → h' = h := by
        intro b x y hy hq
        cases b
        · exact hy hq
        · cases hq; rfl
      exact key2 key hx1
  | build t ps =>
    rw [hop] at hx
    simp only at hx
    have key : ∀ {b : Bool} {q : Option (List Value)}, (bif b then (match q with | some cs => some (R.val (.agg ⟨cs⟩) h) | none => none) else none) = some (R.val v h') → h' = h := by
      intro b q hq
      cases b
      · cases hq
      · cases q with
        | none => cases hq
        | some cs => cases hq; rfl
    split at hx <;> try (cases hx; done)
    · exact key hx
    · split at hx
      · exact key hx
      · cases hx
  | convert s d x =>
    rw [hop] at hx
    obtain ⟨u, _, hx1⟩ := bind1_some hx
    clear hx
    simp only [xconv] at hx1
    split at hx1 <;> try (cases hx1; done)
    · cases hx1; rfl
    · cases hx1; rfl
    · split at hx1
      · cases hx1
        simp only at hv
        exact absurd (Nat.le_of_ble_eq_true hv) (Nat.not_succ_le_self _)
      · cases hx1
    · split at hx1
      · cases hx1; rfl
      · cases hx1
    · split at hx1
      · split at hx1
        · split at hx1
          · cases hx1; rfl
          · cases hx1
        · cases hx1
      · cases hx1
    · split at hx1
      · cases hb : Nat.beq s d with
        | true => rw [hb] at hx1; cases hx1; rfl
        | false => rw [hb] at hx1; cases hx1
      · cases hx1
  | call c =>
    rw [hop] at hx
    simp only at hx
    cases hc : c.callee with
    | builtin b =>
      rw [hc] at hx
      simp only at hx
      have heb : b = .len ∨ b = .cap ∨ b = .min ∨ b = .max := by
        rw [hop] at he
        obtain ⟨callee, args, ats⟩ := c
        simp only at hc
        subst hc
        cases b <;> simp_all [eagerOp]
      split at hx
      · rename_i args _
        exact xbuiltin_same heb hx
      · cases hx
    | invoke r n =>
      rw [hop] at he
      obtain ⟨callee, args, ats⟩ := c
      simp only at hc
      subst hc
      simp [eagerOp] at he
    | value f =>
      rw [hop] at he
      obtain ⟨callee, args, ats⟩ := c
      simp only at hc
      subst hc
      simp [eagerOp] at he
  | field t x i => rw [hop] at hx; cases hx
  | alloc _ => rw [hop] at hf; cases hf
  | box _ _ => rw [hop] at hf; cases hf
  | buildSlice _ _ _ => rw [hop] at hf; cases hf
  | makeMap _ _ => rw [hop] at hf; cases hf
  | makeSlice _ _ _ => rw [hop] at hf; cases hf
  | _ => rw [hop] at he; cases he
end Go.SX
namespace Go.SX
open Go.RowKit
variable {e : E} {ρ ρ' : Rho} {h h' : H} {w0 w w' : World} {P : Program}
theorem stageB_get {arr : List Oper} {bs : List Nat} {ef : List (Nat × Oper)} {n : Nat} {tm0 vals : T Value} : ∀ {l : List Oper} {k i : Nat} {o : Oper}, stageB e arr bs ef n tm0 vals h l k = true → l[i]? = some o → eagerOp o.op = true →
    mayAt bs (maskAt bs (k + i)) (k + i) n ef = true →
    (∃ tm v, wantedV arr vals (maskAt bs (k + i)) o.guard = some true ∧ seen bs vals (k + i) (maskAt bs (k + i)) arr 0 tm0 = some tm ∧ vals.get (k + i) = some v ∧ again e tm h o v = true) ∨
    (wantedV arr vals (maskAt bs (k + i)) o.guard = some false ∧ vals.get (k + i) = some undefV) := by
  intro l
  induction l with
  | nil => intro k i o _ ho; simp at ho
  | cons x xs ih =>
    intro k i o hb ho he hm
    simp only [stageB, Bool.and_eq_true] at hb
    cases i with
    | zero =>
      simp at ho; subst ho
      rw [Nat.add_zero] at hm ⊢
      have h1 := hb.1
      rw [he, hm] at h1
      simp only [Bool.and_true, cond_true] at h1
      split at h1
      · rename_i hw
        split at h1
        · rename_i tm v hs hv
          exact .inl ⟨tm, v, hw, hs, hv, h1⟩
        · cases h1
      · rename_i hw
        split at h1
        · rename_i v hv
          exact .inr ⟨hw, by rw [hv, veq_eq _ _ h1]⟩
        · cases h1
      · cases h1
    | succ i =>
      rw [show k + (i + 1) = k + 1 + i by omega] at hm ⊢
      exact ih hb.2 (by simpa using ho) he hm
section
variable {lo hi nt n : Nat} {tm : T Value} {tmps : Array Value} {ops : Array Oper} {vals : T Value} {L : Array Bool}
theorem ready_mask {i : Nat} (hD : DR ρ lo hi nt tm tmps ops n vals L) (hr : i ∈ Region.ready .any ops L) : ∀ j, Nat.testBit (maskAt (masks [] ops.toList) i) j = true → L.getD j false = true := by
  intro j hb
  obtain ⟨_, _, o, ho, hedge⟩ := ready_mem hD.size hr
  obtain ⟨o', x, h1, h2, h3, h4⟩ := mask_bit hb
  rw [arr_get, ho] at h1; cases h1
  have hx := hedge x h2 h3
  rcases h4 with rfl | ⟨_, h5⟩
  · exact hx
  · exact hD.closedM x.on j hx h5
theorem ready_may {i : Nat} (hD : DR ρ lo hi nt tm tmps ops n vals L) (hr : i ∈ Region.ready .any ops L) :
    mayAt (masks [] ops.toList) (maskAt (masks [] ops.toList) i) i n (efs ops.toList 0) = true := by
  obtain ⟨_, hL, _⟩ := ready_mem hD.size hr
  refine mayAt_of fun j x o hj => ⟨fun hnj => ?_, fun hjn => ?_⟩
  · cases hb : Nat.testBit (maskAt (masks [] ops.toList) i) x with
    | false => rfl
    | true =>
      have := (hD.efs j x o hj).1 (ready_mask hD hr x hb)
      omega
  · cases hb : Nat.testBit (maskAt (masks [] ops.toList) x) i with
    | false => rfl
    | true =>
      have := hD.closedM x i ((hD.efs j x o hj).2 hjn) hb
      rw [hL] at this; cases this
/-- an operation's value goes into the region's word -/
theorem DR.put {i : Nat} {o : Oper} {v v' : Value} {n' : Nat} {vals' : T Value} (hD : DR ρ lo hi nt tm tmps ops n vals L) (hnt : nt ≤ tmps.size) (hr : i ∈ Region.ready .any ops L) (ho : ops[i]? = some o)
    (hle : ρ.Le ρ') (hkeep : ∀ r, r < hi → ρ.ι r = none → ρ'.ι r = none ∨ (freshOp o.op = true ∧ vals.get i = some v ∧ idOf v = some r))
    (hv : VRel ρ' v v') (hvi : vals'.get i = some v) (hvo : ∀ j, j ≠ i → vals'.get j = vals.get j)
    (hn : ∀ (j x : Nat) (o' : Oper), (SX.efs ops.toList 0)[j]? = some (x, o') → (j < n' ↔ (j < n ∨ x = i))) :
    DR ρ' lo hi nt tm (putA tmps o.dst v') ops n' vals' (L.setIfInBounds i true) := by
  obtain ⟨hlt, hLi, o1, ho1, hedge⟩ := ready_mem hD.size hr
  rw [ho] at ho1; cases ho1
  have hsz : i < L.size := by rw [hD.size]; exact hlt
  have hu := (dok_parts hD.ok).2.2
  have hdst : ∀ d, o.dst = some d → d < tmps.size := fun d hd => Nat.lt_of_lt_of_le (dstOk_get hD.dst (by rw [arr_get]; exact ho) hd) hnt
  have htm : ∀ t, o.dst ≠ some t → (putA tmps o.dst v')[t]? = tmps[t]? := by
    intro t ht
    cases hd : o.dst with
    | none => rfl
    | some d => simp only [putA]; rw [Array.getElem?_setIfInBounds_ne]; intro q; subst q; exact ht hd
  refine ⟨hD.ok, hD.dst, by simpa using hD.size, ?_, ?_, ?_, ?_, ?_, ?_⟩
  · intro j oj x hLj hoj hx hb
    rw [set_getD hsz] at hLj ⊢
    by_cases hxi : x.on = i
    · rw [if_pos hxi]
    · rw [if_neg hxi]
      by_cases hji : j = i
      · subst hji; rw [ho] at hoj; cases hoj; exact hedge x hx hb
      · rw [if_neg hji] at hLj; exact hD.closed j oj x hLj hoj hx hb
  · intro j x o' hj
    rw [set_getD hsz, hn j x o' hj, ← hD.efs j x o' hj]
    by_cases hxi : x = i
    · simp [hxi]
    · simp [hxi]
  · intro j oj hLj hoj
    rw [set_getD hsz] at hLj
    by_cases hji : j = i
    · subst hji; rw [ho] at hoj; cases hoj
      refine ⟨v, hvi, fun d hd => ⟨v', ?_, hv⟩⟩
      rw [hd]; simp [putA, hdst d hd]
    · rw [if_neg hji] at hLj
      obtain ⟨u, h1, h2⟩ := hD.val j oj hLj hoj
      refine ⟨u, by rw [hvo j hji]; exact h1, fun d hd => ?_⟩
      obtain ⟨u', h3, h4⟩ := h2 d hd
      refine ⟨u', ?_, h4.mono hle⟩
      rw [htm d]
      · exact h3
      · intro hod
        exact hji (uniqueOk_get hu (by rw [arr_get]; exact hoj) (by rw [arr_get]; exact ho) hd hod)
  · intro t u hu1 hno
    have hnoi : o.dst ≠ some t := hno i o (by rw [set_getD hsz, if_pos rfl]) ho
    obtain ⟨u', h1, h2⟩ := hD.old t u hu1 (fun j oj hLj hoj => hno j oj (by
      rw [set_getD hsz]; by_cases q : j = i
      · rw [if_pos q]
      · rw [if_neg q]; exact hLj) hoj)
    exact ⟨u', by rw [htm t hnoi]; exact h1, h2.mono hle⟩
  · intro j oj u r hLj hoj hf hg hid
    rw [set_getD hsz] at hLj
    by_cases hji : j = i
    · rw [if_pos hji] at hLj; cases hLj
    · rw [if_neg hji] at hLj
      rw [hvo j hji] at hg
      obtain ⟨h1, h2, h3⟩ := hD.pend j oj u r hLj hoj hf hg hid
      refine ⟨?_, h2, h3⟩
      rcases hkeep r h3 h1 with q | ⟨q1, q2, q3⟩
      · exact q
      · exact absurd (hD.dist j i oj o u v r hLj hLi hoj ho hf q1 hg q2 hid q3) hji
  · intro j k oj ok u u' r hLj hLk hoj hok hf hf' hg hg' hid hid'
    rw [set_getD hsz] at hLj hLk
    by_cases hji : j = i
    · rw [if_pos hji] at hLj; cases hLj
    · by_cases hki : k = i
      · rw [if_pos hki] at hLk; cases hLk
      · rw [if_neg hji] at hLj
        rw [if_neg hki] at hLk
        rw [hvo j hji] at hg
        rw [hvo k hki] at hg'
        exact hD.dist j k oj ok u u' r hLj hLk hoj hok hf hf' hg hg' hid hid'
theorem mem_ready_of {t i : Nat} (h : (Region.ready .any ops L)[t]? = some i) : i ∈ Region.ready .any ops L := List.mem_of_getElem? h
theorem eager_step (hE : EnvOk e P) (hinv : Inv ρ h w0 w) (hhi : hi ≤ h.n) (hlo : lo ≤ h.n) (hD : DR ρ lo hi nt tm tmps ops n vals L) (hnt : nt ≤ tmps.size)
    (hB : stageB e ops.toList (masks [] ops.toList) (efs ops.toList 0) n tm vals h ops.toList 0 = true) {i : Nat} (hr : i ∈ Region.ready .any ops L) {o : Oper} (ho : ops[i]? = some o) (he : eagerOp o.op = true)
    {fr : Frame} {cs : List Frame} {rest : List Nat} {K : List Item} (hm : fr.mode = .run) (htd : fr.todo = .inRegion ops (i :: rest) :: K) (htm : fr.tmps = tmps) :
    ∃ ρ' w' tmps', Go.step P (lone fr cs w) = .next (lone { fr with tmps := tmps', todo := .inRegion ops rest :: K } cs w') ∧ ρ.Ext lo ρ' lo ∧ Inv ρ' h w0 w' ∧ nt ≤ tmps'.size ∧
      DR ρ' lo hi nt tm tmps' ops n vals (L.setIfInBounds i true) := by
  subst htm
  obtain ⟨hlt, hLi, _⟩ := ready_mem hD.size hr
  have hmask := ready_mask hD hr
  have hmay := ready_may hD hr
  have hne : ∀ (j x : Nat) (o' : Oper), (efs ops.toList 0)[j]? = some (x, o') → x ≠ i := by
    intro j x o' hj hx
    obtain ⟨_, h2, h3⟩ := efs_get hj
    rw [hx, Nat.sub_zero, arr_get, ho] at h2
    cases h2
    rw [he] at h3; cases h3
  have hn : ∀ (j x : Nat) (o' : Oper), (efs ops.toList 0)[j]? = some (x, o') → (j < n ↔ (j < n ∨ x = i)) := fun j x o' hj => ⟨.inl, fun q => q.resolve_right (hne j x o' hj)⟩
  have hsz : ∀ v', nt ≤ (putA fr.tmps o.dst v').size := by
    intro v'; simpa using hnt
  have hge := stageB_get (i := i) hB (by rw [arr_get]; exact ho) he (by simpa using hmay)
  simp only [Nat.zero_add] at hge
  rcases hge with ⟨tm1, v, hw, hs, hv, hag⟩ | ⟨hw, hv⟩
  · have hw' := hD.wanted hmask hw
    have hT := hD.seen hLi hmask hs
    have hg := stepG_oper (P := P) (w := w) (cs := cs) hm htd ho hw' (.inr fun c hc => by rw [hc] at he; cases he)
    have hea : fr.eval = (Act.mk fr.tmps fr.defers).eval := eval_act fr
    unfold again at hag
    cases hf : freshOp o.op with
    | true =>
      rw [hf, cond_true] at hag
      split at hag
      · rename_i ob mk r hxf hid
        rw [Bool.and_eq_true] at hag
        have hva := veq_eq _ _ hag.1
        split at hag
        · rename_i ob' hob
          have hoo := oeq_eq hag.2
          subst hoo
          obtain ⟨hun, hlor, hrhi⟩ := hD.pend i o v r hLi ho hf hv hid
          obtain ⟨O, nn, v', h1, _, h2⟩ := xfresh_rel (P := P) (w := w) (a := Act.mk fr.tmps fr.defers) hE hT hxf
          have hle : ρ.Le (ρ.add r w.heap.size 0 nn) := Rho.le_add hun (fun s b e' hs' => Nat.ne_of_lt (hinv.hi hs'))
          obtain ⟨h3, h4⟩ := h2 r hle
          rw [hva] at h4
          obtain ⟨k, hk, hko⟩ := obj_some hob
          obtain ⟨hi2, _⟩ := hinv.place (k := k) hk hun (by rw [hko]; exact h3)
          rw [← hea] at h1
          refine ⟨ρ.add r w.heap.size 0 nn, w.alloc O, (putA fr.tmps o.dst v'), (step_val hg h1).trans (by rw [finish_region htd ho]), ⟨hle, fun s hs hsn => ?_, Nat.le_refl _⟩, hi2, hsz v', hD.put hnt hr ho hle ?_ h4 hv (fun _ _ => rfl) hn⟩
          · simp only [Rho.add]; rw [if_neg (by omega)]; exact hsn
          · intro s hs hsn
            by_cases hsr : s = r
            · exact .inr ⟨hf, hv, by rw [hsr]; exact hid⟩
            · left; simp only [Rho.add]; rw [if_neg hsr]; exact hsn
        · cases hag.2
      · cases hag
    | false =>
      rw [hf, cond_false] at hag
      split at hag
      · rename_i v1 h1' hxo
        rw [Bool.and_eq_true] at hag
        have hva := veq_eq _ _ hag.1
        have hsame := eager_same he hf hxo hag.2
        subst hsame
        subst hva
        obtain ⟨ρ2, w2, v', hext, hrun, hvr, hi2⟩ := xop_sound (P := P) (a := Act.mk fr.tmps fr.defers) hE hinv hT hxo
        rw [← hea] at hrun
        refine ⟨ρ2, w2, (putA fr.tmps o.dst v'), (step_val hg hrun).trans (by rw [finish_region htd ho]), ⟨hext.le, fun s hs hsn => hext.keep s (Nat.lt_of_lt_of_le hs hlo) hsn, Nat.le_refl _⟩, hi2, hsz v', hD.put hnt hr ho hext.le (fun s hs hsn => .inl (hext.keep s (Nat.lt_of_lt_of_le hs hhi) hsn)) hvr hv (fun _ _ => rfl) hn⟩
      · cases hag
  · have hw' := hD.wanted hmask hw
    refine ⟨ρ, w, (putA fr.tmps o.dst undef), (step_not hm htd ho hw').trans (by rw [finish_region htd ho]), .refl _, hinv, hsz undef, hD.put hnt hr ho (.refl ρ) (fun s _ hsn => .inl hsn) (.tuple .nil) hv (fun _ _ => rfl) hn⟩
end
end Go.SX
