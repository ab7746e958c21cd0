import Derived.Test.YtmjddjjcnhckgaaGreatDoorKd
set_option linter.unusedVariables false
set_option linter.unusedSimpArgs false
set_option linter.constructorNameAsVariable false
namespace Go.AI
theorem Tr.setF_comm {α : Type} : ∀ (f g : Nat) (t : Tr α) (i j : Nat) (x y : α), i ≠ j → i < f → j < g → Tr.setF g (Tr.setF f t i x) j y = Tr.setF f (Tr.setF g t j y) i x := by
 intro f
 induction f with
 | zero => intro g t i j x y h hi; omega
 | succ f ih =>
  intro g t i j x y h hi hj
  cases g with
  | zero => omega
  | succ g =>
   by_cases i0 : i = 0
   ·have j0 : j ≠ 0 := by omega
    by_cases j1 : j % 2 = 1
    ·cases t <;> simp [Tr.setF, nbeq, i0, j0, j1]
    ·cases t <;> simp [Tr.setF, nbeq, i0, j0, j1]
   ·by_cases j0 : j = 0
    ·by_cases i1 : i % 2 = 1
     ·cases t <;> simp [Tr.setF, nbeq, i0, j0, i1]
     ·cases t <;> simp [Tr.setF, nbeq, i0, j0, i1]
    ·by_cases i1 : i % 2 = 1
     ·by_cases j1 : j % 2 = 1
      ·cases t <;> simp [Tr.setF, nbeq, i0, j0, i1, j1] <;> exact ih g _ _ _ x y (by omega) (by omega) (by omega)
      ·cases t <;> simp [Tr.setF, nbeq, i0, j0, i1, j1]
     ·by_cases j1 : j % 2 = 1
      ·cases t <;> simp [Tr.setF, nbeq, i0, j0, i1, j1]
      ·cases t <;> simp [Tr.setF, nbeq, i0, j0, i1, j1] <;> exact ih g _ _ _ x y (by omega) (by omega) (by omega)
theorem get_of_row {σ : St} {id : Nat} {cs : List Value} {m : Mta} (h : σ.row id = some (cs, m)) : σ.get id = some (.cells cs m) ∧ σ.good m = true := by
 unfold St.row at h
 split at h
 ·rename_i cs' m' e
  cases hg : σ.good m' with
  | true => rw [hg, cond_true] at h; simp only [Option.some.injEq, Prod.mk.injEq] at h; obtain ⟨rfl, rfl⟩ := h; exact ⟨e, hg⟩
  | false => rw [hg, cond_false] at h; cases h
 ·cases h
theorem row_of_get {σ : St} {id : Nat} {cs : List Value} {m : Mta} (h : σ.get id = some (.cells cs m)) (hg : σ.good m = true) : σ.row id = some (cs, m) := by
 simp only [St.row, h, hg, cond_true]
theorem St.put_comm (σ : St) {i j : Nat} (h : i ≠ j) (x y : AObj) : (σ.put i x).put j y = (σ.put j y).put i x := by
 simp only [St.put, Tr.set, Tr.setF_comm _ _ _ _ _ x y h (Nat.lt_succ_self i) (Nat.lt_succ_self j)]
section
variable {P : Program}
def mtaS (m : Mta) (off : Nat) : Mta :=
 match m.grp with
 | none => m
 | some (g, v) => bif m.tip && Nat.ble m.lim off then m else { m with grp := some (g, v + 1) }
def bmp (σ : St) (m : Mta) (off : Nat) : St :=
 match m.grp with
 | none => σ
 | some (g, v) => bif m.tip && Nat.ble m.lim off then σ else σ.bump g (v + 1)
theorem bmp_get (σ : St) (m : Mta) (off k : Nat) : (bmp σ m off).get k = σ.get k := by
 unfold bmp
 split
 ·rfl
 ·rename_i g v _
  cases m.tip && Nat.ble m.lim off <;> rfl
theorem bmp_put (σ : St) (m : Mta) (off k : Nat) (o : AObj) : bmp (σ.put k o) m off = (bmp σ m off).put k o := by
 unfold bmp
 split
 ·rfl
 ·rename_i g v _
  cases m.tip && Nat.ble m.lim off <;> rfl
theorem mtaS_none {m : Mta} {off : Nat} (h : (mtaS m off).grp = none) : m.grp = none := by
 unfold mtaS at h
 split at h
 ·assumption
 ·rename_i g v hg
  cases hb : (m.tip && Nat.ble m.lim off) with
  | true => rw [hb, cond_true] at h; exact h
  | false => rw [hb, cond_false] at h; cases h
theorem astore_of {σ : St} {t : TypeId} {x : Value} {id off n : Nat} {cs : List Value} {m : Mta} (hr : σ.row id = some (cs, m)) (hs : szOf P t = some n)
    (hc : (m.wr && Nat.beq x.cells.size n && Nat.ble (off + n) cs.length && x.cells.toList.all one) = true) :
    astore P σ t (.pointer (some ⟨id, off, none⟩)) x = some (bmp (σ.put id (.cells (putAt cs off x.cells.toList) (mtaS m off))) m off) := by
 simp only [astore, hr, hs, hc, cond_true, bmp, mtaS]
 cases hg : m.grp with
 | none => rfl
 | some gv =>
  obtain ⟨g, v⟩ := gv
  simp only
  cases hb : (m.tip && Nat.ble m.lim off) <;> rfl
theorem astore_inv {σ σ' : St} {t : TypeId} {id off : Nat} {x : Value} (h : astore P σ t (.pointer (some ⟨id, off, none⟩)) x = some σ') : ∃ cs m n, σ.row id = some (cs, m) ∧ szOf P t = some n ∧
    (m.wr && Nat.beq x.cells.size n && Nat.ble (off + n) cs.length && x.cells.toList.all one) = true ∧ σ' = bmp (σ.put id (.cells (putAt cs off x.cells.toList) (mtaS m off))) m off := by
 cases hr : σ.row id with
 | none => simp [astore, hr] at h
 | some r =>
  obtain ⟨cs, m⟩ := r
  cases hs : szOf P t with
  | none => simp [astore, hr, hs] at h
  | some n =>
   cases hc : (m.wr && Nat.beq x.cells.size n && Nat.ble (off + n) cs.length && x.cells.toList.all one) with
   | false => simp only [astore, hr, hs, hc, cond_false] at h; cases h
   | true => rw [astore_of hr hs hc] at h; cases h; exact ⟨cs, m, n, rfl, rfl, hc, rfl⟩
theorem row_eq {σ σ' : St} {k : Nat} (h : σ'.get k = σ.get k) (hv : ∀ cs m, σ.get k = some (.cells cs m) → σ'.good m = σ.good m) : σ'.row k = σ.row k := by
 unfold St.row
 rw [h]
 split
 ·rename_i cs m hg; rw [hv cs m hg]
 ·rfl
theorem astore_comm {σ σ1 σ2 : St} {t1 t2 : TypeId} {x1 x2 : Value} {i j o1 o2 : Nat}
    (h1 : astore P σ t1 (.pointer (some ⟨i, o1, none⟩)) x1 = some σ1) (h2 : astore P σ1 t2 (.pointer (some ⟨j, o2, none⟩)) x2 = some σ2) (hij : i ≠ j) (hg : ∃ cs m, σ2.get j = some (.cells cs m) ∧ m.grp = none) :
    ∃ σ1', astore P σ t2 (.pointer (some ⟨j, o2, none⟩)) x2 = some σ1' ∧ astore P σ1' t1 (.pointer (some ⟨i, o1, none⟩)) x1 = some σ2 := by
 obtain ⟨cs1, m1, n1, r1, s1, c1, rfl⟩ := astore_inv h1
 obtain ⟨cs2, m2, n2, r2, s2, c2, rfl⟩ := astore_inv h2
 have hgn : m2.grp = none := by
  obtain ⟨cs, m, hg1, hg2⟩ := hg
  rw [bmp_get, St.get_put, if_pos rfl] at hg1
  simp only [Option.some.injEq, AObj.cells.injEq] at hg1
  refine mtaS_none (off := o2) ?_
  rw [hg1.2]; exact hg2
 have hbm : ∀ s : St, bmp s m2 o2 = s := fun s => by unfold bmp; rw [hgn]
 have hms : mtaS m2 o2 = m2 := by unfold mtaS; rw [hgn]
 have hgood : ∀ s : St, s.good m2 = true := fun s => by unfold St.good; rw [hgn]
 have hget : σ.get j = some (.cells cs2 m2) := by
  have := (get_of_row r2).1
  rw [bmp_get, St.get_put, if_neg (Ne.symm hij)] at this
  exact this
 have r2' : σ.row j = some (cs2, m2) := row_of_get hget (hgood σ)
 refine ⟨_, astore_of r2' s2 c2, ?_⟩
 simp only [hbm, hms]
 have r1' : (σ.put j (.cells (putAt cs2 o2 x2.cells.toList) m2)).row i = some (cs1, m1) := by
  rw [← r1]
  exact row_eq (by rw [St.get_put, if_neg hij]) (fun cs m _ => rfl)
 rw [astore_of r1' s1 c1, ← bmp_put, St.put_comm _ hij]
variable {ops : Array Oper}
theorem addE_get (ops : Array Oper) (i k j : Nat) : (addE ops i k)[j]? = (ops[j]?).map fun o => bif Nat.beq j i then { o with after := o.after.push ⟨k, .data⟩ } else o := by
 unfold addE
 rw [List.getElem?_toArray, List.getElem?_map, List.getElem?_zipIdx]
 cases h : ops[j]? with
 | none => simp [h]
 | some o => simp [h]
theorem addE_ne {i k j : Nat} (h : j ≠ i) : (addE ops i k)[j]? = ops[j]? := by
 rw [addE_get]
 cases ops[j]? with
 | none => rfl
 | some o => simp only [Option.map_some, nbeq, decide_eq_false h, cond_false]
theorem addE_at {i k : Nat} {o : Oper} (h : ops[i]? = some o) : (addE ops i k)[i]? = some { o with after := o.after.push ⟨k, .data⟩ } := by
 rw [addE_get, h]
 simp only [Option.map_some, nbeq, decide_true, cond_true]
theorem addE_size (i k : Nat) : (addE ops i k).size = ops.size := by simp [addE]
theorem addE_dst (i k j : Nat) : ((addE ops i k)[j]?).bind (·.dst) = (ops[j]?).bind (·.dst) := by
 rw [addE_get]
 cases ops[j]? with
 | none => rfl
 | some o => cases Nat.beq j i <;> rfl
theorem addE_wanted (i k : Nat) (S : Slots) (o : Oper) : wanted (addE ops i k) S o = wanted ops S o := by
 unfold wanted
 split
 ·rfl
 ·rw [addE_dst]
theorem addE_yielded (i k : Nat) (tm : Array Value) : yielded (addE ops i k) tm = yielded ops tm := by
 funext j
 unfold yielded
 rw [addE_dst]
theorem addE_mem {i k : Nat} {o : Oper} (h : o ∈ (addE ops i k).toList) : ∃ o' ∈ ops.toList, ∀ N, okOper P N o = okOper P N o' := by
 obtain ⟨j, hj⟩ := List.getElem?_of_mem h
 have : (addE ops i k)[j]? = some o := by simpa using hj
 rw [addE_get] at this
 cases ho : ops[j]? with
 | none => rw [ho] at this; cases this
 | some o' =>
  rw [ho] at this
  refine ⟨o', by have : ops.toList[j]? = some o' := (by simpa using ho); exact List.mem_of_getElem? this, fun N => ?_⟩
  cases hb : Nat.beq j i with
  | true => rw [Option.map_some, hb, cond_true] at this; cases this; rfl
  | false => rw [Option.map_some, hb, cond_false] at this; cases this; rfl
theorem addE_wpOp {Q : Exit → Act → World → Prop} {i k j : Nat} {K : Act → World → Prop} {a : Act} {w : World} (h : wpOp P (addE ops i k) Q j K a w) : wpOp P ops Q j K a w := by
 unfold wpOp at h ⊢
 rw [addE_yielded, addE_get] at h
 cases ho : ops[j]? with
 | none => rw [ho] at h; exact h
 | some o =>
  rw [ho] at h
  cases hb : Nat.beq j i with
  | true => rw [Option.map_some, hb, cond_true] at h; exact h
  | false => rw [Option.map_some, hb, cond_false] at h; exact h
theorem addE_ready_of {i k j : Nat} {listed : Array Bool} (h : j ∈ Region.ready .any (addE ops i k) listed) : j ∈ Region.ready .any ops listed := by
 obtain ⟨h1, o, ho, hall⟩ := mem_ready.1 h
 rw [addE_get] at ho
 cases ho' : ops[j]? with
 | none => rw [ho'] at ho; cases ho
 | some o' =>
  rw [ho'] at ho
  refine mem_ready.2 ⟨h1, o', ho', fun e he hb => hall e ?_ hb⟩
  cases hb : Nat.beq j i with
  | true => rw [Option.map_some, hb, cond_true] at ho; cases ho; exact Array.mem_push_of_mem _ he
  | false => rw [Option.map_some, hb, cond_false] at ho; cases ho; exact he
theorem ready_addE {i k j : Nat} {listed : Array Bool} (h : j ∈ Region.ready .any ops listed) (hk : j ≠ i ∨ listed.getD k false = true) : j ∈ Region.ready .any (addE ops i k) listed := by
 obtain ⟨h1, o, ho, hall⟩ := mem_ready.1 h
 by_cases e : j = i
 ·subst e
  refine mem_ready.2 ⟨h1, _, addE_at ho, fun e he hb => ?_⟩
  rcases Array.mem_push.1 he with he | rfl
  ·exact hall e he hb
  ·exact hk.resolve_left (by simp)
 ·exact mem_ready.2 ⟨h1, o, by rw [addE_ne e]; exact ho, hall⟩
theorem nil_of {l : List Nat} (h : ∀ j, j ∉ l) : l = [] := by
 cases l with
 | nil => rfl
 | cons a l => exact absurd List.mem_cons_self (h a)
theorem wpAny_addE {Q : Exit → Act → World → Prop} {i k : Nat} : ∀ (fuel : Nat) (listed : Array Bool) (a : Act) (w : World), listed.getD k false = true → wpAny P .any (addE ops i k) Q fuel listed a w → wpAny P .any ops Q fuel listed a w := by
 intro fuel
 induction fuel with
 | zero =>
  intro listed a w hk h
  exact ⟨nil_of fun j hj => (by have := ready_addE (i := i) hj (.inr hk); rw [h.1] at this; cases this), h.2⟩
 | succ fuel ih =>
  intro listed a w hk h
  refine ⟨fun hr => h.1 (nil_of fun j hj => by have := addE_ready_of hj; rw [hr] at this; cases this), fun j hj => ?_⟩
  refine wpOp_mono (fun a' w' h' => ih _ a' w' ?_ h') (addE_wpOp (h.2 j (ready_addE hj (.inr hk))))
  by_cases e : k = j
  ·subst e
   have := (mem_ready.1 hj).1
   obtain ⟨h2, h3⟩ := getD_true_of_false this
   rw [hk] at h2; cases h2
  ·rw [getD_set_ne false (Ne.symm e)]; exact hk
variable {call : FuncId → Array Value → St → Option (Value × St)} {ms m1 m2 : List Nat} {base : Nat} {S' : Slots} {σ' : St} {x y : Nat} {ox oy : Oper} {tx ty : TypeId} {ax ay vx vy : Operand}
theorem store_kind {o : Oper} {t : TypeId} {a v : Operand} (h : o.op = .store t a v) : kindOf o = .eff := by simp only [kindOf, h]
theorem store_aeff {o : Oper} {t : TypeId} {a v : Operand} (h : o.op = .store t a v) (σ : St) (ρ : Operand → Value) (k : Nat) : aeff P call σ ρ o k = (astore P σ t (ρ a) (ρ v)).map fun σ' => (undef, σ') := by simp only [aeff, h]
structure TwH (ops : Array Oper) (x y : Nat) (ox oy : Oper) (tx ty : TypeId) (ax ay vx vy : Operand) : Prop where
 ne : x ≠ y
 hx : ops[x]? = some ox
 hy : ops[y]? = some oy
 opx : ox.op = .store tx ax vx
 opy : oy.op = .store ty ay vy
 gx : ox.guard = none
 gy : oy.guard = none
 dx : ox.dst = none
 dy : oy.dst = none
def Apart (S : Slots) (σ : St) (ax ay : Operand) : Prop := ∃ i o1 j o2, ev S ax = .pointer (some ⟨i, o1, none⟩) ∧ ev S ay = .pointer (some ⟨j, o2, none⟩) ∧ i ≠ j ∧ ∃ cs m, σ.get j = some (.cells cs m) ∧ m.grp = none
theorem two_certs (H : TwH ops x y ox oy tx ty ax ay vx vy) : ∀ (pre : List Nat) (pend : List Pend) (S : Slots) (σ : St),
    (∀ i ∈ pre, i ≠ x ∧ i ≠ y ∧ m1.getD i 0 = ms.getD i 0 ∧ m2.getD i 0 = ms.getD i 0 ∧ (isPure ops i = true ∨ (bit (m1.getD x 0) i = true ∧ bit (m2.getD y 0) i = true))) →
    (∀ p ∈ pend, bit (m1.getD x 0) p.i = true ∧ bit (m2.getD y 0) p.i = true) → runDraw P call ops ms base (pre ++ [x, y]) pend S σ = some (S', σ') → Apart S' σ' ax ay →
    ∃ (rp : List Rec) (Cp : List St) (Ep : List Nat) (rx ry sx sy : Rec) (σa σb σc : St), rp.map (·.i) = pre ∧ rx.i = x ∧ ry.i = y ∧ sx.i = x ∧ sy.i = y ∧ Cp.length = Ep.length ∧
      Cert P call (addE ops y x) m1 base S' σ' (rp ++ [rx, ry]) (Cp ++ [σa, σb, σ']) (Ep ++ [x, y]) pend S σ ∧
      Cert P call (addE ops x y) m2 base S' σ' (rp ++ [sy, sx]) (Cp ++ [σa, σc, σ']) (Ep ++ [y, x]) pend S σ := by
 intro pre
 induction pre with
 | nil =>
  intro pend S σ _ hp h hap
  have hwx : ∀ S, wanted ops S ox = true := fun S => by simp only [wanted, H.gx]
  have hwy : ∀ S, wanted ops S oy = true := fun S => by simp only [wanted, H.gy]
  simp only [List.nil_append, runDraw, H.hx, H.hy, hwx, hwy, cond_true, store_kind H.opx, store_kind H.opy, store_aeff H.opx, store_aeff H.opy, H.dx, H.dy, Slots.store] at h
  cases hc : pend.all (check P base σ) with
  | false => rw [hc] at h; cases h
  | true =>
   rw [hc, cond_true] at h
   cases h1 : astore P σ tx (ev S ax) (ev S vx) with
   | none => rw [h1] at h; cases h
   | some σ1 =>
    rw [h1] at h
    simp only [Option.map_some] at h
    cases hc2 : (pend.filter fun r => !bit (ms.getD x 0) r.i).all (check P base σ1) with
    | false => rw [hc2] at h; cases h
    | true =>
     rw [hc2, cond_true] at h
     cases h2 : astore P σ1 ty (ev S ay) (ev S vy) with
     | none => rw [h2] at h; cases h
     | some σ2 =>
      rw [h2] at h
      simp only [Option.map_some] at h
      obtain ⟨rfl, rfl⟩ : S = S' ∧ σ2 = σ' := by
       cases hc3 : ((pend.filter fun r => !bit (ms.getD x 0) r.i).filter fun r => !bit (ms.getD y 0) r.i).all (check P base σ2) with
       | false => rw [hc3] at h; cases h
       | true => rw [hc3, cond_true] at h; cases h; exact ⟨rfl, rfl⟩
      obtain ⟨i, o1, j, o2, e1, e2, hij, hg⟩ := hap
      have hsw := h2
      rw [e2] at hsw
      have h1' := h1
      rw [e1] at h1'
      obtain ⟨σc, k1, k2⟩ := astore_comm h1' hsw hij hg
      have hch : ∀ p ∈ pend, CheckP P base σ p := fun p hp' => check_ok (List.all_eq_true.1 hc p hp')
      have f1 : (pend.filter fun p => !bit (m1.getD x 0) p.i) = [] := List.filter_eq_nil_iff.2 fun p hp' => by rw [(hp p hp').1]; simp
      have f2 : (pend.filter fun p => !bit (m2.getD y 0) p.i) = [] := List.filter_eq_nil_iff.2 fun p hp' => by rw [(hp p hp').2]; simp
      refine ⟨[], [], [], ⟨x, ox, S, undef⟩, ⟨y, { oy with after := oy.after.push ⟨x, .data⟩ }, S, undef⟩, ⟨x, { ox with after := ox.after.push ⟨y, .data⟩ }, S, undef⟩, ⟨y, oy, S, undef⟩, σ, σ1, σc, rfl, rfl, rfl, rfl, rfl, rfl, ?_, ?_⟩
      ·refine .eff ⟨x, ox, S, undef⟩ _ _ _ pend σ σ1 (by rw [addE_ne H.ne]; exact H.hx) (by rw [addE_wanted]; exact hwx S) (store_kind H.opx) hch ?_ ?_
       ·rw [store_aeff H.opx]; show Option.map _ (astore P σ tx (ev S ax) (ev S vx)) = _; rw [h1]; rfl
       ·simp only [H.dx, Slots.store]
        rw [f1]
        refine .eff ⟨y, { oy with after := oy.after.push ⟨x, .data⟩ }, S, undef⟩ _ _ _ [] σ1 σ2 (addE_at H.hy) (by rw [addE_wanted]; exact hwy S) (store_kind H.opy) (fun p hp => by cases hp) ?_ ?_
        ·refine (store_aeff (o := { oy with after := oy.after.push ⟨x, .data⟩ }) (show _ = _ from H.opy) σ1 (ev S) _).trans ?_; rw [h2]; rfl
        ·simp only [H.dy, Slots.store]
         exact .nil [] (fun p hp => by cases hp)
      ·refine .eff ⟨y, oy, S, undef⟩ _ _ _ pend σ σc (by rw [addE_ne (Ne.symm H.ne)]; exact H.hy) (by rw [addE_wanted]; exact hwy S) (store_kind H.opy) hch ?_ ?_
       ·rw [store_aeff H.opy]; show Option.map _ (astore P σ ty (ev S ay) (ev S vy)) = _; rw [e2, k1]; rfl
       ·simp only [H.dy, Slots.store]
        rw [f2]
        refine .eff ⟨x, { ox with after := ox.after.push ⟨y, .data⟩ }, S, undef⟩ _ _ _ [] σc σ2 (addE_at H.hx) (by rw [addE_wanted]; exact hwx S) (store_kind H.opx) (fun p hp => by cases hp) ?_ ?_
        ·refine (store_aeff (o := { ox with after := ox.after.push ⟨y, .data⟩ }) (show _ = _ from H.opx) σc (ev S) _).trans ?_; rw [e1, k2]; rfl
        ·simp only [H.dx, Slots.store]
         exact .nil [] (fun p hp => by cases hp)
 | cons i pre ih =>
  intro pend S σ hpre hp h hap
  obtain ⟨hix, hiy, hm1, hm2, hor⟩ := hpre i (by simp)
  have hpre' := fun j hj => hpre j (List.mem_cons_of_mem _ hj)
  simp only [List.cons_append, runDraw] at h
  split at h <;> try cases h
  rename_i o ho
  have ho1 : (addE ops y x)[i]? = some o := by rw [addE_ne hiy]; exact ho
  have ho2 : (addE ops x y)[i]? = some o := by rw [addE_ne hix]; exact ho
  cases hw : wanted ops S o with
  | false =>
   rw [hw] at h
   simp only [cond_false] at h
   obtain ⟨rp, Cp, Ep, rx, ry, sx, sy, σa, σb, σc, q1, q2, q3, q4, q5, q6, C1, C2⟩ := ih _ _ _ hpre' hp h hap
   exact ⟨⟨i, o, S, undef⟩ :: rp, Cp, Ep, rx, ry, sx, sy, σa, σb, σc, by simp [q1], q2, q3, q4, q5, q6,
    .skip ⟨i, o, S, undef⟩ _ _ _ pend σ ho1 (by rw [addE_wanted]; exact hw) rfl C1, .skip ⟨i, o, S, undef⟩ _ _ _ pend σ ho2 (by rw [addE_wanted]; exact hw) rfl C2⟩
  | true =>
   rw [hw] at h
   simp only [cond_true] at h
   have hnp : ∀ {k : OK}, kindOf o = k → k ≠ .pure → bit (m1.getD x 0) i = true ∧ bit (m2.getD y 0) i = true := by
    intro k hk hne
    refine hor.resolve_left fun hpu => ?_
    unfold isPure at hpu
    rw [ho] at hpu
    simp only [hk] at hpu
    cases k <;> simp at hpu hne
   split at h
   ·rename_i hk
    split at h <;> try cases h
    rename_i v hv
    obtain ⟨rp, Cp, Ep, rx, ry, sx, sy, σa, σb, σc, q1, q2, q3, q4, q5, q6, C1, C2⟩ := ih _ _ _ hpre' hp h hap
    exact ⟨⟨i, o, S, v⟩ :: rp, Cp, Ep, rx, ry, sx, sy, σa, σb, σc, by simp [q1], q2, q3, q4, q5, q6,
     .pure ⟨i, o, S, v⟩ _ _ _ pend σ ho1 (by rw [addE_wanted]; exact hw) hk hv C1, .pure ⟨i, o, S, v⟩ _ _ _ pend σ ho2 (by rw [addE_wanted]; exact hw) hk hv C2⟩
   ·rename_i hk
    split at h <;> try cases h
    rename_i v hv
    obtain ⟨rp, Cp, Ep, rx, ry, sx, sy, σa, σb, σc, q1, q2, q3, q4, q5, q6, C1, C2⟩ := ih _ _ _ hpre' (fun p hp' => by
     rcases List.mem_cons.1 hp' with rfl | hp'
     ·exact hnp hk (by simp)
     ·exact hp p hp') h hap
    exact ⟨⟨i, o, S, v⟩ :: rp, Cp, Ep, rx, ry, sx, sy, σa, σb, σc, by simp [q1], q2, q3, q4, q5, q6,
     .read ⟨i, o, S, v⟩ _ _ _ pend σ ho1 (by rw [addE_wanted]; exact hw) hk C1, .read ⟨i, o, S, v⟩ _ _ _ pend σ ho2 (by rw [addE_wanted]; exact hw) hk C2⟩
   ·rename_i hk
    split at h <;> try cases h
    rename_i v ob hv
    obtain ⟨rp, Cp, Ep, rx, ry, sx, sy, σa, σb, σc, q1, q2, q3, q4, q5, q6, C1, C2⟩ := ih _ _ _ hpre' (fun p hp' => by
     rcases List.mem_cons.1 hp' with rfl | hp'
     ·exact hnp hk (by simp)
     ·exact hp p hp') h hap
    exact ⟨⟨i, o, S, v⟩ :: rp, Cp, Ep, rx, ry, sx, sy, σa, σb, σc, by simp [q1], q2, q3, q4, q5, q6,
     .alloc ⟨i, o, S, v⟩ _ _ _ pend σ ob ho1 (by rw [addE_wanted]; exact hw) hk hv C1, .alloc ⟨i, o, S, v⟩ _ _ _ pend σ ob ho2 (by rw [addE_wanted]; exact hw) hk hv C2⟩
   ·rename_i hk
    cases hc : pend.all (check P base σ) with
    | false => rw [hc] at h; cases h
    | true =>
     rw [hc] at h
     simp only [cond_true] at h
     split at h <;> try cases h
     rename_i v σ1 hv
     obtain ⟨rp, Cp, Ep, rx, ry, sx, sy, σa, σb, σc, q1, q2, q3, q4, q5, q6, C1, C2⟩ := ih _ _ _ hpre' (fun p hp' => hp p (List.mem_filter.1 hp').1) h hap
     have hch : ∀ p ∈ pend, CheckP P base σ p := fun p hp' => check_ok (List.all_eq_true.1 hc p hp')
     refine ⟨⟨i, o, S, v⟩ :: rp, σ :: Cp, i :: Ep, rx, ry, sx, sy, σa, σb, σc, by simp [q1], q2, q3, q4, q5, by simp [q6], ?_, ?_⟩
     ·refine .eff ⟨i, o, S, v⟩ _ _ _ pend σ σ1 ho1 (by rw [addE_wanted]; exact hw) hk hch hv ?_
      simp only [hm1]; exact C1
     ·refine .eff ⟨i, o, S, v⟩ _ _ _ pend σ σ1 ho2 (by rw [addE_wanted]; exact hw) hk hch hv ?_
      simp only [hm2]; exact C2
theorem twin_ok {w0 : World} (hcall : CallOK w0 P call) {pre : List Nat} (H : TwH ops x y ox oy tx ty ax ay vx vy) (D1 : DrawOK (addE ops y x) m1 (pre ++ [x, y])) (D2 : DrawOK (addE ops x y) m2 (pre ++ [y, x])) {N n0 : Nat}
    (hok : ∀ o ∈ ops.toList, okOper P N o = true) {rp : List Rec} {rx ry sx sy : Rec} {Cp : List St} {Ep : List Nat} {S0 : Slots} {σ0 σa σb σc : St} {μ0 : Mp} (hn0 : n0 ≤ base) (hrp : rp.map (·.i) = pre)
    (hrx : rx.i = x) (hry : ry.i = y) (hsx : sx.i = x) (hsy : sy.i = y) (hl : Cp.length = Ep.length)
    (C1 : Cert P call (addE ops y x) m1 base S' σ' (rp ++ [rx, ry]) (Cp ++ [σa, σb, σ']) (Ep ++ [x, y]) [] S0 σ0)
    (C2 : Cert P call (addE ops x y) m2 base S' σ' (rp ++ [sy, sx]) (Cp ++ [σa, σc, σ']) (Ep ++ [y, x]) [] S0 σ0)
    {Q : Exit → Act → World → Prop} (hpost : RegionPost w0 P μ0 n0 N S' σ' (Q .normal)) :
    ∀ (fuel : Nat) (listed : Array Bool) (a : Act) (w : World) (μ : Mp) (k : Nat) (s : St), unl listed ≤ fuel → listed.getD x false = false → listed.getD y false = false →
      Going w0 P (addE ops y x) base N n0 S0 (rp ++ [rx, ry]) (Cp ++ [σa, σb, σ']) (Ep ++ [x, y]) μ0 listed a w μ k s → wpAny P .any ops Q fuel listed a w := by
 have hok1 : ∀ o ∈ (addE ops y x).toList, okOper P N o = true := fun o ho => by obtain ⟨o', h1, h2⟩ := addE_mem (P := P) ho; rw [h2]; exact hok o' h1
 have hok2 : ∀ o ∈ (addE ops x y).toList, okOper P N o = true := fun o ho => by obtain ⟨o', h1, h2⟩ := addE_mem (P := P) ho; rw [h2]; exact hok o' h1
 have hr1 : (rp ++ [rx, ry]).map (·.i) = pre ++ [x, y] := by simp [hrp, hrx, hry]
 have hr2 : (rp ++ [sy, sx]).map (·.i) = pre ++ [y, x] := by simp [hrp, hsx, hsy]
 have X1 := draw_ok hcall D1 hok1 hn0 C1 hr1 hpost
 have X2 := draw_ok hcall D2 hok2 hn0 C2 hr2 hpost
 obtain ⟨_, st1⟩ := draw_parts hcall D1 hok1 hn0 C1 hr1 hpost
 have hyn : y < ops.size := (Array.getElem?_eq_some_iff.1 H.hy).1
 have other : ∀ (listed : Array Bool) (a : Act) (w : World) (μ : Mp) (k : Nat) (s : St), listed.getD x false = false → listed.getD y false = false →
      Going w0 P (addE ops y x) base N n0 S0 (rp ++ [rx, ry]) (Cp ++ [σa, σb, σ']) (Ep ++ [x, y]) μ0 listed a w μ k s → Going w0 P (addE ops x y) base N n0 S0 (rp ++ [sy, sx]) (Cp ++ [σa, σc, σ']) (Ep ++ [y, x]) μ0 listed a w μ k s := by
  intro listed a w μ k s hx hy G
  have hk : k ≤ Ep.length := by
   have := (G.count Ep.length x (by simp))
   rcases Nat.lt_or_ge Ep.length k with h | h
   ·rw [this.2 h] at hx; cases hx
   ·exact h
  have hrs : ∀ r, listed.getD r.i false = true → (r ∈ rp ++ [sy, sx] ↔ r ∈ rp ++ [rx, ry]) := by
   intro r hr
   have h1 : ∀ {z : Rec}, z.i = x → r ≠ z := fun e e' => by rw [e', e, hx] at hr; cases hr
   have h2 : ∀ {z : Rec}, z.i = y → r ≠ z := fun e e' => by rw [e', e, hy] at hr; cases hr
   simp [h1 hrx, h2 hry, h1 hsx, h2 hsy]
  refine ⟨by rw [G.size, addE_size, addE_size], ?_, ?_, ?_, G.sim, by have := G.next; rw [addE_size] at this ⊢; exact this, fun i hi => G.none i (by rw [addE_size] at hi ⊢; exact hi), G.ext, G.tsize, G.defers, ?_, ?_⟩
  ·intro i o e ho hli he hb
   have hix : i ≠ x := fun e => by rw [e, hx] at hli; cases hli
   have hiy : i ≠ y := fun e => by rw [e, hy] at hli; cases hli
   rw [addE_ne hix] at ho
   exact G.closed i o e (by rw [addE_ne hiy]; exact ho) hli he hb
  ·intro q e he
   rcases Nat.lt_or_ge q Ep.length with hq | hq
   ·rw [List.getElem?_append_left hq] at he
    exact G.count q e (by rw [List.getElem?_append_left hq]; exact he)
   ·rw [List.getElem?_append_right hq] at he
    have hef : listed.getD e false = false := by
     have := List.mem_of_getElem? he
     simp only [List.mem_cons, List.not_mem_nil, or_false] at this
     rcases this with rfl | rfl
     ·exact hy
     ·exact hx
    rw [hef]
    constructor
    ·intro h; cases h
    ·intro h; omega
  ·have := G.state
   rcases Nat.lt_or_ge k Cp.length with h | h
   ·rw [List.getElem?_append_left h] at this ⊢; exact this
   ·have hk' : k = Cp.length := by omega
    subst hk'
    rw [List.getElem?_append_right (Nat.le_refl _)] at this ⊢
    simpa using this
  ·intro r hr hlr z hz
   exact G.here r ((hrs r hlr).1 hr) hlr z hz
  ·intro z hz
   exact G.there z fun r hr hlr => hz r ((hrs r hlr).2 hr) hlr
 intro fuel
 induction fuel with
 | zero =>
  intro listed a w μ k s hu hx hy G
  exfalso
  have h1 : listed.getD y true = false := by
   have hs : y < listed.size := by rw [G.size, addE_size]; exact hyn
   rw [Array.getD_eq_getD_getElem?, Array.getElem?_eq_getElem hs] at hy ⊢; simpa using hy
  have := unl_set h1; omega
 | succ fuel ih =>
  intro listed a w μ k s hu hx hy G
  have W1 := X1 (fuel + 1) listed a w μ k s hu G
  refine ⟨fun hr => W1.1 (nil_of fun j hj => by have := addE_ready_of hj; rw [hr] at this; cases this), fun j hj => ?_⟩
  have hun := (mem_ready.1 hj).1
  have hu' : unl (listed.setIfInBounds j true) ≤ fuel := by have := unl_set hun; omega
  have hjl := (getD_true_of_false hun).2
  by_cases ejx : j = x
  ·subst ejx
   refine addE_wpOp (wpOp_mono (fun a' w' h' => wpAny_addE _ _ a' w' ?_ h') (W1.2 j (ready_addE hj (.inl H.ne))))
   rw [getD_set _ _ _ hjl, if_pos rfl]
  ·by_cases ejy : j = y
   ·subst ejy
    have W2 := X2 (fuel + 1) listed a w μ k s hu (other listed a w μ k s hx hy G)
    refine addE_wpOp (wpOp_mono (fun a' w' h' => wpAny_addE _ _ a' w' ?_ h') (W2.2 j (ready_addE hj (.inl (Ne.symm H.ne)))))
    rw [getD_set _ _ _ hjl, if_pos rfl]
   ·refine addE_wpOp (wpOp_mono ?_ (st1 listed a w μ k s G j (ready_addE hj (.inl ejy))))
    rintro a' w' ⟨μ', k', s', G'⟩
    exact ih _ a' w' μ' k' s' hu' (by rw [getD_set _ _ _ hjl, if_neg (Ne.symm ejx)]; exact hx) (by rw [getD_set _ _ _ hjl, if_neg (Ne.symm ejy)]; exact hy) G'
theorem eqN_eq : ∀ {a b : List Nat}, eqN a b = true → a = b
 | [], [], _ => rfl
 | x :: xs, y :: ys, h => by simp only [eqN, nbeq, Bool.and_eq_true, decide_eq_true_eq] at h; rw [h.1, eqN_eq h.2]
 | [], _ :: _, h => by simp [eqN] at h
 | _ :: _, [], h => by simp [eqN] at h
theorem twin_inv {a b : Operand} (h : twin ops = some (a, b)) : 2 ≤ ops.size ∧ ∃ ox oy tx ty vx vy, TwH ops (ops.size - 2) (ops.size - 1) ox oy tx ty a b vx vy := by
 unfold twin at h
 split at h
 ·rename_i ox oy hx hy
  split at h
  ·rename_i tx a' vx ty b' vy e1 e2 e3 e4 e5 e6
   cases hb : (Nat.blt ops.size 2 || bit ((masks ops.toList []).getD (ops.size - 1) 0) (ops.size - 2)) with
   | true => rw [hb] at h; cases h
   | false =>
    rw [hb, cond_false] at h
    simp only [Option.some.injEq, Prod.mk.injEq] at h
    obtain ⟨rfl, rfl⟩ := h
    simp only [Bool.or_eq_false_iff, nblt, decide_eq_false_iff_not] at hb
    exact ⟨by omega, ox, oy, tx, ty, vx, vy, ⟨by omega, hx, hy, e1, e2, e3, e4, e5, e6⟩⟩
  ·cases h
 ·cases h
theorem okTw_inv {a b : Operand} {S : Slots} {σ : St} (h : twin ops = some (a, b)) (hk : okTw ops S σ = true) : Apart S σ a b := by
 unfold okTw at hk
 rw [h] at hk
 simp only at hk
 split at hk
 ·rename_i i o1 j o2 e1 e2
  simp only [Bool.and_eq_true, Bool.not_eq_true', nbeq, decide_eq_false_iff_not] at hk
  refine ⟨i, o1, j, o2, e1, e2, hk.1, ?_⟩
  have h2 := hk.2
  split at h2
  ·rename_i cs m hg
   exact ⟨cs, m, hg, by simpa using h2⟩
  ·cases h2
 ·cases hk
end
end Go.AI
namespace Go.AI
section
variable {w0 : World} {P : Program} {call : FuncId → Array Value → St → Option (Value × St)}
theorem region_ok (hcall : CallOK w0 P call) (hfol : P.toTables.follows .mixedOrders = true) {N id : Nat} {ops : Array Oper} {draw : Bool} {S S' : Slots} {σ σ' : St} {a : Act} {w : World} {μ : Mp} {Q : Exit → Act → World → Prop}
    (h : runRegion P call ops draw S σ = some (S', σ')) (hok : okCode P N (.region id ops draw) = true) (A : AR μ S N a) (Z : Sim w0 P μ σ w) (hpost : RegionPost w0 P μ σ.next N S' σ' (Q .normal)) :
    (Code.region id ops draw).wp P Q a w := by
 simp only [okCode, Bool.and_eq_true, List.all_eq_true, Bool.or_eq_true, Bool.not_eq_true'] at hok
 obtain ⟨hops, hdr⟩ := hok
 unfold runRegion at h
 have hnone : ∀ j, μ (σ.next + j) = none := fun j => Z.dom _ (by omega)
 cases draw with
 | false =>
  simp only [cond_false] at h
  refine wp_region ?_
  rw [List.range_eq_range']
  have := runOps_ok (Q := Q) (w0 := w0) hcall (ops := ops) (base := σ.next) (N := N) (n0 := σ.next) (Nat.le_refl _) hops ops.toList 0 S S' { σ with next := σ.next + ops.size } σ' a w μ μ (by simp) (by simp) A (Z.next (Nat.le_add_right _ _))
   (Ext.refl _ _) (Nat.le_refl _) (fun j _ _ => hnone j) h hpost
  simpa using this
 | true =>
  simp only [cond_true] at h
  have hD := hdr.resolve_left (by simp)
  have Z' : Sim w0 P μ { σ with next := σ.next + ops.size } { w with drawn := w.drawn + 1 } := (Z.next (Nat.le_add_right _ _)).drawn _
  have hrep : ∀ i, (Array.replicate ops.size false).getD i false = false := fun i => by
   rw [Array.getD_eq_getD_getElem?]
   by_cases hi : i < ops.size
   ·simp [hi]
   ·simp [hi]
  have hunl : unl (Array.replicate ops.size false) ≤ ops.size := by
   unfold unl; simp only [Array.toList_replicate]; exact Nat.le_trans (List.length_filter_le _ _) (by simp)
  unfold okDrawT at hD
  cases ht : twin ops with
  | none =>
   rw [ht] at hD
   simp only at hD
   have h' : runDraw P call ops (masks ops.toList []) σ.next (canon ops (masks ops.toList [])) [] S { σ with next := σ.next + ops.size } = some (S', σ') := by
    cases hr : runDraw P call ops (masks ops.toList []) σ.next (canon ops (masks ops.toList [])) [] S { σ with next := σ.next + ops.size } with
    | none => rw [hr] at h; cases h
    | some r =>
     rw [hr] at h
     simp only [fitTw, okTw, ht, cond_true] at h
     exact h
   obtain ⟨rs, Cs, Es, hrs, C⟩ := cert_of_run _ _ _ _ h'
   obtain ⟨s, hs0, hsn, htr⟩ := C.first (w0 := w0)
   refine wp_region_any hfol (draw_ok hcall (drawOK hD) hops (Nat.le_refl _) C hrs hpost ops.size (Array.replicate ops.size false) a _ μ 0 s hunl ?_)
   refine ⟨by simp, fun i o e _ hl => ?_, fun q e _ => ?_, hs0, htr μ _ (fun r _ => hnone r.i) Z', ?_, fun i _ _ => hnone i, Ext.refl _ _, A.size, A.defers, fun r _ hl => ?_, fun x _ => A.slot x⟩
   ·rw [hrep] at hl; cases hl
   ·rw [hrep]; simp
   ·rw [hsn]; exact Nat.le_refl _
   ·rw [hrep] at hl; cases hl
  | some ab =>
   obtain ⟨b1, b2⟩ := ab
   rw [ht] at hD
   simp only at hD
   obtain ⟨h2n, ox, oy, tx, ty, vx, vy, H⟩ := twin_inv ht
   simp only [okTwin, Bool.and_eq_true] at hD
   obtain ⟨⟨⟨⟨_, hcan⟩, hD1⟩, hD2⟩, hpre⟩ := hD
   have hcan := eqN_eq hcan
   generalize (canon ops (masks ops.toList [])).take (ops.size - 2) = pre at *
   obtain ⟨h', hap⟩ : runDraw P call ops (masks ops.toList []) σ.next (pre ++ [ops.size - 2, ops.size - 1]) [] S { σ with next := σ.next + ops.size } = some (S', σ') ∧ Apart S' σ' b1 b2 := by
    rw [hcan] at h
    cases hr : runDraw P call ops (masks ops.toList []) σ.next (pre ++ [ops.size - 2, ops.size - 1]) [] S { σ with next := σ.next + ops.size } with
    | none => rw [hr] at h; cases h
    | some r =>
     rw [hr] at h
     simp only [fitTw] at h
     cases hk : okTw ops r.1 r.2 with
     | false => rw [hk] at h; cases h
     | true => rw [hk, cond_true] at h; cases h; exact ⟨rfl, okTw_inv ht hk⟩
   rw [List.all_eq_true] at hpre
   obtain ⟨rp, Cp, Ep, rx, ry, sx, sy, σa, σb, σc, q1, q2, q3, q4, q5, q6, C1, C2⟩ := two_certs H pre [] S { σ with next := σ.next + ops.size } (fun i hi => by
    have := hpre i hi
    simp only [Bool.and_eq_true, Bool.or_eq_true, nbeq, nblt, decide_eq_true_eq] at this
    obtain ⟨⟨⟨h1, h2⟩, h3⟩, h4⟩ := this
    exact ⟨by omega, by omega, h1, h2, h4⟩) (fun p hp => by cases hp) h' hap
   obtain ⟨s, hs0, hsn, htr⟩ := C1.first (w0 := w0)
   refine wp_region_any hfol (twin_ok hcall H (drawOKG hD1) (drawOKG hD2) hops (Nat.le_refl _) q1 q2 q3 q4 q5 q6 C1 C2 hpost ops.size (Array.replicate ops.size false) a _ μ 0 s hunl (hrep _) (hrep _) ?_)
   refine ⟨by simp [addE_size], fun i o e _ hl => ?_, fun q e _ => ?_, hs0, htr μ _ (fun r _ => hnone r.i) Z', ?_, fun i _ _ => hnone i, Ext.refl _ _, A.size, A.defers, fun r _ hl => ?_, fun x _ => A.slot x⟩
   ·rw [hrep] at hl; cases hl
   ·rw [hrep]; simp
   ·rw [hsn, addE_size]; exact Nat.le_refl _
   ·rw [hrep] at hl; cases hl
def Fl.out : Fl → Exit
 | .normal => .normal
 | .exit n => .exit n
 | .ret => .ret
def Post (w0 : World) (P : Program) (μ : Mp) (n N : Nat) (S' : Slots) (σ' : St) (K : Act → World → Prop) : Prop :=
 ∀ a' w' μ', AR μ' S' N a' → Sim w0 P μ' σ' w' → Ext n μ μ' → n ≤ σ'.next → K a' w'
theorem Post.later {μ μ' : Mp} {n n' N : Nat} {S' : Slots} {σ' : St} {K : Act → World → Prop} (h : Post w0 P μ n N S' σ' K) (hE : Ext n μ μ') (hn : n ≤ n') : Post w0 P μ' n' N S' σ' K :=
 fun a' w' μ'' A Z E hl => h a' w' μ'' A Z (hE.trans E hn) (by omega)
theorem exec_ok (hcall : CallOK w0 P call) (hfol : P.toTables.follows .mixedOrders = true) (L N : Nat) : ∀ (c : Code) (S : Slots) (σ : St) (fl : Fl) (S' : Slots) (σ' : St) (a : Act) (w : World) (μ : Mp) (Q : Exit → Act → World → Prop),
    exec P call L c S σ = some (fl, S', σ') → okCode P N c = true → AR μ S N a → Sim w0 P μ σ w → Post w0 P μ σ.next N S' σ' (Q fl.out) → c.wp P Q a w := by
 intro c
 induction c with
 | skip =>
  intro S σ fl S' σ' a w μ Q h _ A Z hp
  simp only [exec, Option.some.injEq, Prod.mk.injEq] at h
  obtain ⟨rfl, rfl, rfl⟩ := h
  exact wp_skip (hp a w μ A Z (Ext.refl _ _) (Nat.le_refl _))
 | label l =>
  intro S σ fl S' σ' a w μ Q h _ A Z hp
  simp only [exec, Option.some.injEq, Prod.mk.injEq] at h
  obtain ⟨rfl, rfl, rfl⟩ := h
  exact wp_label (hp a w μ A Z (Ext.refl _ _) (Nat.le_refl _))
 | region id ops draw =>
  intro S σ fl S' σ' a w μ Q h hok A Z hp
  simp only [exec, Option.map_eq_some_iff] at h
  obtain ⟨⟨S1, σ1⟩, h, e⟩ := h
  cases e
  exact region_ok hcall hfol h hok A Z hp
 | seq x y ihx ihy =>
  intro S σ fl S' σ' a w μ Q h hok A Z hp
  simp only [okCode, Bool.and_eq_true] at hok
  simp only [exec] at h
  refine wp_seq ?_
  cases hx : exec P call L x S σ with
  | none => simp [hx] at h
  | some r =>
   obtain ⟨f1, S1, σ1⟩ := r
   simp only [hx] at h
   cases f1 with
   | normal =>
    simp only at h
    exact ihx S σ .normal S1 σ1 a w μ _ hx hok.1 A Z (fun a' w' μ' A' Z' E hn => ihy S1 σ1 fl S' σ' a' w' μ' Q h hok.2 A' Z' (hp.later E hn))
   | exit n =>
    simp only [Option.some.injEq, Prod.mk.injEq] at h
    obtain ⟨rfl, rfl, rfl⟩ := h
    exact ihx S σ (.exit n) S1 σ1 a w μ _ hx hok.1 A Z hp
   | ret =>
    simp only [Option.some.injEq, Prod.mk.injEq] at h
    obtain ⟨rfl, rfl, rfl⟩ := h
    exact ihx S σ .ret S1 σ1 a w μ _ hx hok.1 A Z hp
 | cond c x y ihx ihy =>
  intro S σ fl S' σ' a w μ Q h hok A Z hp
  simp only [okCode, Bool.and_eq_true] at hok
  simp only [exec] at h
  have hv := ev_ok A Z hok.1.1
  split at h <;> try cases h
  ·rename_i hc
   rw [hc] at hv
   exact wp_cond_true hv.bool_inv (ihx S σ fl S' σ' a w μ Q h hok.1.2 A Z hp)
  ·rename_i hc
   rw [hc] at hv
   exact wp_cond_false hv.bool_inv (ihy S σ fl S' σ' a w μ Q h hok.2 A Z hp)
 | block id c ih =>
  intro S σ fl S' σ' a w μ Q h hok A Z hp
  simp only [okCode] at hok
  simp only [exec] at h
  refine wp_block ?_
  cases hx : exec P call L c S σ with
  | none => simp [hx] at h
  | some r =>
   obtain ⟨f1, S1, σ1⟩ := r
   simp only [hx] at h
   cases f1 with
   | normal =>
    simp only [Option.some.injEq, Prod.mk.injEq] at h
    obtain ⟨rfl, rfl, rfl⟩ := h
    exact ih S σ .normal S1 σ1 a w μ _ hx hok A Z hp
   | ret =>
    simp only [Option.some.injEq, Prod.mk.injEq] at h
    obtain ⟨rfl, rfl, rfl⟩ := h
    exact ih S σ .ret S1 σ1 a w μ _ hx hok A Z hp
   | exit n =>
    simp only [nbeq, Bool.cond_decide] at h
    split at h
    ·rename_i hn
     simp only [Option.some.injEq, Prod.mk.injEq] at h
     obtain ⟨rfl, rfl, rfl⟩ := h
     exact ih S σ (.exit n) S1 σ1 a w μ _ hx hok A Z (fun a' w' μ' A' Z' E hl => by
      show Exit.inBlock id Q (.exit n) a' w'
      simp only [Exit.inBlock, if_pos hn]; exact hp a' w' μ' A' Z' E hl)
    ·rename_i hn
     simp only [Option.some.injEq, Prod.mk.injEq] at h
     obtain ⟨rfl, rfl, rfl⟩ := h
     exact ih S σ (.exit n) S1 σ1 a w μ _ hx hok A Z (fun a' w' μ' A' Z' E hl => by
      show Exit.inBlock id Q (.exit n) a' w'
      simp only [Exit.inBlock, if_neg hn]; exact hp a' w' μ' A' Z' E hl)
 | loop c ih =>
  intro S σ fl S' σ' a w μ Q h hok A Z hp
  simp only [okCode] at hok
  simp only [exec] at h
  refine wp_loop_rounds L ?_
  have main : ∀ (n : Nat) (S : Slots) (σ : St) (a : Act) (w : World) (μ : Mp), iter (fun S σ => exec P call L c S σ) n S σ = some (fl, S', σ') → AR μ S N a → Sim w0 P μ σ w → Post w0 P μ σ.next N S' σ' (Q fl.out) → Code.rounds P c Q n a w := by
   intro n
   induction n with
   | zero => intro S σ a w μ h; simp [iter] at h
   | succ n ihn =>
    intro S σ a w μ h A Z hp
    rw [rounds_succ]
    simp only [iter] at h
    cases hx : exec P call L c S σ with
    | none => simp [hx] at h
    | some r =>
     obtain ⟨f1, S1, σ1⟩ := r
     simp only [hx] at h
     cases f1 with
     | normal =>
      simp only at h
      exact ih S σ .normal S1 σ1 a w μ _ hx hok A Z (fun a' w' μ' A' Z' E hl => ihn S1 σ1 a' w' μ' h A' Z' (hp.later E hl))
     | exit n =>
      simp only [Option.some.injEq, Prod.mk.injEq] at h
      obtain ⟨rfl, rfl, rfl⟩ := h
      exact ih S σ (.exit n) S1 σ1 a w μ _ hx hok A Z hp
     | ret =>
      simp only [Option.some.injEq, Prod.mk.injEq] at h
      obtain ⟨rfl, rfl, rfl⟩ := h
      exact ih S σ .ret S1 σ1 a w μ _ hx hok A Z hp
  exact main L S σ a w μ h A Z hp
 | exit n =>
  intro S σ fl S' σ' a w μ Q h _ A Z hp
  simp only [exec, Option.some.injEq, Prod.mk.injEq] at h
  obtain ⟨rfl, rfl, rfl⟩ := h
  exact wp_exit (hp a w μ A Z (Ext.refl _ _) (Nat.le_refl _))
 | ret =>
  intro S σ fl S' σ' a w μ Q h _ A Z hp
  simp only [exec, Option.some.injEq, Prod.mk.injEq] at h
  obtain ⟨rfl, rfl, rfl⟩ := h
  exact wp_ret (hp a w μ A Z (Ext.refl _ _) (Nat.le_refl _))
 | scope c ih =>
  intro S σ fl S' σ' a w μ Q h hok A Z hp
  simp only [okCode] at hok
  simp only [exec] at h
  refine wp_scope_straight (ih S σ fl S' σ' a w μ _ h hok A Z ?_)
  cases fl <;> exact hp
 | goto l => intro S σ fl S' σ' a w μ Q h; simp [exec] at h
 | refuse s => intro S σ fl S' σ' a w μ Q h; simp [exec] at h
 | rangeFunc x ts c d _ _ => intro S σ fl S' σ' a w μ Q h; simp [exec] at h
theorem fillS_at : ∀ (l : List Value) (i : Nat) (S : Slots) (k : Nat), (fillS l i S).at k = if i ≤ k ∧ k < i + l.length then (l[k - i]?).getD undef else S.at k := by
 intro l
 induction l with
 | nil => intro i S k; rw [fillS, if_neg (by simp)]
 | cons v l ih =>
  intro i S k
  rw [fillS, ih]
  simp only [List.length_cons]
  by_cases h1 : i + 1 ≤ k ∧ k < i + 1 + l.length
  ·rw [if_pos h1, if_pos (by omega), show k - i = (k - (i + 1)) + 1 by omega]; simp
  ·rw [if_neg h1]
   by_cases h2 : k = i
   ·subst h2
    rw [if_pos (by omega)]
    simp [Slots.at, Tr.get_set]
   ·rw [if_neg (by omega)]
    simp [Slots.at, Tr.get_set, h2]
theorem result_ok {S : Slots} {N : Nat} {a : Act} {σ : St} {w : World} {μ : Mp} (A : AR μ S N a) (Z : Sim w0 P μ σ w) {r : ResultVar} {v : Value} (h : result P S σ r = some v) :
    ∃ v', (match r with | .tmp t => (pure (a.tmps.getD t undef) : Sem Value) | .cell x t => do loadVar t (← asAddr (a.tmps.getD x undef))).run P w = .ok v' w ∧ VR μ v v' := by
 cases r with
 | tmp t => simp only [result, Option.some.injEq] at h; subst h; exact ⟨_, rfl, A.slot t⟩
 | cell x t =>
  simp only [result] at h
  have hx := A.slot x
  obtain ⟨v', h1, h2⟩ := aload_ok Z hx h
  refine ⟨v', ?_, h2⟩
  unfold aload at h
  split at h <;> try cases h
  rename_i id off hS
  rw [hS] at hx
  obtain ⟨p, hp, hu⟩ := hx.ptr_inv
  rw [hu] at h1
  simp only
  rw [hu]
  simpa [Instr.loadAt, Instr.sureAddr, asAddr] using h1
theorem results_ok {S : Slots} {N : Nat} {a : Act} {σ : St} {w : World} {μ : Mp} (A : AR μ S N a) (Z : Sim w0 P μ σ w) : ∀ (l : List ResultVar) (vs : List Value), resultsOf P S σ l = some vs →
    ∃ us, (l.mapM (fun (r : ResultVar) => (match r with | .tmp t => (pure (a.tmps.getD t undef) : Sem Value) | .cell x t => do loadVar t (← asAddr (a.tmps.getD x undef))))).run P w = .ok us w ∧ VRL μ vs us := by
 intro l
 induction l with
 | nil => intro vs h; simp only [resultsOf, Option.some.injEq] at h; subst h; exact ⟨[], rfl, .nil⟩
 | cons r l ih =>
  intro vs h
  simp only [resultsOf] at h
  split at h <;> try cases h
  rename_i v vs' hv hvs
  obtain ⟨u, h1, h2⟩ := result_ok A Z hv
  obtain ⟨us, h3, h4⟩ := ih vs' hvs
  refine ⟨u :: us, ?_, .cons h2 h4⟩
  rw [List.mapM_cons]
  simp only [Sem.run_bind, h1, Result.andThen_ok, h3, Sem.run_pure]
theorem answer_ok {fn : Func} {S : Slots} {N : Nat} {a : Act} {σ : St} {w : World} {μ : Mp} (A : AR μ S N a) (Z : Sim w0 P μ σ w) {vs : List Value} (h : resultsOf P S σ fn.results.toList = some vs) :
    ∃ v', (results fn a.tmps).run P w = .ok v' w ∧ VR μ (answer vs) v' := by
 obtain ⟨us, h1, h2⟩ := results_ok A Z _ _ h
 unfold results
 rw [Array.mapM_eq_mapM_toList]
 simp only [Sem.run_bind, Sem.run_map]
 have h1' : (List.mapM (fun (r : ResultVar) => (match r with | .tmp t => (pure (a.tmps.getD t undef) : Sem Value) | .cell x t => do let __do_lift ← asAddr (a.tmps.getD x undef); loadVar t __do_lift)) fn.results.toList).run P w = .ok us w := h1
 erw [h1']
 simp only [Result.andThen_ok, Sem.run_pure]
 refine ⟨_, rfl, ?_⟩
 match vs, us, h2 with
 | [], us, h2 => rw [h2.nil_inv]; exact .mkTuple .nil
 | [v], us, h2 =>
  obtain ⟨u, us', rfl, h3, h4⟩ := h2.cons_inv
  rw [h4.nil_inv]
  exact h3
 | v1 :: v2 :: vs, us, h2 =>
  have hl := h2.1
  rw [dif_neg (by simp only [List.size_toArray, ← hl, List.length_cons]; omega)]
  exact .mkTuple h2
end
end Go.AI
namespace Go.AI
section
variable {w0 : World} {P : Program} {call : FuncId → Array Value → St → Option (Value × St)}
theorem Kept.trans {a b c : World} (h : Kept a b) (k : Kept b c) : Kept a c := by
 refine ⟨k.os.trans h.os, k.output.trans h.output, Nat.le_trans h.size k.size, fun i hi => ?_, fun i C t fr hi hc => ?_⟩
 ·have := h.size
  rw [k.old i (by omega), h.old i hi]
 ·by_cases hb : i < b.heap.size
  ·rw [k.old i hb] at hc; exact h.new i C t fr hi hc
  ·exact k.new i C t fr (by omega) hc
theorem heap_lt {w : World} {b : Nat} {o : Obj} (h : w.heap[b]? = some o) : b < w.heap.size := by
 by_cases hb : b < w.heap.size
 ·exact hb
 ·rw [Array.getElem?_eq_none (by omega)] at h; cases h
theorem Sim.keep {μ : Mp} {σ : St} {w w' : World} (S : Sim w0 P μ σ w) (K : Kept w w') : Sim w0 P μ σ w' := by
 refine ⟨S.kept.trans K, S.dom, S.glob, fun id p cs m h1 h2 h3 => ?_, fun id p es h1 h2 => ?_, S.off, S.tip, S.maps, S.vers, S.lim⟩
 ·obtain ⟨⟨C, t, fr, r1, r2, r3⟩, r4, r5, r6⟩ := S.row id p cs m h1 h2 h3
  exact ⟨⟨C, t, fr, by rw [K.old _ (heap_lt r1)]; exact r1, r2, r3⟩, r4, r5, r6⟩
 ·obtain ⟨⟨ES, clock, r1, r2⟩, r3⟩ := S.map id p es h1 h2
  exact ⟨⟨ES, clock, by rw [K.old _ (heap_lt r1)]; exact r1, r2⟩, r3⟩
structure Orc where
 n : Nat
 s : Int → Int → Option (List UInt8)
 m : Nat
inductive OV where
 | s (l : List UInt8)
 | t
def OV.v : OV → Value
 | .s l => .string ⟨l.toArray⟩
 | .t => .bool true
def orA (O : Orc) (f : FuncId) (args : Array Value) : Option Value :=
 bif Nat.beq f O.n then (match args.toList with
 | [.int .i64 a, .int .i64 b] => ((O.s a b).map OV.s).map OV.v
 | _ => none) else bif Nat.beq f O.m then (match args.toList with
 | [] => some (.bool true)
 | _ => none) else none
variable (P) in
def callO (O : Orc) (L : Nat) : Nat → FuncId → Array Value → St → Option (Value × St)
 | 0, _, _, _ => none
 | n + 1, f, args, σ => match orA O f args with
  | some v => some (v, σ)
  | none => match P.funcs[f]? with
   | some fn => match fn.body with
    | some c => match exec P (callO O L n) L c (fillS args.toList 0 .nil) σ with
     | some (.exit _, _, _) => none
     | some (_, S, σ') => (resultsOf P S σ' fn.results.toList).map fun vs => (answer vs, σ')
     | none => none
    | none => none
   | none => none
def OrcOK (P : Program) (w0 : World) (O : Orc) : Prop := (∀ a b s, O.s a b = some s → ∀ w, Kept w0 w →
 (∃ fn c, P.funcs[O.n]? = some fn ∧ fn.body = some c ∧ (fn.name == "runtime.NumGoroutine") = false) ∧ Calls P O.n #[.int .i64 a, .int .i64 b] w fun e w' => e = .returned (.string ⟨s.toArray⟩) ∧ Kept w w') ∧
 (O.m = O.n ∨ ∀ w, Kept w0 w → (∃ fn c, P.funcs[O.m]? = some fn ∧ fn.body = some c ∧ (fn.name == "runtime.NumGoroutine") = false) ∧ Calls P O.m #[] w fun e w' => e = .returned (.bool true) ∧ Kept w w')
theorem callO_ok (hP : okProg P = true) {O : Orc} (hO : OrcOK P w0 O) (L : Nat) : ∀ n, CallOK w0 P (callO P O L n) := by
 simp only [okProg, Bool.and_eq_true, List.all_eq_true] at hP
 obtain ⟨hfs, hfol⟩ := hP
 intro n
 induction n with
 | zero => intro f args args' σ σ' w μ r h; simp [callO] at h
 | succ n ih =>
  intro f args args' σ σ' w μ r h Z hargs
  simp only [callO] at h
  split at h
  ·rename_i v hv
   simp only [Option.some.injEq, Prod.mk.injEq] at h
   obtain ⟨rfl, rfl⟩ := h
   unfold orA at hv
   cases hf : Nat.beq f O.n with
   | false =>
    rw [hf, cond_false] at hv
    cases hm : Nat.beq f O.m with
    | false => rw [hm] at hv; cases hv
    | true =>
    rw [hm, cond_true] at hv
    have hfm := Nat.eq_of_beq_eq_true hm
    subst hfm
    split at hv
    ·rename_i he
     cases hv
     rw [he] at hargs
     have q3 : args' = #[] := by rw [← Array.toArray_toList (xs := args'), hargs.nil_inv]
     subst q3
     rcases hO.2 with h7 | h7
     ·rw [h7, Nat.beq_refl] at hf; cases hf
     ·obtain ⟨g1, g2⟩ := h7 w Z.kept
      exact ⟨g1, g2.mono fun e w' ⟨h5, h6⟩ => ⟨μ, _, h5, .same _ rfl, Z.keep h6, .refl _ _, Nat.le_refl _⟩⟩
    ·cases hv
   | true =>
   rw [hf, cond_true] at hv
   rw [Nat.eq_of_beq_eq_true hf]
   split at hv
   ·rename_i a b he
    rw [Option.map_eq_some_iff] at hv
    obtain ⟨x, hx, rfl⟩ := hv
    rw [Option.map_eq_some_iff] at hx
    obtain ⟨s, hs, rfl⟩ := hx
    rw [he] at hargs
    obtain ⟨u, us, e1, r1, h3⟩ := hargs.cons_inv
    obtain ⟨u2, us2, rfl, r2, h4⟩ := h3.cons_inv
    rw [h4.nil_inv] at e1
    have q1 : u = .int .i64 a := by cases r1; rfl
    have q2 : u2 = .int .i64 b := by cases r2; rfl
    subst q1; subst q2
    have q3 : args' = #[.int .i64 a, .int .i64 b] := by rw [← Array.toArray_toList (xs := args'), e1]
    subst q3
    obtain ⟨g1, g2⟩ := hO.1 a b s hs w Z.kept
    exact ⟨g1, g2.mono fun e w' ⟨h5, h6⟩ => ⟨μ, _, h5, .same _ rfl, Z.keep h6, .refl _ _, Nat.le_refl _⟩⟩
   ·cases hv
  split at h <;> try cases h
  rename_i fn hf
  split at h <;> try cases h
  rename_i c hb
  have hfn := hfs fn (by have : P.funcs.toList[f]? = some fn := (by simpa using hf); exact List.mem_of_getElem? this)
  simp only [okFunc, hb, Bool.and_eq_true, Bool.not_eq_true'] at hfn
  refine ⟨⟨fn, c, hf, hb, hfn.2⟩, ?_⟩
  cases hx : exec P (callO P O L n) L c (fillS args.toList 0 .nil) σ with
  | none => simp [hx] at h
  | some x =>
   obtain ⟨fl, S', σ1⟩ := x
   have A0 : AR μ (fillS args.toList 0 .nil) fn.ntmps { tmps := args' ++ Array.replicate (fn.ntmps - args'.size) undef, defers := [] } := by
    have hsz := hargs.size
    refine ⟨by simp; omega, rfl, fun i => ?_⟩
    rw [fillS_at]
    simp only [Nat.zero_le, true_and, Nat.zero_add, Nat.sub_zero, Array.length_toList]
    rw [Array.getD_eq_getD_getElem?]
    by_cases hi : i < args.size
    ·rw [if_pos hi, Array.getElem?_append_left (by omega)]
     have h1 : args.toList[i]? = some args[i] := by simp [hi]
     obtain ⟨u, hu, hr⟩ := hargs.get h1
     have hu' : args'[i]? = some u := by simpa using hu
     rw [h1, hu']; exact hr
    ·rw [if_neg hi, Array.getElem?_append_right (by omega)]
     have : ((Array.replicate (fn.ntmps - args'.size) undef)[i - args'.size]?).getD undef = undef := by
      by_cases h2 : i - args'.size < fn.ntmps - args'.size
      ·simp [h2]
      ·simp [h2]
     rw [this]
     exact .undef
   have fin : ∀ (R : Exit), R = .normal ∨ R = .ret → (resultsOf P S' σ1 fn.results.toList).map (fun vs => (answer vs, σ1)) = some (r, σ') →
          Post w0 P μ σ.next fn.ntmps S' σ1 (bodyPost P fn (fun e w' => ∃ μ' r', e = .returned r' ∧ VR μ' r r' ∧ Sim w0 P μ' σ' w' ∧ Ext σ.next μ μ' ∧ σ.next ≤ σ'.next) R) := by
    intro R hR hres a' w' μ' A' Z' E hl
    rw [Option.map_eq_some_iff] at hres
    obtain ⟨vs, hvs, he⟩ := hres
    cases he
    obtain ⟨v', h1, h2⟩ := answer_ok A' Z' hvs
    rcases hR with rfl | rfl
    ·exact ⟨A'.defers, v', h1, μ', v', rfl, h2, Z', E, hl⟩
    ·exact ⟨A'.defers, v', h1, μ', v', rfl, h2, Z', E, hl⟩
   refine calls_of_wp hf hb ?_
   cases fl with
   | exit k => simp [hx] at h
   | normal => simp only [hx] at h; exact exec_ok ih hfol L fn.ntmps c _ σ .normal S' σ1 _ w μ _ hx hfn.1 A0 Z (fin .normal (.inl rfl) h)
   | ret => simp only [hx] at h; exact exec_ok ih hfol L fn.ntmps c _ σ .ret S' σ1 _ w μ _ hx hfn.1 A0 Z (fin .ret (.inr rfl) h)
end
end Go.AI
