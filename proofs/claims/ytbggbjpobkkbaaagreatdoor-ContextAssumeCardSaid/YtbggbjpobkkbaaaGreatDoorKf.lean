import Derived.Test.YtbggbjpobkkbaaaGreatDoorKe
import Derived.Laws.BytesString
import Derived.Deep.Upon
set_option linter.unusedVariables false
set_option linter.unusedSimpArgs false
set_option linter.constructorNameAsVariable false
namespace Go.AI
section
variable {w0 : W0} {P : Program} {μ : Mp} {σ : St} {w : World}
theorem oX {cs l : List Value} {off n : Nat} (h : cut cs off n = some l) : l = (cs.drop off).take n ∧ n ≤ cs.length - off := by
 unfold cut at h;simp only [cN, Bool.cond_decide] at h;split at h
 ·rename_i hl; cases h; refine ⟨rfl, ?_⟩; simp at hl; omega
 ·cases h
theorem tF {C : Array Value} {cs : List Value} {o off n : Nat} (hrow : ∀ (i : Nat) (v : Value), cs[i]? = some v → ∃ u, C[o + i]? = some u ∧ VR μ v u) (hl : n ≤ cs.length - off) :
    VRL μ ((cs.drop off).take n) ((C.toList.drop (o + off)).take n) := by
 have hsz : n = 0 ∨ o + off + n ≤ C.size := by
  rcases Nat.eq_zero_or_pos n with h | h
  ·exact .inl h
  ·right;have : off + n - 1 < cs.length := by omega
   obtain ⟨u, hu, _⟩ := hrow (off + n - 1) _ (geG this);have := (Array.getElem?_eq_some_iff.1 hu).1;omega
 refine ⟨by simp; omega, fun i x u hx hu => ?_⟩
 rw [List.getElem?_take] at hx hu;split at hx
 ·rename_i hi;rw [if_pos hi] at hu;rw [List.getElem?_drop] at hx hu;obtain ⟨u', hu', hr⟩ := hrow _ _ hx;have : C.toList[o + off + i]? = some u' := by rw [Nat.add_assoc]; simpa using hu'
  rw [this] at hu;cases hu;exact hr
 ·cases hx
theorem uJ {w : World} {b o : Nat} {C : Array Value} {t : TypeId} {fr : Nat × Nat} (h : w.heap[b]? = some (.cells C t fr)) : w.cell? ⟨b, o, none⟩ = C[o]? := by
 simp [World.cell?, h]
theorem aD4 {w : World} {b o n : Nat} {C : Array Value} {t : TypeId} {fr : Nat × Nat} (h : w.heap[b]? = some (.cells C t fr)) (hl : ((C.toList.drop o).take n).length = n) :
    (loadCells ⟨b, o, none⟩ n).run P w = .ok ((C.toList.drop o).take n).toArray w := by
 have := run_loadCells_list (P := P) w ⟨b, o, none⟩ ((C.toList.drop o).take n) (fun j v hj => by
  rw [eW, uJ h];rw [List.getElem?_take] at hj;split at hj
  ·rw [List.getElem?_drop] at hj; simpa using hj
  ·cases hj)
 rw [hl] at this;exact this
theorem mH {t : TypeId} {a b v : Value} (S : Sim w0 P μ σ w) (r : VR μ a b) (h : eG P σ t a = some v) : ∃ v', (Instr.loadAt t b).run P w = .ok v' w ∧ VR μ v v' := by
 unfold eG at h;split at h <;> try cases h
 rename_i id off;obtain ⟨p, hp, rfl⟩ := r.ptr_inv;split at h <;> try cases h
 rename_i cs m hrow;obtain ⟨hg, hgood⟩ := St.row_some hrow;obtain ⟨C, ty, fr, hC, hcs, _⟩ := (S.row id p cs m hp hg hgood).row;unfold Instr.loadAt;simp only [Instr.sureAddr, loadVar, Sem.run_bind, Sem.run_pure, Result.andThen_ok];split at h <;> try cases h
 ·rename_i hag;rw [cJ (by rw [kK]; exact hag)]
  split at h <;> try cases h
  rename_i n hn;rw [mjE] at h;obtain ⟨l, hl, rfl⟩ := h;obtain ⟨rfl, hle⟩ := oX hl;have hv := tF hcs hle;refine ⟨_, ?_, .mkAgg hv⟩;have hlen : ((C.toList.drop (p.o + off)).take n).length = n := by rw [← hv.1]; simp; omega
  simp only [Result.andThen_ok, if_true, Sem.run_bind, cJ (w := w) (show aL P (Go.sizeOf t) = some n by rw [aO]; exact hn), aD4 hC hlen, Sem.run_pure]
 ·rename_i hag;rw [cJ (by rw [kK]; exact hag)]
  obtain ⟨u, hu, hr⟩ := hcs _ _ h;refine ⟨u, ?_, hr⟩;simp [uJ hC, hu]
theorem rowZ_ok (S : Sim w0 P μ σ w) (id : Nat) (p : Place) (z : Nat) (hp : μ id = some p) (h : yW σ id z = true) : p.z = z := by
 unfold yW at h;split at h
 ·rename_i cs m hrow;obtain ⟨hg, hgood⟩ := St.row_some hrow;rw [cN, djE] at h;rw [← h]; exact (S.row id p cs m hp hg hgood).z
 ·cases h
def FR (μ : Mp) : Option (Nat × Value) → Option (Nat × Value) → Prop
 | none, none => True
 | some (i, v), some (j, u) => i = j ∧ VR μ v u
 | _, _ => False
theorem aread_ok {ρ ρ' : Operand → Value} {o : Oper} {v : Value} (S : Sim w0 P μ σ w) (hρ : ∀ x ∈ o.op.operands, VR μ (ρ x) (ρ' x)) (h : gO P σ ρ o = some v) :
    ∃ v', (execOp ρ' o).run P w = .ok (.value v') w ∧ VR μ v v' := by
 unfold gO at h;unfold execOp;cases ho : o.op <;> simp only [ho] at h hρ ⊢ <;> try cases h
 case load t a =>
  obtain ⟨v', h1, h2⟩ := mH S (hρ a (by simp [Op.operands])) h
  exact ⟨v', by simp [h1], h2⟩
 case slice t x lo hi mx =>
  obtain ⟨v', h1, h2⟩ := aF2 (μ := μ) (P := P) (rowZ_ok S) (hρ x (by simp [Op.operands])) (aGB lo fun y hy => hρ y (by simp [Op.operands, hy])) (aGB hi fun y hy => hρ y (by simp [Op.operands, hy]))
   (aGB mx fun y hy => hρ y (by simp [Op.operands, hy])) h
  exact ⟨v', by simp [cJ h1], h2⟩
theorem sO : ∀ (l : List Value) (ns : List Int), bytesOf l = some ns → l = ns.map (Value.int .u8) := by
 intro l;induction l with
 | nil => intro ns h; simp only [bytesOf, ojE] at h; subst h; rfl
 | cons x l ih =>
  intro ns h;unfold bytesOf at h;split at h
  ·cases ‹_ :: _ = []›
  ·rename_i n r e;cases e;rw [mjE] at h;obtain ⟨ns', h1, rfl⟩ := h;rw [ih ns' h1]; rfl
  ·cases h
theorem uL {l : List Value} {ns : List Int} (h : bytesOf l = some ns) : l.all aC = true := by
 rw [sO l ns h, List.all_eq_true];intro x hx;obtain ⟨n, _, rfl⟩ := List.mem_map.1 hx;rfl
theorem aGb {s d : TypeId} {a b v : Value} (S : Sim w0 P μ σ w) (r : VR μ a b) (h : mI P σ s d a = some v) : (convert s d b).run P w = .ok v w := by
 unfold mI at h;split at h <;> try cases h
 rename_i e hs hd;split at h <;> try cases h
 rename_i he;split at h <;> try cases h
 ·rename_i id off n c;obtain ⟨p, cap, hp, rfl, _⟩ := r.slc_inv;split at h <;> try cases h
  rename_i cs m hrow;split at h <;> try cases h
  rename_i l hl;rw [mjE] at h;obtain ⟨ns, hns, rfl⟩ := h;obtain ⟨hg, hgood⟩ := St.row_some hrow;obtain ⟨C, ty, fr, hC, hcs, _⟩ := (S.row id p cs m hp hg hgood).row;obtain ⟨rfl, hle⟩ := oX hl;have hv := tF hcs hle;have hlen : ((C.toList.drop (p.o + off)).take n).length = n := by rw [← hv.1]; simp; omega
  have heq := hv.eq0 (uL hns);rw [run_convert_bytes_string w s d e _ _ _ hs he hd];refine run_bytesToString w _ n cap ns ?_;rw [aD4 hC hlen, heq, sO _ _ hns]
 ·cases r with
  | same _ hp => simp [aC] at hp
  | emp a' s' cap h' =>
   rw [run_convert_bytes_string w s d e _ _ _ hs he hd];exact run_bytesToString w a' 0 cap [] rfl
end
end Go.AI
namespace Go.AI
section
variable {w0 : W0} {P : Program} {μ : Mp} {σ : St} {w : World}
def upd (μ : Mp) (id : Nat) (p : Place) : Mp := fun k => if k = id then some p else μ k
theorem fX (μ : Mp) (id : Nat) (p : Place) : upd μ id p id = some p := by simp [upd]
theorem fN {μ : Mp} {id k : Nat} {p : Place} (h : k ≠ id) : upd μ id p k = μ k := by simp [upd, h]
theorem KeptO.upd {w0 : W0} {μ : Mp} {w : World} (K : KeptO w0 μ w) {id : Nat} {q : Place} (h : ∀ k o, w0.O k = some o → q.b ≠ k) (hb : q.b < w.heap.size) : KeptO w0 (upd μ id q) w :=
 ⟨K.toKept, fun k o hk => ⟨(K.oth k o hk).1, fun j r hj => by
  by_cases e : j = id
  ·subst e; rw [fX] at hj; cases hj; exact h k o hk
  ·rw [fN e] at hj; exact (K.oth k o hk).2 j r hj⟩, fun j r hj => by
  by_cases e : j = id
  ·subst e; rw [fX] at hj; cases hj; exact hb
  ·rw [fN e] at hj; exact K.bnd j r hj⟩
theorem gV {μ : Mp} {id : Nat} (p : Place) (h : μ id = none) : ∀ k q, μ k = some q → upd μ id p k = some q := by
 intro k q hk;rw [fN]; exact hk;intro e; subst e; rw [h] at hk; cases hk
theorem Sim.lt (S : Sim w0 P μ σ w) {id : Nat} {p : Place} {cs : List Value} {m : Mta} (hp : μ id = some p) (hg : σ.get id = some (.cells cs m)) (hm : σ.good m = true) : p.b < w.heap.size := by
 obtain ⟨C, t, fr, hC, _⟩ := (S.row id p cs m hp hg hm).row;exact (Array.getElem?_eq_some_iff.1 hC).1
theorem Sim.lt_map (S : Sim w0 P μ σ w) {id : Nat} {p : Place} {es : List (Value × Value)} (hp : μ id = some p) (hg : σ.get id = some (.map es)) : p.b < w.heap.size := by
 obtain ⟨C, t, hC, _⟩ := (S.map id p es hp hg).map;exact (Array.getElem?_eq_some_iff.1 hC).1
theorem Sim.put_new (S : Sim w0 P μ σ w) {id : Nat} {ob : AObj} (h : μ id = none) (hv : ∀ cs m g v, ob = .cells cs m → m.grp = some (g, v) → v ≤ σ.ver g) : Sim w0 P μ (σ.put id ob) w := by
 have hne : ∀ {k p}, μ k = some p → k ≠ id := by intro k p hk e; subst e; rw [h] at hk; cases hk
 have hget : ∀ {k p}, μ k = some p → (σ.put id ob).get k = σ.get k := by intro k p hk; rw [St.get_put, if_neg (hne hk)]
 refine ⟨S.kept, S.dom, S.glob, ?_, ?_, ?_, ?_, ?_, ?_, ?_⟩
 ·intro k p cs m hp hg hm; rw [hget hp] at hg; exact S.row k p cs m hp hg hm
 ·intro k p es hp hg; rw [hget hp] at hg; exact S.map k p es hp hg
 ·intro i j p q cs ds m n hij hp hq hg hg' hm hn hw hs; rw [hget hp] at hg; rw [hget hq] at hg'; exact S.off i j p q cs ds m n hij hp hq hg hg' hm hn hw hs
 ·intro i j p q cs ds m n hij hp hq hg hg' hm hn hw; rw [hget hp] at hg; rw [hget hq] at hg'; exact S.tip i j p q cs ds m n hij hp hq hg hg' hm hn hw
 ·intro i j p q es fs hij hp hq hg hg'; rw [hget hp] at hg; rw [hget hq] at hg'; exact S.maps i j p q es fs hij hp hq hg hg'
 ·intro k cs m g v hg hgr;rw [St.get_put] at hg;split at hg
  ·cases hg; exact hv cs m g v rfl hgr
  ·exact S.vers k cs m g v hg hgr
 ·intro i j p q cs ds m n hij hp hq hg hg' hm hn hw; rw [hget hp] at hg; rw [hget hq] at hg'; exact S.lim i j p q cs ds m n hij hp hq hg hg' hm hn hw
theorem Sim.next (S : Sim w0 P μ σ w) {n : Nat} (h : σ.next ≤ n) : Sim w0 P μ { σ with next := n } w :=
 ⟨S.kept, fun id hi => S.dom id (Nat.le_trans h hi), S.glob, S.row, S.map, S.off, S.tip, S.maps, S.vers, S.lim⟩
theorem Sim.drawn (S : Sim w0 P μ σ w) (n : Nat) : Sim w0 P μ σ { w with drawn := n } :=
 ⟨⟨⟨S.kept.os, S.kept.output, S.kept.size, S.kept.old, S.kept.new⟩, S.kept.oth, S.kept.bnd⟩, S.dom, S.glob, fun id p cs m hp hg hm => by
      obtain ⟨h1, h2, h3, h4⟩ := S.row id p cs m hp hg hm; exact ⟨h1, h2, h3, h4⟩,
  fun id p es hp hg => by obtain ⟨h1, h2⟩ := S.map id p es hp hg; exact ⟨h1, h2⟩, S.off, S.tip, S.maps, S.vers, S.lim⟩
def NewAt (μ : Mp) (p : Place) (O : Obj) : AObj → Prop
 | .cells cs m => ∃ C t, O = .cells C t (0, 0) ∧ (∀ (i : Nat) (v : Value), cs[i]? = some v → ∃ u, C[i]? = some u ∧ VR μ v u) ∧ (m.tip = true → cs.length ≤ p.e ∧ p.e ≤ C.size) ∧ p.z = m.z
 | .map es => O = .map #[] 0 ∧ es = []
theorem lQ {w : World} {O : Obj} {k : Nat} (h : k < w.heap.size) : (w.heap.push O)[k]? = w.heap[k]? := by
 rw [Array.getElem?_push, if_neg (by omega)]
theorem aBh (w : World) (O : Obj) : (w.heap.push O)[w.heap.size]? = some O := by simp
theorem Sim.alloc (S : Sim w0 P μ σ w) {id : Nat} {ob : AObj} {O : Obj} {p : Place} (h : μ id = none) (hid : id < σ.next) (hob : σ.get id = some ob) (N : NewAt μ p O ob) (hb : p.b = w.heap.size) (ho : p.o = 0) :
    Sim w0 P (upd μ id p) σ { w with heap := w.heap.push O } := by
 have hext := gV p h;have hsplit : ∀ {k q}, upd μ id p k = some q → (k = id ∧ q = p) ∨ (k ≠ id ∧ μ k = some q) := by
  intro k q hk;by_cases e : k = id
  ·subst e; rw [fX] at hk; cases hk; exact .inl ⟨rfl, rfl⟩
  ·rw [fN e] at hk; exact .inr ⟨e, hk⟩
 have hfar : ∀ {k q cs m}, μ k = some q → σ.get k = some (.cells cs m) → σ.good m = true → p.b ≠ q.b := by
  intro k q cs m hq hg hm; have := S.lt hq hg hm; omega
 refine ⟨⟨⟨S.kept.os, S.kept.output, ?_, ?_, ?_⟩, fun k o hk => ⟨(lQ (Array.getElem?_eq_some_iff.1 (S.kept.oth k o hk).1).1).trans (S.kept.oth k o hk).1, fun j q hj => by
  have h1 := (Array.getElem?_eq_some_iff.1 (S.kept.oth k o hk).1).1;rcases hsplit hj with ⟨rfl, rfl⟩ | ⟨_, hq⟩
  ·omega
  ·exact (S.kept.oth k o hk).2 j q hq⟩, fun j q hj => by
  show _ < (w.heap.push O).size;rw [Array.size_push];rcases hsplit hj with ⟨rfl, rfl⟩ | ⟨_, hq⟩
  ·omega
  ·have := S.kept.bnd j q hq; omega⟩, ?_, ?_, ?_, ?_, ?_, ?_, ?_, S.vers, ?_⟩
 ·have := S.kept.size; simp; omega
 ·intro k hk; have := S.kept.size; show (w.heap.push O)[k]? = _; rw [lQ (by omega)]; exact S.kept.old k hk
 ·intro k C t fr hk hC;change (w.heap.push O)[k]? = _ at hC;rw [Array.getElem?_push] at hC;split at hC
  ·cases hC;cases ob with
   | cells cs m => obtain ⟨C', t', e, _⟩ := N; cases e; rfl
   | map es => obtain ⟨e, _⟩ := N; cases e
  ·exact S.kept.new k C t fr hk hC
 ·intro k hk; rw [fN (by omega)]; exact S.dom k hk
 ·intro g hg;obtain ⟨q, hq, h1, h2⟩ := S.glob g hg;exact ⟨q, hext g q hq, h1, h2⟩
 ·intro k q cs m hq hg hm;rcases hsplit hq with ⟨rfl, rfl⟩ | ⟨hk, hq'⟩
  ·rw [hob] at hg; cases hg;obtain ⟨C, t, rfl, hcs, htip, hz⟩ := N;refine ⟨⟨C, t, (0, 0), by rw [hb]; exact aBh w _, fun i v hi => ?_, fun ht => (htip ht).2⟩, fun _ => by have := S.kept.size; omega, fun ht => by rw [ho]; have := (htip ht).1; omega, hz⟩
   obtain ⟨u, hu, hr⟩ := hcs i v hi;exact ⟨u, by rw [ho, Nat.zero_add]; exact hu, hr.mono' hext⟩
  ·obtain ⟨⟨C, t, fr, hC, hcs, htip⟩, h2, h3, h4⟩ := S.row k q cs m hq' hg hm;exact ⟨⟨C, t, fr, (lQ (S.lt hq' hg hm)).trans hC, fun i v hi => let ⟨u, hu, hr⟩ := hcs i v hi; ⟨u, hu, hr.mono' hext⟩, htip⟩, h2, h3, h4⟩
 ·intro k q es hq hg;rcases hsplit hq with ⟨rfl, rfl⟩ | ⟨hk, hq'⟩
  ·rw [hob] at hg; cases hg;obtain ⟨rfl, rfl⟩ := N;exact ⟨⟨#[], 0, by rw [hb]; exact aBh w _, .nil, .nil⟩, by have := S.kept.size; omega⟩
  ·obtain ⟨⟨ES, c, hC, h1, h2⟩, h3⟩ := S.map k q es hq' hg;exact ⟨⟨ES, c, (lQ (S.lt_map hq' hg)).trans hC, h1.mono' hext, h2.mono' hext⟩, h3⟩
 ·intro i j a b cs ds m n hij ha hb' hg hg' hm hn hw hs;rcases hsplit ha with ⟨rfl, rfl⟩ | ⟨hi, ha'⟩
  ·rcases hsplit hb' with ⟨rfl, rfl⟩ | ⟨hj, hb''⟩
   ·exact absurd rfl hij
   ·exact fun e => absurd e (hfar hb'' hg' hn)
  ·rcases hsplit hb' with ⟨rfl, rfl⟩ | ⟨hj, hb''⟩
   ·exact fun e => absurd e.symm (hfar ha' hg hm)
   ·exact S.off i j a b cs ds m n hij ha' hb'' hg hg' hm hn hw hs
 ·intro i j a b cs ds m n hij ha hb' hg hg' hm hn hw;rcases hsplit ha with ⟨rfl, rfl⟩ | ⟨hi, ha'⟩
  ·rcases hsplit hb' with ⟨rfl, rfl⟩ | ⟨hj, hb''⟩
   ·exact absurd rfl hij
   ·exact ⟨fun e => absurd e (hfar hb'' hg' hn), fun _ e => absurd e (hfar hb'' hg' hn)⟩
  ·rcases hsplit hb' with ⟨rfl, rfl⟩ | ⟨hj, hb''⟩
   ·exact ⟨fun e => absurd e.symm (hfar ha' hg hm), fun _ e => absurd e.symm (hfar ha' hg hm)⟩
   ·exact S.tip i j a b cs ds m n hij ha' hb'' hg hg' hm hn hw
 ·intro i j a b es fs hij ha hb' hg hg';rcases hsplit ha with ⟨rfl, rfl⟩ | ⟨hi, ha'⟩
  ·rcases hsplit hb' with ⟨rfl, rfl⟩ | ⟨hj, hb''⟩
   ·exact absurd rfl hij
   ·have := S.lt_map hb'' hg'; omega
  ·rcases hsplit hb' with ⟨rfl, rfl⟩ | ⟨hj, hb''⟩
   ·have := S.lt_map ha' hg; omega
   ·exact S.maps i j a b es fs hij ha' hb'' hg hg'
 ·intro i j a b cs ds m n hij ha hb' hg hg' hm hn hw;rcases hsplit ha with ⟨rfl, rfl⟩ | ⟨hi, ha'⟩
  ·rcases hsplit hb' with ⟨rfl, rfl⟩ | ⟨hj, hb''⟩
   ·exact absurd rfl hij
   ·exact fun e => absurd e (hfar hb'' hg' hn)
  ·rcases hsplit hb' with ⟨rfl, rfl⟩ | ⟨hj, hb''⟩
   ·exact fun e => absurd e.symm (hfar ha' hg hm)
   ·exact S.lim i j a b cs ds m n hij ha' hb'' hg hg' hm hn hw
theorem VRL.at {xs us : List Value} (r : VRL μ xs us) : ∀ (i : Nat) (v : Value), xs[i]? = some v → ∃ u, us.toArray[i]? = some u ∧ VR μ v u := by
 intro i v h;obtain ⟨u, hu, hr⟩ := r.get h;exact ⟨u, by simpa using hu, hr⟩
theorem VRL.atA {xs : List Value} {us : Array Value} (r : VRL μ xs us.toList) : ∀ (i : Nat) (v : Value), xs[i]? = some v → ∃ u, us[i]? = some u ∧ VR μ v u := by
 intro i v h;obtain ⟨u, hu, hr⟩ := r.get h;exact ⟨u, by simpa using hu, hr⟩
theorem kC (z : List Value) (n : Nat) : (bJ z n).length = n * z.length := by
 induction n with
 | zero => simp [bJ]
 | succ n ih => simp [bJ, ih, Nat.succ_mul, Nat.add_comm]
theorem gU (z : List Value) (hz : 0 < z.length) : ∀ (n i : Nat), (bJ z n)[i]? = if i < n * z.length then z[i % z.length]? else none := by
 intro n;induction n with
 | zero => intro i; simp [bJ]
 | succ n ih =>
  intro i;simp only [bJ, List.getElem?_append];split
  ·rename_i h;rw [if_pos (by rw [Nat.succ_mul]; omega), Nat.mod_eq_of_lt h]
  ·rename_i h;rw [ih, Nat.succ_mul];have : (i - z.length) % z.length = i % z.length := by
    conv => rhs; rw [show i = (i - z.length) + z.length from by omega]
    rw [Nat.add_mod_right]
   rw [this];by_cases h' : i - z.length < n * z.length
   ·rw [if_pos h', if_pos (by omega)]
   ·rw [if_neg h', if_neg (by omega)]
theorem aAQ (z : Array Value) (n s : Nat) (hz : z.size = s) (hs : 1 ≤ s) : (Array.map (fun x => z[x % z.size]!) (Array.range (n * s))) = (bJ z.toList n).toArray := by
 apply Array.ext';apply List.ext_getElem?;intro i;rw [gU z.toList (by simp; omega)]
 simp only [Array.toList_map, Array.toList_range, List.getElem?_map, Array.length_toList, hz];by_cases h : i < n * s
 ·rw [if_pos h, List.getElem?_range h];have h2 : i % s < z.size := by rw [hz]; exact Nat.mod_lt _ (by omega)
  simp [h2]
 ·rw [if_neg h];simp; omega
theorem lG {z : List Value} (h : z.all aC = true) (n : Nat) : (bJ z n).all aC = true := by
 induction n with
 | zero => rfl
 | succ n ih => simp only [bJ, List.all_append, bjE]; exact ⟨h, ih⟩
theorem yE {ρ ρ' : Operand → Value} {o : Oper} {id : Nat} {v : Value} {ob : AObj} (w : World) (hρ : ∀ x ∈ o.op.operands, VR μ (ρ x) (ρ' x)) (h : cS P ρ o id = some (v, ob)) :
    ∃ v' O p, (execOp ρ' o).run P w = .ok (.value v') { w with heap := w.heap.push O } ∧ p.b = w.heap.size ∧ p.o = 0 ∧ NewAt μ p O ob ∧ (∀ μ' : Mp, μ' id = some p → VR μ' v v') := by
 unfold cS at h;unfold execOp;cases ho : o.op <;> simp only [ho] at h hρ ⊢ <;> try cases h
 case alloc t =>
  split at h <;> try cases h
  rename_i z hz;cases hp : z.cells.toList.all aC with
  | false => rw [hp] at h; cases h
  | true =>
   rw [hp] at h;simp only [cdt, ojE, pjE] at h;obtain ⟨rfl, rfl⟩ := h;refine ⟨.pointer (some ⟨w.heap.size, 0, none⟩), .cells z.cells t (0, 0), ⟨w.heap.size, 0, 0, 0⟩, ?_, rfl, rfl, ⟨z.cells, t, rfl, VRL.atA (.same hp), (fun h => by cases h), rfl⟩, fun μ' hμ => VR.ptr id 0 _ hμ⟩
   simp [Instr.alloc, cJ hz, newVar, newRow]
 case box t x =>
  have hx := hρ x (by simp [Op.operands])
  cases hp : (ρ x).cells.toList.all one with
  | false => rw [hp] at h; cases h
  | true =>
   rw [hp] at h;simp only [cdt, ojE, pjE] at h;obtain ⟨rfl, rfl⟩ := h;refine ⟨.pointer (some ⟨w.heap.size, 0, none⟩), .cells (ρ' x).cells t (0, 0), ⟨w.heap.size, 0, 0, 0⟩, ?_, rfl, rfl, ⟨_, t, rfl, VRL.atA hx.cells, (fun h => by cases h), rfl⟩, fun μ' hμ => VR.ptr id 0 _ hμ⟩
   simp [Instr.box, newVar, newRow]
 case buildSlice t len parts =>
  split at h <;> try cases h
  rename_i e hu;split at h <;> try cases h
  rename_i s hs;split at h <;> try cases h
  rename_i z hz;cases hp : (z.cells.toList.all aC && Nat.ble (len * s) 1000000 && Nat.beq z.cells.size s && Nat.ble 1 s) with
  | false => rw [hp] at h; cases h
  | true =>
   rw [hp] at h;simp only [bjE, aCP, cN, djE] at hp;obtain ⟨⟨⟨hp, hle⟩, hzs⟩, hs1⟩ := hp;simp only [cdt, mjE, pjE] at h;obtain ⟨cs, hf, rfl, rfl⟩ := h;have hPR : PR μ (parts.map fun (i, x) => (i, ρ x)).toList (parts.map fun (i, x) => (i, ρ' x)).toList := by
    simpa using PR_map parts.toList (fun x hx => hρ x.2 (by simp [Op.operands]; exact ⟨_, Array.mem_toList_iff.1 hx⟩))
   have hz0 := lG hp len;obtain ⟨cs', hf', hr⟩ := aAg (μ := μ) _ _ _ _ _ _ hPR (VRL.toArray_cells (.same hz0)) hf;refine ⟨.slice (some ⟨w.heap.size, 0, none⟩) len len, .cells cs' e (0, 0), ⟨w.heap.size, 0, len * s, s⟩, ?_, rfl, rfl, ⟨cs', e, rfl, VRL.atA hr, (fun h => by cases h), rfl⟩,
    fun μ' hμ => VR.slc id 0 len len len _ hμ (fun _ => rfl) (nlR _) (by simp)⟩
   unfold Instr.buildSlice;have hbig : ¬ (len * s > 2 ^ 24) := by omega
   simp only [Sem.run_bind, cJ (w := w) (show aL P (underlying t) = some (.slice e) by rw [aD]; exact hu), Result.andThen_ok,
    cJ (w := w) (show aL P (Go.sizeOf e) = some s by rw [aO]; exact hs), if_neg hbig]
   by_cases h0 : len * s = 0
   ·rw [if_pos h0];have hl0 : len = 0 := by
     rcases Nat.mul_eq_zero.1 h0 with h | h
     ·exact h
     ·omega
    subst hl0;simp only [bJ] at hf';simp only [Sem.run_bind, Sem.run_pure, Result.andThen_ok, Nat.zero_mul, Array.range_zero', Array.map_empty];have hf'' : Instr.fill (fun i => some (i * s, s)) #[] (parts.map fun (i, x) => (i, ρ' x)).toList = some cs' := hf'
    rw [hf''];simp [newRow]
   ·rw [if_neg h0];simp only [Sem.run_bind, cJ (w := w) hz, Sem.run_pure, Result.andThen_ok, aAQ z.cells len s hzs hs1];have hf'' : Instr.fill (fun i => some (i * s, s)) (bJ z.cells.toList len).toArray (parts.map fun (i, x) => (i, ρ' x)).toList = some cs' := hf'
    rw [hf''];simp [newRow]
 case makeSlice t l c =>
  have hl := hρ l (by simp [Op.operands])
  have hc := hρ c (by simp [Op.operands])
  split at h <;> try cases h
  rename_i e n k hu hl' hc';rw [hl'] at hl;rw [hc'] at hc;rw [hl.int_inv, hc.int_inv];split at h <;> try cases h
  rename_i info hi;split at h <;> try cases h
  rename_i z hz;cases hp : (decide (0 ≤ n) && decide (n ≤ k) && decide (k * (info.bytes : Int) ≤ 1073741824) && decide (k ≤ 1073741824) && z.cells.toList.all aC && Nat.beq z.cells.size info.size && Nat.ble 1 info.size) with
  | false => rw [hp] at h; cases h
  | true =>
   rw [hp] at h;simp only [bjE, aCP, cN, djE] at hp;obtain ⟨⟨⟨⟨⟨⟨h0, hnk⟩, hkb⟩, hk⟩, hpz⟩, hzs⟩, hs1⟩ := hp;have hrun := run_make (P := P) w t e info z hu hi hz .i64 .i64 n k h0 hnk (by rw [Int.mul_comm]; omega) (by omega)
   have hmade : madeCells z.cells (k.toNat * info.size) = (bJ z.cells.toList k.toNat).toArray := by
    unfold madeCells;exact aAQ z.cells k.toNat info.size hzs hs1
   have hzl : z.cells.toList.length = info.size := by simpa using hzs
   simp only [cdt] at h;cases hnk' : decide (n = k) with
   | true =>
    rw [hnk'] at h;simp only [cdt, ojE, pjE] at h;obtain ⟨rfl, rfl⟩ := h;have : n = k := by simpa using hnk'
    subst this;refine ⟨.slice (some ⟨w.heap.size, 0, none⟩) n.toNat n.toNat, .cells (bJ z.cells.toList n.toNat).toArray e (0, 0), ⟨w.heap.size, 0, n.toNat * info.size, info.size⟩, ?_, rfl, rfl,
     ⟨_, e, rfl, VRL.at (.same (lG hpz _)), (fun h => by cases h), rfl⟩, fun μ' hμ => VR.slc id 0 _ _ _ _ hμ (fun _ => rfl) (nlR _) (by simp)⟩
    simp only [Sem.run_bind, hrun, hmade, Result.andThen_ok, Sem.run_pure];rfl
   | false =>
    rw [hnk'] at h;simp only [cdf, ojE, pjE] at h;obtain ⟨rfl, rfl⟩ := h;refine ⟨.slice (some ⟨w.heap.size, 0, none⟩) n.toNat k.toNat, .cells (bJ z.cells.toList k.toNat).toArray e (0, 0), ⟨w.heap.size, 0, k.toNat * info.size, info.size⟩, ?_, rfl, rfl,
     ⟨_, e, rfl, ?_, (fun _ => ?_), rfl⟩, fun μ' hμ => VR.slc id 0 _ _ _ _ hμ (fun e => by omega) (by omega) (by simp)⟩
    ·simp only [Sem.run_bind, hrun, hmade, Result.andThen_ok, Sem.run_pure];rfl
    ·intro i v hv;have hlt : i < n.toNat * z.cells.toList.length := by
      rw [gU _ (by omega)] at hv
      split at hv
      ·assumption
      ·cases hv
     rw [gU _ (by omega), if_pos hlt] at hv
     have hlt' : i < k.toNat * z.cells.toList.length := Nat.lt_of_lt_of_le hlt (Nat.mul_le_mul_right _ (by omega))
     have hpl : aC v = true := List.all_eq_true.1 hpz v (List.mem_of_getElem? hv);refine ⟨v, ?_, .same v hpl⟩;have : (bJ z.cells.toList k.toNat)[i]? = some v := by rw [gU _ (by omega), if_pos hlt']; exact hv
     simpa using this
    ·constructor
     ·show (bJ z.cells.toList n.toNat).length ≤ k.toNat * info.size;rw [kC, hzl]; exact Nat.mul_le_mul_right _ (by omega)
     ·show k.toNat * info.size ≤ (bJ z.cells.toList k.toNat).toArray.size;simp [kC, hzs]
end
end Go.AI
namespace Go.AI
section
variable {w0 : W0} {P : Program} {μ : Mp} {σ : St} {w : World}
theorem nV : ∀ (xs cs : List Value) (off : Nat), (fB cs off xs).length = cs.length
 | [], _, _ => rfl
 | x :: xs, cs, off => by rw [fB, nV xs]; simp
theorem aEk : ∀ (xs cs : List Value) (off i : Nat), off + xs.length ≤ cs.length → (fB cs off xs)[i]? = if off ≤ i ∧ i < off + xs.length then xs[i - off]? else cs[i]? := by
 intro xs;induction xs with
 | nil => intro cs off i _; rw [fB, if_neg (by simp)]
 | cons x xs ih =>
  intro cs off i h;simp only [lcS] at h;rw [fB, ih _ _ _ (by simp; omega)]
  by_cases h1 : off + 1 ≤ i ∧ i < off + 1 + xs.length
  ·rw [if_pos h1, if_pos (by simp; omega)]
   rw [show i - off = (i - (off + 1)) + 1 by omega]; simp
  ·rw [if_neg h1];by_cases h2 : i = off
   ·subst h2;rw [if_pos (by simp), List.getElem?_set_self (by omega)]; simp
   ·rw [if_neg (by simp; omega), List.getElem?_set_ne (by omega)]
theorem aD1 (l us : List Value) (a k : Nat) (h : a + us.length ≤ l.length) :
    (l.take a ++ us ++ l.drop (a + us.length))[k]? = if a ≤ k ∧ k < a + us.length then us[k - a]? else l[k]? := by
 have hl : (l.take a).length = a := by simp; omega
 rw [apA, List.getElem?_append];split
 ·rename_i h1;rw [hl] at h1;rw [if_neg (by omega), List.getElem?_take, if_pos h1]
 ·rename_i h1;rw [hl] at h1 ⊢;rw [List.getElem?_append];split
  ·rename_i h2;rw [if_pos (by omega)]
  ·rename_i h2;rw [if_neg (by omega), List.getElem?_drop]
   congr 1; omega
theorem rN (l us : List Value) (a : Nat) (h : a + us.length ≤ l.length) : (l.take a ++ us ++ l.drop (a + us.length)).length = l.length := by simp; omega
theorem RowAt.other {q : Place} {ds : List Value} {n : Mta} (R : RowAt w0 μ w q ds n) {b : Nat} {C C' : Array Value} {t : TypeId} (hC : w.heap[b]? = some (.cells C t (0, 0))) (hsz : C'.size = C.size)
    (h : q.b = b → ∀ i, i < ds.length → C'[q.o + i]? = C[q.o + i]?) : RowAt w0 μ (w.setRow b C') q ds n := by
 obtain ⟨⟨D, u, fr, hD, hds, htip⟩, h2, h3, h4⟩ := R;refine ⟨?_, h2, h3, h4⟩;by_cases hb : q.b = b
 ·rw [hb, hC] at hD;cases hD;refine ⟨C', _, _, by rw [hb]; exact setRow_heap w b C C' _ _ hC, fun i v hi => ?_, fun ht => by rw [hsz]; exact htip ht⟩
  obtain ⟨u, hu, hr⟩ := hds i v hi;have hlt : i < ds.length := by
   rcases Nat.lt_or_ge i ds.length with h' | h'
   ·exact h'
   ·rw [List.getElem?_eq_none h'] at hi; cases hi
  exact ⟨u, by rw [h hb i hlt]; exact hu, hr⟩
 ·exact ⟨D, u, fr, by rw [setRow_other _ _ _ _ hb]; exact hD, hds, htip⟩
theorem MapAt.other {q : Place} {es : List (Value × Value)} (R : MapAt w0 μ w q es) {b : Nat} {C C' : Array Value} {t : TypeId} (hC : w.heap[b]? = some (.cells C t (0, 0))) : MapAt w0 μ (w.setRow b C') q es := by
 obtain ⟨⟨ES, c, h, h1, h2⟩, h3⟩ := R;have hb : q.b ≠ b := by intro e; rw [e, hC] at h; cases h
 exact ⟨⟨ES, c, by rw [setRow_other _ _ _ _ hb]; exact h, h1, h2⟩, h3⟩
theorem KeptO.setRow (K : KeptO w0 μ w) {b : Nat} (hb : w0.heap.size ≤ b) (hbo : ∀ k o, w0.O k = some o → b ≠ k) (C' : Array Value) : KeptO w0 μ (w.setRow b C') := by
 refine ⟨⟨K.os, K.output, by rw [setRow_size]; exact K.size, fun k hk => by rw [setRow_other _ _ _ _ (by omega)]; exact K.old k hk, fun k C t fr hk h => ?_⟩, fun k o hk => ?_, fun id p h => by rw [setRow_size]; exact K.bnd id p h⟩
 rotate_left
 ·exact ⟨by rw [setRow_other _ _ _ _ (Ne.symm (hbo k o hk))]; exact (K.oth k o hk).1, (K.oth k o hk).2⟩
 by_cases e : k = b
 ·subst e;simp only [World.setRow, Array.getElem?_modify, if_true] at h;cases hq : w.heap[k]? with
  | none => simp [hq] at h
  | some o =>
   cases o with
   | cells C0 t0 fr0 => simp [hq] at h; rw [← h.2.2]; exact K.new k C0 t0 fr0 hk hq
   | _ => simp [hq] at h
 ·rw [setRow_other _ _ _ _ e] at h; exact K.new k C t fr hk h
theorem Sim.write (S : Sim w0 P μ σ w) {id : Nat} {p : Place} {cs : List Value} {m m' : Mta} {σ' : St} {C : Array Value} {t : TypeId} (hp : μ id = some p) (hg : σ.get id = some (.cells cs m)) (hgood : σ.good m = true)
    (hwr : m.wr = true) (hC : w.heap[p.b]? = some (.cells C t (0, 0))) {off : Nat} {xs us : List Value} (hxs : VRL μ xs us) (hlen : off + xs.length ≤ cs.length)
    (hnext : σ'.next = σ.next) (hid : σ'.get id = some (.cells (fB cs off xs) m')) (hne : ∀ k, k ≠ id → σ'.get k = σ.get k)
    (hm' : m'.wr = m.wr ∧ m'.tip = m.tip ∧ m'.z = m.z ∧ (∀ n, eO m' n ↔ eO m n) ∧ (∀ n, eO n m' ↔ eO n m)) (hml : m'.lim = m.lim)
    (hgd : ∀ k ds n, k ≠ id → σ.get k = some (.cells ds n) → σ'.good n = true → σ.good n = true ∧ (¬ eO m n ∨ (m.tip = true ∧ m.lim ≤ off)))
    (hvers : ∀ k ds n g v, σ'.get k = some (.cells ds n) → n.grp = some (g, v) → v ≤ σ'.ver g) :
    Sim w0 P μ σ' (w.setRow p.b (C.toList.take (p.o + off) ++ us ++ C.toList.drop (p.o + off + us.length)).toArray) := by
 have R := S.row id p cs m hp hg hgood;have hin : xs.length = 0 ∨ p.o + off + us.length ≤ C.toList.length := by
  rcases Nat.eq_zero_or_pos xs.length with h | h
  ·exact .inl h
  ·right;obtain ⟨D, u, fr, hD, hds, _⟩ := R.row;rw [hC] at hD; cases hD;have : off + xs.length - 1 < cs.length := by omega
   obtain ⟨x, hx, _⟩ := hds _ _ (geG this);have := (Array.getElem?_eq_some_iff.1 hx).1;rw [← hxs.1]; simp; omega
 generalize hC' : (C.toList.take (p.o + off) ++ us ++ C.toList.drop (p.o + off + us.length)).toArray = C';have hget : ∀ k, C'[k]? = if p.o + off ≤ k ∧ k < p.o + off + us.length then us[k - (p.o + off)]? else C[k]? := by
  intro k;rw [← hC'];rcases hin with h | h
  ·have hu : us = [] := by have := hxs.1; rw [h] at this; exact List.eq_nil_of_length_eq_zero this.symm
   subst hu;rw [if_neg (by simp)]
   simp
  ·have := aD1 C.toList us (p.o + off) k h;simpa using this
 have hsz : C'.size = C.size := by
  rw [← hC'];rcases hin with h | h
  ·have hu : us = [] := by have := hxs.1; rw [h] at this; exact List.eq_nil_of_length_eq_zero this.symm
   subst hu; simp
  ·have := rN C.toList us (p.o + off) h;simpa using this
 have hlp : (fB cs off xs).length = cs.length := nV _ _ _;have Rid : RowAt w0 μ (w.setRow p.b C') p (fB cs off xs) m' := by
  obtain ⟨⟨D, u, fr, hD, hds, htip⟩, h2, h3, h4⟩ := R;rw [hC] at hD; cases hD;refine ⟨⟨C', _, _, setRow_heap w p.b C C' _ _ hC, fun i v hi => ?_, fun ht => ?_⟩, fun h => h2 (hm'.1 ▸ h), fun h => by rw [hlp]; exact h3 (hm'.2.1 ▸ h), by rw [hm'.2.2.1]; exact h4⟩
  ·rw [aEk _ _ _ _ hlen] at hi;rw [hget];split at hi
   ·rename_i h1;rw [if_pos (by have := hxs.1; omega)]
    obtain ⟨u, hu, hr⟩ := hxs.get hi;exact ⟨u, by rw [show p.o + i - (p.o + off) = i - off by omega]; exact hu, hr⟩
   ·rename_i h1;rw [if_neg (by have := hxs.1; omega)]
    exact hds i v hi
  ·rw [hsz]; exact htip (hm'.2.1 ▸ ht)
 have Roth : ∀ k q ds n, k ≠ id → μ k = some q → σ.get k = some (.cells ds n) → σ.good n = true → (¬ eO m n ∨ (m.tip = true ∧ m.lim ≤ off)) → RowAt w0 μ (w.setRow p.b C') q ds n := by
  intro k q ds n hk hq hgk hgn hs;refine (S.row k q ds n hq hgk hgn).other hC hsz (fun hb i hi => ?_)
  rw [hget, if_neg];intro h1;rcases hs with hs | ⟨ht, hl⟩
  ·exact S.off id k p q cs ds m n (Ne.symm hk) hp hq hg hgk hgood hgn hwr hs hb.symm (q.o + i) (by have := hxs.1; omega) (by have := hxs.1; omega) (by omega) (by omega)
  ·exact S.lim id k p q cs ds m n (Ne.symm hk) hp hq hg hgk hgood hgn ht hb.symm (q.o + i) (by have := hxs.1; omega) (by have := hxs.1; omega) (by omega) (by omega)
 have old : ∀ {k q ds n}, k ≠ id → μ k = some q → σ'.get k = some (.cells ds n) → σ'.good n = true → σ.get k = some (.cells ds n) ∧ σ.good n = true ∧ (¬ eO m n ∨ (m.tip = true ∧ m.lim ≤ off)) := by
  intro k q ds n hk hq hg' hgd';rw [hne k hk] at hg';obtain ⟨h1, h2⟩ := hgd k ds n hk hg' hgd';exact ⟨hg', h1, h2⟩
 refine ⟨S.kept.setRow (R.wr hwr) (fun k o hk => (S.kept.oth k o hk).2 id p hp) C', fun k hk => S.dom k (hnext ▸ hk), S.glob, ?_, ?_, ?_, ?_, ?_, hvers, ?_⟩
 ·intro k q ds n hq hg' hgn;by_cases hk : k = id
  ·subst hk;rw [hp] at hq; cases hq;rw [hid] at hg'; cases hg';exact Rid
  ·obtain ⟨h1, h2, h3⟩ := old hk hq hg' hgn;exact Roth k q ds n hk hq h1 h2 h3
 ·intro k q es hq hg';have hk : k ≠ id := by intro e; subst e; rw [hid] at hg'; cases hg'
  rw [hne k hk] at hg';exact (S.map k q es hq hg').other hC
 ·intro i j a b as bs n1 n2 hij ha hb hga hgb h1 h2 hw hs;by_cases hi : i = id
  ·subst hi;rw [hp] at ha; cases ha;rw [hid] at hga; cases hga;obtain ⟨g1, g2, g3⟩ := old (Ne.symm hij) hb hgb h2;rw [hlp];exact S.off i j p b cs bs m n2 hij hp hb hg g1 hgood g2 hwr (fun h => hs ((hm'.2.2.2.1 n2).2 h))
  ·obtain ⟨f1, f2, f3⟩ := old hi ha hga h1;by_cases hj : j = id
   ·subst hj;rw [hp] at hb; cases hb;rw [hid] at hgb; cases hgb;rw [hlp];exact S.off i j a p as cs n1 m hij ha hp f1 hg f2 hgood hw (fun h => hs ((hm'.2.2.2.2 n1).2 h))
   ·obtain ⟨g1, g2, g3⟩ := old hj hb hgb h2;exact S.off i j a b as bs n1 n2 hij ha hb f1 g1 f2 g2 hw hs
 ·intro i j a b as bs n1 n2 hij ha hb hga hgb h1 h2 hw;by_cases hi : i = id
  ·subst hi;rw [hp] at ha; cases ha;rw [hid] at hga; cases hga;obtain ⟨g1, g2, g3⟩ := old (Ne.symm hij) hb hgb h2;rw [hlp];exact S.tip i j p b cs bs m n2 hij hp hb hg g1 hgood g2 (hm'.2.1 ▸ hw)
  ·obtain ⟨f1, f2, f3⟩ := old hi ha hga h1;by_cases hj : j = id
   ·subst hj;rw [hp] at hb; cases hb;rw [hid] at hgb; cases hgb;rw [hlp];have := S.tip i j a p as cs n1 m hij ha hp f1 hg f2 hgood hw;exact ⟨this.1, fun h => this.2 (hm'.2.1 ▸ h)⟩
   ·obtain ⟨g1, g2, g3⟩ := old hj hb hgb h2;exact S.tip i j a b as bs n1 n2 hij ha hb f1 g1 f2 g2 hw
 ·intro i j a b es fs hij ha hb hga hgb;have hi : i ≠ id := by intro e; subst e; rw [hid] at hga; cases hga
  have hj : j ≠ id := by intro e; subst e; rw [hid] at hgb; cases hgb
  rw [hne i hi] at hga;rw [hne j hj] at hgb;exact S.maps i j a b es fs hij ha hb hga hgb
 ·intro i j a b as bs n1 n2 hij ha hb hga hgb h1 h2 hw;by_cases hi : i = id
  ·subst hi;rw [hp] at ha; cases ha;rw [hid] at hga; cases hga;obtain ⟨g1, g2, g3⟩ := old (Ne.symm hij) hb hgb h2;rw [hlp, hml];exact S.lim i j p b cs bs m n2 hij hp hb hg g1 hgood g2 (hm'.2.1 ▸ hw)
  ·obtain ⟨f1, f2, f3⟩ := old hi ha hga h1;by_cases hj : j = id
   ·subst hj;rw [hp] at hb; cases hb;rw [hid] at hgb; cases hgb;rw [hlp];exact S.lim i j a p as cs n1 m hij ha hp f1 hg f2 hgood hw
   ·obtain ⟨g1, g2, g3⟩ := old hj hb hgb h2;exact S.lim i j a b as bs n1 n2 hij ha hb f1 g1 f2 g2 hw
theorem vQ (v : Value) : v.oneCell' = one v := by cases v <;> rfl
theorem xV {t : TypeId} {a b x y : Value} {σ' : St} (S : Sim w0 P μ σ w) (ra : VR μ a b) (rx : VR μ x y) (h : eK P σ t a x = some σ') :
    ∃ w', (Instr.storeAt t b y).run P w = .ok () w' ∧ Sim w0 P μ σ' w' ∧ σ'.next = σ.next := by
 unfold eK at h;split at h <;> try cases h
 rename_i id off;obtain ⟨p, hp, rfl⟩ := ra.ptr_inv;split at h <;> try cases h
 rename_i cs m n hrow hn;obtain ⟨hg, hgood⟩ := St.row_some hrow;cases hc : (m.wr && Nat.beq x.cells.size n && Nat.ble (off + n) cs.length && x.cells.toList.all one) with
 | false => rw [hc] at h; cases h
 | true =>
  rw [hc] at h;simp only [bjE, aCP, cN, djE] at hc;obtain ⟨⟨⟨hwr, hsz⟩, hle⟩, hone⟩ := hc;simp only [cdt] at h;have R := S.row id p cs m hp hg hgood;obtain ⟨C, ty, fr, hC, hcs, _⟩ := R.row;have hfr := S.kept.new p.b C ty fr (R.wr hwr) hC;subst hfr;have hxs := rx.cells;have hxl : x.cells.toList.length = n := by simpa using hsz
  have hone' : ∀ v ∈ y.cells.toList, v.oneCell' = true := by
   intro v hv;rw [vQ];have := hxs.one_eq;rw [hone] at this;exact List.all_eq_true.1 this v hv
  have hfit : p.o + off + y.cells.toList.length ≤ C.size ∨ y.cells.toList = [] := by
   rcases Nat.eq_zero_or_pos n with h0 | h0
   ·right; apply List.eq_nil_of_length_eq_zero; rw [← hxs.1, hxl, h0]
   ·left;have : off + n - 1 < cs.length := by omega
    obtain ⟨u, hu, _⟩ := hcs _ _ (geG this);have := (Array.getElem?_eq_some_iff.1 hu).1;rw [← hxs.1, hxl]; omega
  have hrun : (Instr.storeAt t (.pointer (some ⟨p.b, p.o + off, none⟩)) y).run P w =
        .ok () (w.setRow p.b (C.toList.take (p.o + off) ++ y.cells.toList ++ C.toList.drop (p.o + off + y.cells.toList.length)).toArray) := by
   unfold Instr.storeAt storeVar;have hsy : ¬ (y.cells.size ≠ n) := by have := hxs.size; omega
   simp only [Instr.sureAddr, Sem.run_bind, Sem.run_pure, Result.andThen_ok, cJ (w := w) (show aL P (Go.sizeOf t) = some n by rw [aO]; exact hn), if_neg hsy]
   rcases hfit with hf | hf
   ·have := run_storeCells_at P p.b (p.o + off) ty y.cells.toList 0 C w hC (by simpa using hf) hone'
    simpa using this
   ·rw [hf];simp only [storeCells, apN, lnN, Nat.add_zero, List.take_append_drop, Array.toArray_toList];rw [setRow_self w p.b C ty (0, 0) hC]; rfl
  refine ⟨_, hrun, ?_⟩;cases hgr : m.grp with
  | none =>
   simp only [hgr, ojE] at h;subst h;have hns : ∀ n, ¬ eO m n := fun n ⟨g, v, v', e, _⟩ => by rw [hgr] at e; cases e
   refine ⟨S.write hp hg hgood hwr hC hxs (by rw [hxl]; exact hle) rfl (m' := m) (by rw [St.get_put, if_pos rfl]) (fun k hk => by rw [St.get_put, if_neg hk]) ⟨rfl, rfl, rfl, fun _ => Iff.rfl, fun _ => Iff.rfl⟩ rfl
    (fun k ds n _ _ hgn => ⟨hgn, .inl (hns n)⟩) (fun k ds n g v hk hgr' => ?_), rfl⟩
   rw [St.get_put] at hk;split at hk
   ·cases hk; rw [hgr] at hgr'; cases hgr'
   ·exact S.vers k ds n g v hk hgr'
  | some gv =>
   obtain ⟨g, v⟩ := gv;simp only [hgr] at h;cases hlim : (m.tip && Nat.ble m.lim off) with
   | true =>
    rw [hlim] at h;simp only [cdt, ojE] at h;subst h;simp only [bjE, aCP, djE] at hlim;refine ⟨S.write hp hg hgood hwr hC hxs (by rw [hxl]; exact hle) rfl (m' := m) (by rw [St.get_put, if_pos rfl]) (fun k hk => by rw [St.get_put, if_neg hk]) ⟨rfl, rfl, rfl, fun _ => Iff.rfl, fun _ => Iff.rfl⟩ rfl
     (fun k ds n _ _ hgn => ⟨hgn, .inr hlim⟩) (fun k ds n g v hk hgr' => ?_), rfl⟩
    rw [St.get_put] at hk;split at hk
    ·cases hk; exact S.vers id _ _ g v hg hgr'
    ·exact S.vers k ds n g v hk hgr'
   | false =>
   rw [hlim] at h;simp only [cdf, ojE] at h;subst h;have hver : σ.ver g = v := (St.good_iff σ m).1 hgood g v hgr;refine ⟨S.write hp hg hgood hwr hC hxs (by rw [hxl]; exact hle) rfl (m' := { m with grp := some (g, v + 1) }) (by rw [St.get_bump, St.get_put, if_pos rfl]) (fun k hk => by rw [St.get_bump, St.get_put, if_neg hk])
    ⟨rfl, rfl, rfl, fun n => ?_, fun n => ?_⟩ rfl (fun k ds n hk hgk hgn => ?_) (fun k ds n g' v' hk hgr' => ?_), rfl⟩
   ·constructor
    ·rintro ⟨g1, v1, v2, e1, e2⟩; cases e1; exact ⟨_, _, _, hgr, e2⟩
    ·rintro ⟨g1, v1, v2, e1, e2⟩; rw [hgr] at e1; cases e1; exact ⟨_, _, _, rfl, e2⟩
   ·constructor
    ·rintro ⟨g1, v1, v2, e1, e2⟩; cases e2; exact ⟨_, _, _, e1, hgr⟩
    ·rintro ⟨g1, v1, v2, e1, e2⟩; rw [hgr] at e2; cases e2; exact ⟨_, _, _, e1, rfl⟩
   ·rw [St.good_iff] at hgn;have hnot : ∀ v', n.grp ≠ some (g, v') := by
     intro v' e;have h1 := hgn g v' e;rw [St.ver_bump, if_pos rfl] at h1;have h2 := S.vers k ds n g v' hgk e;omega
    refine ⟨(St.good_iff σ n).2 fun g' v' e => ?_, .inl ?_⟩
    ·have h1 := hgn g' v' e;rw [St.ver_bump] at h1;split at h1
     ·rename_i eg; subst eg; exact absurd e (hnot v')
     ·exact h1
    ·rintro ⟨g1, v1, v2, e1, e2⟩;rw [hgr] at e1; cases e1;exact hnot v2 e2
   ·rw [St.get_bump, St.get_put] at hk;rw [St.ver_bump];split at hk
    ·cases hk; cases hgr'; rw [if_pos rfl]; exact nlR _
    ·have := S.vers k ds n g' v' hk hgr';split
     ·rename_i eg; subst eg; omega
     ·exact this
theorem VRL.modify {xs us : List Value} (r : VRL μ xs us) {x u : Value} (h : VR μ x u) (n : Nat) : VRL μ (xs.modify n fun _ => x) (us.modify n fun _ => u) := by
 refine ⟨by simp [r.1], fun i y v hy hv => ?_⟩
 rw [List.getElem?_modify] at hy hv;by_cases e : n = i
 ·subst e;simp only [if_true, Option.map_eq_map, mjE] at hy hv;obtain ⟨_, _, rfl⟩ := hy;obtain ⟨_, _, rfl⟩ := hv;exact h
 ·simp only [if_neg e, id_map] at hy hv;exact r.2 i y v (by simpa using hy) (by simpa using hv)
end
end Go.AI
namespace Go.AI
section
variable {w0 : W0} {P : Program} {μ : Mp} {σ : St} {w : World}
theorem Sim.untip (S : Sim w0 P μ σ w) {id : Nat} {cs : List Value} {m : Mta} (hg : σ.get id = some (.cells cs m)) : Sim w0 P μ (σ.put id (.cells cs { m with tip := false })) w := by
 have hget : ∀ {k ds n}, (σ.put id (.cells cs { m with tip := false })).get k = some (.cells ds n) → ∃ n', σ.get k = some (.cells ds n') ∧ n.wr = n'.wr ∧ n.z = n'.z ∧ n.grp = n'.grp ∧ (n.tip = true → n'.tip = true ∧ n.lim = n'.lim) := by
  intro k ds n h;rw [St.get_put] at h;split at h
  ·rename_i e; subst e; cases h; exact ⟨m, hg, rfl, rfl, rfl, fun h => by cases h⟩
  ·exact ⟨n, h, rfl, rfl, rfl, fun h => ⟨h, rfl⟩⟩
 have hmap : ∀ {k es}, (σ.put id (.cells cs { m with tip := false })).get k = some (.map es) → σ.get k = some (.map es) := by
  intro k es h;rw [St.get_put] at h;split at h
  ·cases h
  ·exact h
 have hgood : ∀ {n n' : Mta}, n.grp = n'.grp → σ.good n = true → σ.good n' = true := by
  intro n n' e h; rw [St.good_iff] at h ⊢; intro g v e'; exact h g v (e.trans e')
 have hsame : ∀ {a a' b b' : Mta}, a.grp = a'.grp → b.grp = b'.grp → eO a' b' → eO a b := by
  rintro a a' b b' e1 e2 ⟨g, v, v', h1, h2⟩; exact ⟨g, v, v', e1.trans h1, e2.trans h2⟩
 refine ⟨S.kept, S.dom, S.glob, ?_, ?_, ?_, ?_, ?_, ?_, ?_⟩
 ·intro k q ds n hq h hgd;obtain ⟨n', h', e1, e2, e3, e4⟩ := hget h;obtain ⟨⟨D, t, fr, hD, hds, htip⟩, h2, h3, h4⟩ := S.row k q ds n' hq h' (hgood e3 hgd);exact ⟨⟨D, t, fr, hD, hds, fun ht => htip (e4 ht).1⟩, fun hw => h2 (e1 ▸ hw), fun ht => h3 (e4 ht).1, by rw [h4, e2]⟩
 ·intro k q es hq h; exact S.map k q es hq (hmap h)
 ·intro i j a b as bs n1 n2 hij ha hb h1 h2 g1 g2 hw hs;obtain ⟨m1, f1, a1, a2, a3, a4⟩ := hget h1;obtain ⟨m2, f2, b1, b2, b3, b4⟩ := hget h2;exact S.off i j a b as bs m1 m2 hij ha hb f1 f2 (hgood a3 g1) (hgood b3 g2) (a1 ▸ hw) (fun h => hs (hsame a3 b3 h))
 ·intro i j a b as bs n1 n2 hij ha hb h1 h2 g1 g2 hw;obtain ⟨m1, f1, a1, a2, a3, a4⟩ := hget h1;obtain ⟨m2, f2, b1, b2, b3, b4⟩ := hget h2;have := S.tip i j a b as bs m1 m2 hij ha hb f1 f2 (hgood a3 g1) (hgood b3 g2) (a4 hw).1;exact ⟨this.1, fun h => this.2 (b4 h).1⟩
 ·intro i j a b es fs hij ha hb h1 h2; exact S.maps i j a b es fs hij ha hb (hmap h1) (hmap h2)
 ·intro k ds n g v h e;obtain ⟨n', h', _, _, e3, _⟩ := hget h;exact S.vers k ds n' g v h' (e3 ▸ e)
 ·intro i j a b as bs n1 n2 hij ha hb h1 h2 g1 g2 hw;obtain ⟨m1, f1, a1, a2, a3, a4⟩ := hget h1;obtain ⟨m2, f2, b1, b2, b3, b4⟩ := hget h2;rw [(a4 hw).2];exact S.lim i j a b as bs m1 m2 hij ha hb f1 f2 (hgood a3 g1) (hgood b3 g2) (a4 hw).1
theorem Sim.extend (S : Sim w0 P μ σ w) {id id' : Nat} {p : Place} {cs xs us : List Value} {m : Mta} {C : Array Value} {t : TypeId} {off : Nat} (hp : μ id = some p) (hg : σ.get id = some (.cells cs m)) (hgood : σ.good m = true)
    (htip : m.tip = true) (hwr : m.wr = true) (hgrp : m.grp.isSome = true) (hC : w.heap[p.b]? = some (.cells C t (0, 0))) (hoff : off ≤ cs.length) (hxs : VRL μ xs us) (hfit : p.o + cs.length + xs.length ≤ p.e)
    (hid : μ id' = none) (hlt : id' < σ.next) :
    Sim w0 P (upd μ id' ⟨p.b, p.o + off, p.e, p.z⟩) ((σ.put id (.cells cs { m with tip := false })).put id' (.cells (cs.drop off ++ xs) { m with lim := (cs.drop off).length }))
      (w.setRow p.b (C.toList.take (p.o + cs.length) ++ us ++ C.toList.drop (p.o + cs.length + us.length)).toArray) := by
 have hne : id' ≠ id := by intro e; subst e; rw [hid] at hp; cases hp
 have hext := gV (⟨p.b, p.o + off, p.e, p.z⟩ : Place) hid;have R := S.row id p cs m hp hg hgood;have hCe : p.e ≤ C.size := by
  obtain ⟨D, u, fr, hD, _, ht⟩ := R.row;rw [hC] at hD; cases hD; exact ht htip
 have hin : p.o + cs.length + us.length ≤ C.toList.length := by have := hxs.1; simp; omega
 generalize hC' : (C.toList.take (p.o + cs.length) ++ us ++ C.toList.drop (p.o + cs.length + us.length)).toArray = C';have hget : ∀ k, C'[k]? = if p.o + cs.length ≤ k ∧ k < p.o + cs.length + us.length then us[k - (p.o + cs.length)]? else C[k]? := by
  intro k; rw [← hC']; have := aD1 C.toList us (p.o + cs.length) k hin; simpa using this
 have hsz : C'.size = C.size := by rw [← hC']; have := rN C.toList us (p.o + cs.length) hin; simpa using this
 have hul := hxs.1;have hnl : (cs.drop off ++ xs).length = cs.length - off + xs.length := by simp
 have hcase : ∀ {k q ds n}, upd μ id' ⟨p.b, p.o + off, p.e, p.z⟩ k = some q → ((σ.put id (.cells cs { m with tip := false })).put id' (.cells (cs.drop off ++ xs) { m with lim := (cs.drop off).length })).get k = some (.cells ds n) →
      (k = id' ∧ q = ⟨p.b, p.o + off, p.e, p.z⟩ ∧ ds = cs.drop off ++ xs ∧ n = { m with lim := (cs.drop off).length }) ∨ (k = id ∧ q = p ∧ ds = cs ∧ n = { m with tip := false }) ∨ (k ≠ id' ∧ k ≠ id ∧ μ k = some q ∧ σ.get k = some (.cells ds n)) := by
  intro k q ds n hq h;by_cases e : k = id'
  ·subst e;rw [fX] at hq; cases hq;rw [St.get_put, if_pos rfl] at h; cases h;exact .inl ⟨rfl, rfl, rfl, rfl⟩
  ·rw [fN e] at hq;rw [St.get_put, if_neg e, St.get_put] at h;by_cases e2 : k = id
   ·subst e2;rw [hp] at hq; cases hq;rw [if_pos rfl] at h; cases h;exact .inr (.inl ⟨rfl, rfl, rfl, rfl⟩)
   ·rw [if_neg e2] at h;exact .inr (.inr ⟨e, e2, hq, h⟩)
 have hcaseM : ∀ {k q es}, upd μ id' ⟨p.b, p.o + off, p.e, p.z⟩ k = some q → ((σ.put id (.cells cs { m with tip := false })).put id' (.cells (cs.drop off ++ xs) { m with lim := (cs.drop off).length })).get k = some (.map es) → μ k = some q ∧ σ.get k = some (.map es) := by
  intro k q es hq h;rw [St.get_put] at h;split at h
  ·cases h
  ·rename_i e;rw [fN e] at hq;rw [St.get_put] at h;split at h
   ·cases h
   ·exact ⟨hq, h⟩
 have hsg : eO m { m with tip := false } := by
  obtain ⟨⟨g, v⟩, e⟩ := Option.isSome_iff_exists.1 hgrp;exact ⟨g, v, v, e, e⟩
 have hsg' : eO { m with tip := false } m := by
  obtain ⟨⟨g, v⟩, e⟩ := Option.isSome_iff_exists.1 hgrp;exact ⟨g, v, v, e, e⟩
 refine ⟨(S.kept.upd (id := id') (q := ⟨p.b, p.o + off, p.e, p.z⟩) (fun k o hk => (S.kept.oth k o hk).2 id p hp) (S.kept.bnd id p hp)).setRow (R.wr hwr) (fun k o hk => (S.kept.oth k o hk).2 id p hp) C', ?_, ?_, ?_, ?_, ?_, ?_, ?_, ?_, ?_⟩
 ·intro k hk;have hk' : σ.next ≤ k := hk
  rw [fN (by omega)]; exact S.dom k hk'
 ·intro g hg';obtain ⟨q, hq, h1, h2⟩ := S.glob g hg';exact ⟨q, hext g q hq, h1, h2⟩
 ·intro k q ds n hq h hgd;rcases hcase hq h with ⟨rfl, rfl, rfl, rfl⟩ | ⟨rfl, rfl, rfl, rfl⟩ | ⟨h1, h2, hq', h'⟩
  ·obtain ⟨⟨D, u, fr, hD, hds, _⟩, h2, h3, h4⟩ := R;rw [hC] at hD; cases hD;refine ⟨⟨C', _, _, setRow_heap w p.b C C' _ _ hC, fun i v hi => ?_, fun _ => by rw [hsz]; exact hCe⟩, h2, fun _ => by rw [hnl]; show p.o + off + _ ≤ p.e; omega, h4⟩
   show ∃ u, C'[p.o + off + i]? = some u ∧ _;rw [hget];rw [List.getElem?_append] at hi;split at hi
   ·rename_i hl;rw [List.length_drop] at hl;rw [if_neg (by omega)]
    rw [List.getElem?_drop] at hi;obtain ⟨u, hu, hr⟩ := hds _ _ hi;exact ⟨u, by rw [show p.o + off + i = p.o + (off + i) by omega]; exact hu, hr.mono' hext⟩
   ·rename_i hl;rw [List.length_drop] at hl hi;have hix : i - (cs.length - off) < xs.length := by
     rcases Nat.lt_or_ge (i - (cs.length - off)) xs.length with h' | h'
     ·exact h'
     ·rw [List.getElem?_eq_none h'] at hi; cases hi
    rw [if_pos (by omega)]
    obtain ⟨u, hu, hr⟩ := hxs.get hi;exact ⟨u, by rw [show p.o + off + i - (p.o + cs.length) = i - (cs.length - off) by omega]; exact hu, hr.mono' hext⟩
  ·obtain ⟨⟨D, u, fr, hD, hds, _⟩, h2, h3, h4⟩ := R;rw [hC] at hD; cases hD;refine ⟨⟨C', _, _, setRow_heap w q.b C C' _ _ hC, fun i v hi => ?_, fun ht => by cases ht⟩, h2, (fun ht => by cases ht), h4⟩
   have hil : i < ds.length := by
    rcases Nat.lt_or_ge i ds.length with h' | h'
    ·exact h'
    ·rw [List.getElem?_eq_none h'] at hi; cases hi
   rw [hget, if_neg (by omega)]
   obtain ⟨u, hu, hr⟩ := hds i v hi;exact ⟨u, hu, hr.mono' hext⟩
  ·have Rk := (S.row k q ds n hq' h' hgd).other hC hsz (fun hb i hi => by
    rw [hget, if_neg];intro h3;exact (S.tip id k p q cs ds m n (Ne.symm h2) hp hq' hg h' hgood hgd htip).1 hb.symm (q.o + i) (by omega) (by omega) (by omega) (by omega))
   obtain ⟨⟨D, u, fr, hD, hds, ht⟩, g2, g3, g4⟩ := Rk;exact ⟨⟨D, u, fr, hD, fun i v hi => let ⟨u, hu, hr⟩ := hds i v hi; ⟨u, hu, hr.mono' hext⟩, ht⟩, g2, g3, g4⟩
 ·intro k q es hq h;obtain ⟨hq', h'⟩ := hcaseM hq h;obtain ⟨⟨ES, c, h1, h2, h3⟩, h4⟩ := (S.map k q es hq' h').other hC (C' := C');exact ⟨⟨ES, c, h1, h2.mono' hext, h3.mono' hext⟩, h4⟩
 ·intro i j a b as bs n1 n2 hij ha hb h1 h2 g1 g2 hw hs;rcases hcase ha h1 with ⟨rfl, rfl, rfl, rfl⟩ | ⟨rfl, rfl, rfl, rfl⟩ | ⟨i1, i2, ha', h1'⟩
  ·rcases hcase hb h2 with ⟨rfl, _⟩ | ⟨rfl, rfl, rfl, rfl⟩ | ⟨j1, j2, hb', h2'⟩
   ·exact absurd rfl hij
   ·exact absurd hsg hs
   ·intro hbb x x1 x2 x3 x4;rw [hnl] at x2;simp only at x1 x2 hbb;by_cases hx : x < p.o + cs.length
    ·exact S.off id j p b cs bs m n2 (Ne.symm j2) hp hb' hg h2' hgood g2 hwr hs hbb x (by omega) hx x3 x4
    ·exact (S.tip id j p b cs bs m n2 (Ne.symm j2) hp hb' hg h2' hgood g2 htip).1 hbb x (by omega) (by omega) x3 x4
  ·rcases hcase hb h2 with ⟨rfl, rfl, rfl, rfl⟩ | ⟨rfl, _⟩ | ⟨j1, j2, hb', h2'⟩
   ·exact absurd hsg' hs
   ·exact absurd rfl hij
   ·exact S.off i j _ b _ bs m n2 hij hp hb' hg h2' hgood g2 hwr (fun h => hs (by obtain ⟨g, v, v', e1, e2⟩ := h; exact ⟨g, v, v', e1, e2⟩))
  ·rcases hcase hb h2 with ⟨rfl, rfl, rfl, rfl⟩ | ⟨rfl, rfl, rfl, rfl⟩ | ⟨j1, j2, hb', h2'⟩
   ·intro hbb x x1 x2 x3 x4;rw [hnl] at x4;simp only at x3 x4 hbb;by_cases hx : x < p.o + cs.length
    ·exact S.off i id a p as cs n1 m i2 ha' hp h1' hg g1 hgood hw hs hbb x x1 x2 (by omega) hx
    ·exact (S.tip id i p a cs as m n1 (Ne.symm i2) hp ha' hg h1' hgood g1 htip).1 hbb.symm x (by omega) (by omega) x1 x2
   ·exact S.off i j a b as bs n1 m hij ha' hp h1' hg g1 hgood hw (fun h => hs (by obtain ⟨g, v, v', e1, e2⟩ := h; exact ⟨g, v, v', e1, e2⟩))
   ·exact S.off i j a b as bs n1 n2 hij ha' hb' h1' h2' g1 g2 hw hs
 ·intro i j a b as bs n1 n2 hij ha hb h1 h2 g1 g2 hw;rcases hcase ha h1 with ⟨rfl, rfl, rfl, rfl⟩ | ⟨rfl, rfl, rfl, rfl⟩ | ⟨i1, i2, ha', h1'⟩
  ·rcases hcase hb h2 with ⟨rfl, _⟩ | ⟨rfl, rfl, rfl, rfl⟩ | ⟨j1, j2, hb', h2'⟩
   ·exact absurd rfl hij
   ·refine ⟨fun hbb x x1 x2 x3 x4 => ?_, (fun h => by cases h)⟩
    rw [hnl] at x1;simp only at x1;omega
   ·have T := S.tip id j p b cs bs m n2 (Ne.symm j2) hp hb' hg h2' hgood g2 htip;refine ⟨fun hbb x x1 x2 x3 x4 => ?_, fun ht hbb x x1 x2 x3 x4 => ?_⟩
    ·rw [hnl] at x1; simp only at x1 x2 hbb;exact T.1 hbb x (by omega) x2 x3 x4
    ·rw [hnl] at x1; simp only at x1 x2 hbb;exact T.2 ht hbb x (by omega) x2 x3 x4
  ·cases hw
  ·rcases hcase hb h2 with ⟨rfl, rfl, rfl, rfl⟩ | ⟨rfl, rfl, rfl, rfl⟩ | ⟨j1, j2, hb', h2'⟩
   ·have T := S.tip i id a p as cs n1 m i2 ha' hp h1' hg g1 hgood hw;refine ⟨fun hbb x x1 x2 x3 x4 => ?_, fun ht hbb x x1 x2 x3 x4 => ?_⟩
    ·rw [hnl] at x4; simp only at x3 x4 hbb;by_cases hx : x < p.o + cs.length
     ·exact T.1 hbb x x1 x2 (by omega) hx
     ·exact T.2 htip hbb x x1 x2 (by omega) (by omega)
    ·rw [hnl] at x3; simp only at x3 x4 hbb;exact T.2 htip hbb x x1 x2 (by omega) x4
   ·have T := S.tip i j a b as bs n1 m hij ha' hp h1' hg g1 hgood hw;exact ⟨T.1, (fun h => by cases h)⟩
   ·exact S.tip i j a b as bs n1 n2 hij ha' hb' h1' h2' g1 g2 hw
 ·intro i j a b es fs hij ha hb h1 h2;obtain ⟨a1, a2⟩ := hcaseM ha h1;obtain ⟨b1, b2⟩ := hcaseM hb h2;exact S.maps i j a b es fs hij a1 b1 a2 b2
 ·intro k ds n g v h e;rw [St.get_put] at h;split at h
  ·cases h; exact S.vers id _ _ g v hg e
  ·rw [St.get_put] at h;split at h
   ·cases h; exact S.vers id _ _ g v hg e
   ·exact S.vers k ds n g v h e
 ·intro i j a b as bs n1 n2 hij ha hb h1 h2 g1 g2 hw;rcases hcase ha h1 with ⟨rfl, rfl, rfl, rfl⟩ | ⟨rfl, rfl, rfl, rfl⟩ | ⟨i1, i2, ha', h1'⟩
  ·rcases hcase hb h2 with ⟨rfl, _⟩ | ⟨rfl, rfl, rfl, rfl⟩ | ⟨j1, j2, hb', h2'⟩
   ·exact absurd rfl hij
   ·intro hbb x x1 x2 x3 x4;simp only [List.length_drop] at x1;omega
   ·intro hbb x x1 x2 x3 x4;rw [hnl] at x2;simp only [List.length_drop] at x1 x2 hbb;exact (S.tip id j p b cs bs m n2 (Ne.symm j2) hp hb' hg h2' hgood g2 htip).1 hbb x (by omega) (by omega) x3 x4
  ·cases hw
  ·rcases hcase hb h2 with ⟨rfl, rfl, rfl, rfl⟩ | ⟨rfl, rfl, rfl, rfl⟩ | ⟨j1, j2, hb', h2'⟩
   ·intro hbb x x1 x2 x3 x4;rw [hnl] at x4;simp only at x3 x4 hbb;by_cases hx : x < p.o + cs.length
    ·exact S.lim i id a p as cs n1 m i2 ha' hp h1' hg g1 hgood hw hbb x x1 x2 (by omega) hx
    ·exact (S.tip id i p a cs as m n1 (Ne.symm i2) hp ha' hg h1' hgood g1 htip).1 hbb.symm x (by omega) (by omega) (by omega) x2
   ·exact S.lim i j a b as bs n1 m hij ha' hp h1' hg g1 hgood hw
   ·exact S.lim i j a b as bs n1 n2 hij ha' hb' h1' h2' g1 g2 hw
theorem aDe {z : Nat} {x x' : Value} {n : Nat} {xs : List Value} {t1 : TypeId} {u : TypeDesc} (S : Sim w0 P μ σ w) (r : VR μ x x') (hu : P.underlying t1 = some u)
    (hk : fits u x = true) (hone : xs.all one = true) (h : lE σ z x = some (n, xs)) :
    ∃ news, Src P z t1 x' n news w ∧ VRL μ xs news := by
 unfold lE at h;split at h <;> try cases h
 ·obtain ⟨rfl, rfl, rfl⟩ := r.nilslc_inv;cases u <;> simp only [fits, dJ, bnT, Bool.false_eq_true] at hk;exact ⟨[], Src.ofNil w hu 0, .nil⟩
 ·rename_i id off len c;split at h <;> try cases h
  rename_i cs m' hrow;rw [mjE] at h;obtain ⟨l, hl, he⟩ := h;cases he;obtain ⟨hg, hgood⟩ := St.row_some hrow;obtain ⟨p, cap, hp, rfl, _⟩ := r.slc_inv;obtain ⟨C, ty, fr, hC, hcs, _⟩ := (S.row id p cs _ hp hg hgood).row;obtain ⟨rfl, hle⟩ := oX hl;have hv := tF hcs hle;cases u <;> simp only [fits, dJ, bnT, Bool.false_eq_true] at hk;refine ⟨_, Src.ofSlice w hu _ n cap _ (by rw [← hv.1]; simp; omega) (fun j v hj => ?_) (fun v hv' => ?_), hv⟩
  ·rw [eW, uJ hC];rw [List.getElem?_take] at hj;split at hj
   ·rw [List.getElem?_drop] at hj; simpa using hj
   ·cases hj
  ·rw [vQ];have := hv.one_eq;rw [hone] at this;exact List.all_eq_true.1 this v hv'
 ·rename_i s;obtain rfl := r.string_inv;rw [cN, Bool.cond_decide] at h;split at h
  ·rename_i hz;cases h;subst hz;cases u <;> simp only [fits, dJ, Bool.not_false, Bool.false_eq_true] at hk;refine ⟨_, Src.ofString w hu s, VRL.same ?_⟩;rw [List.all_eq_true];intro v hv;obtain ⟨_, _, rfl⟩ := List.mem_map.1 hv;rfl
  ·cases h
 ·cases r with
  | same _ hp => simp [aC] at hp
  | emp a s cap h =>
   cases u <;> simp only [fits, dJ, bnT, Bool.false_eq_true] at hk;exact ⟨[], Src.ofSlice w hu a 0 cap [] (by simp) (fun j v hj => by simp at hj) (fun v hv' => by simp at hv'), .nil⟩
theorem room_run {t tx ty e : TypeId} {i : TypeInfo} (ht : P.underlying t = some (.slice e)) (hi : P.info? e = some i) {b off sLen sCap : Nat} {x : Value} {n : Nat} {news : List Value} (hs : Src P i.size tx x n news w)
    (hroom : sLen + n ≤ sCap) {cur : Array Value} {te : TypeId} (hC : w.heap[b]? = some (.cells cur te (0, 0))) (hfit : off + sLen * i.size + news.length ≤ cur.size) :
    (Builtin.append_ #[t, tx] ty #[.slice (some ⟨b, off, none⟩) sLen sCap, x]).run P w =
      .ok (.slice (some ⟨b, off, none⟩) (sLen + n) sCap) (w.setRow b (cur.toList.take (off + sLen * i.size) ++ news ++ cur.toList.drop (off + sLen * i.size + news.length)).toArray) := by
 have hst := run_storeCells_at P b (off + sLen * i.size) te news 0 cur w hC (by simpa using hfit) hs.one
 simp only [Nat.add_zero] at hst;rcases hs.kind with ⟨e', hk⟩ | hk <;> simp [Builtin.append_, run_underlying ht, run_underlying hk, Go.sizeOf, typeInfo, hi, hs.len, hroom, hs.cells, Addr.add_lit, hst]
theorem qU (z : Array Value) (n : Nat) : (Builtin.zeroCells z n).size = n * z.size := by simp [Builtin.zeroCells]
theorem uB {t tx ty e : TypeId} {i : TypeInfo} {z : Value} (S : Sim w0 P μ σ w) (ht : P.underlying t = some (.slice e)) (hi : P.info? e = some i) (hz : i.zero = some z) (hzs : z.cells.size = i.size)
    {base : Option Addr} {sLen sCap : Nat} {old olds : List Value} (hold : (Builtin.firstCells i.size sLen (.slice base sLen sCap)).run P w.drew = .ok olds.toArray w.drew) (hol : olds.length = sLen * i.size) (hor : VRL μ old olds)
    {x : Value} {n : Nat} {xs news : List Value} (hs : Src P i.size tx x n news w) (hxr : VRL μ xs news) (hg : sCap < sLen + n) (hb1 : 1 ≤ i.bytes) (hb : (sLen + n) * i.bytes ≤ 1073741824)
    {id' : Nat} {mt : Mta} (hid : μ id' = none) (hlt : id' < σ.next) (hmt : mt.z = i.size) (hob : σ.get id' = some (.cells (old ++ xs) mt)) :
    ∃ v' w' p, (Builtin.append_ #[t, tx] ty #[.slice base sLen sCap, x]).run P w = .ok v' w' ∧ VR (upd μ id' p) (.slice (some ⟨id', 0, none⟩) (sLen + n) (sLen + n + 1)) v' ∧ Sim w0 P (upd μ id' p) σ w' := by
 have hnl : sLen + n ≤ (sLen + n) * i.bytes := Nat.le_mul_of_pos_right _ (by omega)
 have hrun := run_append_grow_src w t tx ty e i z ht hi hz base sLen sCap olds hold x n news hs hg (by omega) (growslice_fits hg (by omega))
 have hcap := grownCap_ge w (sLen + n) sCap e;refine ⟨_, _, ⟨w.heap.size, 0, grownCap w (sLen + n) sCap e * i.size, i.size⟩, hrun, .slc id' 0 _ _ _ _ (fX _ _ _) (fun e => by omega) hcap (by simp), ?_⟩
 refine (S.drawn (w.drawn + 1)).alloc hid hlt hob ⟨_, e, rfl, fun j v hj => ?_, fun _ => ?_, by simp [hmt]⟩ rfl rfl
 ·obtain ⟨u, hu, hr⟩ := (hor.append hxr).get hj;refine ⟨u, ?_, hr⟩;have hjl : j < (olds ++ news).length := by
   rcases Nat.lt_or_ge j (olds ++ news).length with h' | h'
   ·exact h'
   ·rw [List.getElem?_eq_none h'] at hu; cases hu
  rw [Array.getElem?_append_left (by simpa using hjl)]
  simpa using hu
 ·constructor
  ·rw [(hor.append hxr).1];simp only [lnA, hol, hs.newsLen, ← Nat.add_mul];exact Nat.mul_le_mul_right _ hcap
  ·simp only [Array.size_append, List.size_toArray, lnA, hol, hs.newsLen, qU, hzs, ← Nat.add_mul];exact Nat.mul_le_mul_right _ (by omega)
theorem aDd {c : Call} {ty : TypeId} {s s' x x' v : Value} {σ' : St} {id' : Nat} (S : Sim w0 P μ σ w) (rs : VR μ s s') (rx : VR μ x x') (hid : μ id' = none) (hlt : id' < σ.next) (h : gJ P σ id' c s x = some (v, σ')) :
    ∃ v' w' μ', (Builtin.append_ c.argTypes ty #[s', x']).run P w = .ok v' w' ∧ VR μ' v v' ∧ Sim w0 P μ' σ' w' ∧ (∀ k p, μ k = some p → μ' k = some p) ∧ (∀ k, k ≠ id' → μ' k = μ k) ∧ σ'.next = σ.next := by
 unfold gJ at h;split at h <;> try cases h
 rename_i t t1 hts;have hts' : c.argTypes = #[t, t1] := by
  apply Array.toList_inj.1; rw [hts]
 rw [hts'];split at h <;> try cases h
 rename_i e u hu hu1;cases hk : fits u x with
 | false => rw [hk] at h; cases h
 | true =>
  rw [hk] at h;simp only [cdt] at h;split at h <;> try cases h
  rename_i info hi;split at h <;> try cases h
  rename_i n xs z hsrc hz;cases hc : (xs.all one && Nat.ble 1 info.size && Nat.ble 1 info.bytes && Nat.beq z.cells.size info.size && dJ s) with
  | false => rw [hc] at h; cases h
  | true =>
   rw [hc] at h;simp only [bjE, aCP, cN, djE] at hc;obtain ⟨⟨⟨⟨hone, hz1⟩, hb1⟩, hzs⟩, hsl⟩ := hc;simp only [cdt] at h;obtain ⟨news, hs, hxr⟩ := aDe S rx hu1 hk hone hsrc;rw [cN, Bool.cond_decide] at h;split at h
   ·rename_i hn;subst hn;simp only [ojE, pjE] at h;obtain ⟨rfl, rfl⟩ := h;have hnews : news = [] := by have := hs.newsLen; simpa using this
    subst hnews;cases s <;> simp only [dJ, Bool.false_eq_true] at hsl;rename_i a l c';refine ⟨s', w, μ, ?_, rs, S, fun _ _ h => h, fun _ _ => rfl, rfl⟩
    have : ∃ base len cap, s' = .slice base len cap ∧ len ≤ cap := by
     cases a with
     | none => obtain ⟨rfl, rfl, rfl⟩ := rs.nilslc_inv; exact ⟨none, 0, 0, rfl, nlR _⟩
     | some a =>
      cases rs with
      | same _ h => simp [aC] at h
      | slc id off len c cap p h hc hl he => exact ⟨_, _, _, rfl, hl⟩
      | emp a s cap h => exact ⟨_, _, _, rfl, Nat.zero_le _⟩
    obtain ⟨base, len, cap, rfl, hle⟩ := this;exact run_append_nothing w t t1 ty e info hu hi base len cap hle x' hs
   ·rename_i hn;unfold iT at h;split at h <;> try cases h
    ·
     obtain ⟨rfl, rfl, rfl⟩ := rs.nilslc_inv;rw [aCP, Bool.cond_decide] at h;split at h
     ·rename_i hb;simp only [ojE, pjE] at h;obtain ⟨rfl, rfl⟩ := h;have S1 : Sim w0 P μ (σ.put id' (.cells xs (cV info.size id'))) w := S.put_new hid (fun cs m g v e1 e2 => by cases e1; simp only [cV, ojE, pjE] at e2; omega)
      obtain ⟨v', w', p, h1, h2, h3⟩ := uB (ty := ty) S1 hu hi hz hzs (base := none) (sLen := 0) (sCap := 0) (old := []) (olds := []) (run_firstCells_none _ _ _ _ _) (by simp) .nil hs hxr (by omega) hb1 (by simpa using hb) hid hlt (mt := cV info.size id') rfl
       (by rw [St.get_put, if_pos rfl]; rfl)
      refine ⟨v', w', _, h1, by simpa using h2, h3, gV p hid, fun k hk => fN hk, rfl⟩
     ·cases h
    ·rename_i id off len k;obtain ⟨p, cap, hp, rfl, hck, hlc, he⟩ := rs.slc_inv;rw [aCP, Bool.cond_decide] at h;split at h
     ·rename_i hb;split at h <;> try cases h
      rename_i cs m hrow;obtain ⟨hg, hgood⟩ := St.row_some hrow;have R := S.row id p cs m hp hg hgood;obtain ⟨C, te, fr, hC, hcs, htipC⟩ := R.row;split at h <;> try cases h
      rename_i old hcut;obtain ⟨rfl, hle⟩ := oX hcut;have hor := tF hcs hle;have hol : ((C.toList.drop (p.o + off)).take (len * info.size)).length = len * info.size := by rw [← hor.1]; simp; omega
      have hold : (Builtin.firstCells info.size len (.slice (some ⟨p.b, p.o + off, none⟩) len cap)).run P w.drew = .ok ((C.toList.drop (p.o + off)).take (len * info.size)).toArray w.drew :=
       run_firstCells_some _ _ _ _ _ _ _ hol (fun j v hj => by
        rw [eW, uJ (w := w.drew) (show w.drew.heap[p.b]? = _ from hC)]
        rw [List.getElem?_take] at hj;split at hj
        ·rw [List.getElem?_drop] at hj; simpa using hj
        ·cases hj)
      rw [cN, Bool.cond_decide] at h;split at h
      ·
       rename_i hkl;have hcap := hck hkl;simp only [ojE, pjE] at h;obtain ⟨rfl, rfl⟩ := h;have S1 : Sim w0 P μ (σ.put id' (.cells ((cs.drop off).take (len * info.size) ++ xs) (cV info.size id'))) w := S.put_new hid (fun cs m g v e1 e2 => by cases e1; simp only [cV, ojE, pjE] at e2; omega)
       obtain ⟨v', w', q, h1, h2, h3⟩ := uB (ty := ty) S1 hu hi hz hzs hold hol hor hs hxr (by omega) hb1 hb hid hlt (mt := cV info.size id') rfl (by rw [St.get_put, if_pos rfl])
       exact ⟨v', w', _, h1, h2, h3, gV q hid, fun k hk => fN hk, rfl⟩
      ·cases hc2 : (m.tip && m.wr && Nat.beq m.z info.size && Nat.beq (off + len * info.size) cs.length && m.grp.isSome) with
       | false => rw [hc2] at h; cases h
       | true =>
        rw [hc2] at h;simp only [bjE, cN, djE] at hc2;obtain ⟨⟨⟨⟨htip, hwr⟩, hmz⟩, hend⟩, hgrp⟩ := hc2;simp only [cdt, ojE, pjE] at h;obtain ⟨rfl, rfl⟩ := h;have hdrop : (cs.drop off).take (len * info.size) = cs.drop off := List.take_of_length_le (by simp; omega)
        have hpz : p.z = info.size := R.z.trans hmz;by_cases hroom : len + n ≤ cap
        ·
         have hfr := S.kept.new p.b C te fr (R.wr hwr) hC;subst hfr;have hxl : xs.length = n * info.size := by rw [hxr.1]; exact hs.newsLen
         have hmul : (len + n) * info.size ≤ cap * info.size := Nat.mul_le_mul_right _ hroom;rw [Nat.add_mul] at hmul;rw [hpz] at he;have hfit : p.o + cs.length + xs.length ≤ p.e := by rw [hxl]; omega
         have hCe := htipC htip;have hrun := room_run (ty := ty) hu hi hs hroom hC (off := p.o + off) (by rw [hs.newsLen]; omega)
         have hpos : p.o + off + len * info.size = p.o + cs.length := by omega
         rw [hpos] at hrun;refine ⟨_, _, upd μ id' ⟨p.b, p.o + off, p.e, p.z⟩, hrun, ?_, ?_, gV _ hid, fun k hk => fN hk, rfl⟩
         ·exact .slc id' 0 (len + n) (len + n + 1) cap _ (fX _ _ _) (fun e => by omega) hroom (by rw [hpz]; simp; omega)
         ·rw [hdrop];exact S.extend hp hg hgood htip hwr hgrp hC (by omega) hxr hfit hid hlt
        ·
         have hne : id' ≠ id := by intro e; subst e; rw [hid] at hp; cases hp
         have S1 : Sim w0 P μ ((σ.put id (.cells cs { m with tip := false })).put id' (.cells ((cs.drop off).take (len * info.size) ++ xs) { m with lim := ((cs.drop off).take (len * info.size)).length })) w :=
          (S.untip hg).put_new hid (fun cs' m' g v e1 e2 => by cases e1; exact S.vers id cs m g v hg e2)
         obtain ⟨v', w', q, h1, h2, h3⟩ := uB (ty := ty) S1 hu hi hz hzs hold hol hor hs hxr (by omega) hb1 hb hid hlt (mt := { m with lim := ((cs.drop off).take (len * info.size)).length }) hmz (by rw [St.get_put, if_pos rfl])
         exact ⟨v', w', _, h1, h2, h3, gV q hid, fun k hk => fN hk, rfl⟩
     ·cases h
    ·
     rename_i b0 o0 s0 len k;cases hb0 : (Nat.beq s0 1 && Nat.ble (n * info.bytes) 1073741824) with
     | false => rw [hb0] at h; cases h
     | true =>
      rw [hb0] at h;simp only [bjE, cN, aCP, djE] at hb0;simp only [cdt, ojE, pjE] at h;obtain ⟨rfl, rfl⟩ := h;cases rs with
      | same _ h => simp [aC] at h
      | emp a s cap hcap =>
       obtain rfl := hcap hb0.1;have S1 : Sim w0 P μ (σ.put id' (.cells xs (cV info.size id'))) w := S.put_new hid (fun cs m g v e1 e2 => by cases e1; simp only [cV, ojE, pjE] at e2; omega)
       obtain ⟨v', w', p, h1, h2, h3⟩ := uB (ty := ty) S1 hu hi hz hzs (base := some a) (sLen := 0) (sCap := 0) (old := []) (olds := []) (run_firstCells_some _ _ _ _ _ _ ([] : List Value) (by simp) (fun j v hj => by simp at hj)) (by simp) .nil hs hxr (by omega) hb1 (by simpa using hb0.2) hid hlt (mt := cV info.size id') rfl
        (by rw [St.get_put, if_pos rfl]; rfl)
       refine ⟨v', w', _, h1, by simpa using h2, h3, gV p hid, fun k hk => fN hk, rfl⟩
end
end Go.AI
