import Derived.Test.YtojjcdpfjabepaaGreatDoorKf
import Derived.Test.YtojjcdpfjabepaaGreatDoorKe
set_option linter.unusedVariables false
set_option linter.unusedSimpArgs false
set_option linter.constructorNameAsVariable false
namespace Go.AI
mutual
theorem jZ: ∀(a b:Value),dE a b=true→a=b
 | .bool a,b,h=>by cases b<;>simp[dE]at h;rw[h]
 | .int j a,b,h=>by cases b<;>simp[dE]at h;rw[h.1,h.2]
 | .float j a,b,h=>by cases b<;>simp[dE]at h;rw[h.1,h.2]
 | .complex j a c,b,h=>by cases b<;>simp[dE]at h;rw[h.1.1,h.1.2,h.2]
 | .string a,b,h=>by
  cases b with
  |string b=>
   simp only[dE,beq_iff_eq]at h;cases a;cases b;have:=Array.toList_inj.1 h;simp only at this;rw[this]
  |_=>simp[dE]at h
 | .pointer a,b,h=>by cases b<;>simp[dE]at h;rw[h]
 | .slice a l c,b,h=>by cases b<;>simp[dE]at h;rw[h.1.1,h.1.2,h.2]
 | .map a,b,h=>by cases b<;>simp[dE]at h;rw[h]
 | .chan a,b,h=>by cases b<;>simp[dE]at h;rw[h]
 | .func f ⟨xs⟩ ⟨ys⟩,b,h=>by
  cases b with
  |func g us vs=>
   obtain⟨us⟩:=us;obtain⟨vs⟩:=vs;simp[dE]at h;rw[h.1.1,kA xs us h.1.2,kA ys vs h.2]
  |_=>simp[dE]at h
 | .nilFunc,b,h=>by cases b<;>simp[dE]at h;rfl
 | .iface t v,b,h=>by
  cases b with
  |iface u w=>simp[dE]at h;rw[h.1,jZ v w h.2]
  |_=>simp[dE]at h
 | .nilIface,b,h=>by cases b<;>simp[dE]at h;rfl
 | .agg ⟨xs⟩,b,h=>by
  cases b with
  |agg ys=>obtain⟨ys⟩:=ys;simp[dE]at h;rw[kA xs ys h]
  |_=>simp[dE]at h
 | .tuple ⟨xs⟩,b,h=>by
  cases b with
  |tuple ys=>obtain⟨ys⟩:=ys;simp[dE]at h;rw[kA xs ys h]
  |_=>simp[dE]at h
theorem kA: ∀(a b:List Value),mZ a b=true→a=b
 |[],b,h=>by cases b<;>simp[mZ]at h;rfl
 |x::xs,b,h=>by
  cases b with
  |nil=>simp[mZ]at h
  |cons y ys=>simp[mZ]at h;rw[jZ x y h.1,kA xs ys h.2]
end
theorem aAT{m n:Mta}(h:lY m n=true):m=n:=by
 simp only[lY,cJ,bjE,beq_iff_eq,djE]at h;cases m;cases n;simp_all
theorem aCT: ∀(a b:List (Value×Value)),uT a b=true→a=b
 |[],b,h=>by cases b<;>simp[uT]at h;rfl
 |x::xs,b,h=>by
  cases b with
  |nil=>simp[uT]at h
  |cons y ys=>
   simp only[uT,bjE]at h;rw[Prod.ext (jZ _ _ h.1.1) (jZ _ _ h.1.2),aCT xs ys h.2]
theorem sU{a b:AObj}(h:jH a b=true):a=b:=by
 cases a with
 |cells cs m=>cases b with
  |cells ds n=>simp only[jH,bjE]at h;rw[kA _ _ h.1,aAT h.2]
  |map _=>simp[jH]at h
 |map es=>cases b with
  |cells _ _=>simp[jH]at h
  |map fs=>rw[aCT es fs h]
section
variable{P:Program}{call:FuncId→Array Value→St→Option (Value×St)}{ops:Array Oper}{ms:List Nat}{base:Nat}{S':Slots}{σ':St}
structure Rec where
 i:Nat
 o:Oper
 S:Slots
 v:Value
def aAz(P:Program)(base:Nat)(σ:St)(r:jC):Prop:=
 match r.ob with
 |none=>gO P σ (ev r.S) r.o=some r.v
 |some ob=>σ.get (base+r.i)=some ob
theorem aD5{σ:St}{r:jC}(h:check P base σ r=true):aAz P base σ r:=by
 unfold check at h;unfold aAz;cases hr:r.ob with
 |none=>
  simp only[hr]at h⊢;split at h
  ·rename_i v hv;rw[hv,jZ _ _ h]
  ·cases h
 |some ob=>
  simp only[hr]at h⊢;split at h
  ·rename_i v hv;rw[hv,sU h]
  ·cases h
inductive Cert(P:Program)(call:FuncId→Array Value→St→Option (Value×St))(ops:Array Oper)(ms:List Nat)(base:Nat)(S':Slots)(σ':St):List Rec→List St→List Nat→List jC→Slots→St→Prop where
 |nil (pend:List jC) (h: ∀p∈pend,aAz P base σ' p):Cert P call ops ms base S' σ' [] [σ'] [] pend S' σ'
 |skip (r:Rec) (rs:List Rec) (Cs:List St) (Es:List Nat) (pend:List jC) (σ:St) (ho:ops[r.i]?=some r.o) (hw:wanted ops r.S r.o=false) (hv:r.v=undef)
      (h:Cert P call ops ms base S' σ' rs Cs Es pend (r.S.store r.o.dst r.v) σ):Cert P call ops ms base S' σ' (r::rs) Cs Es pend r.S σ
 |pure (r:Rec) (rs:List Rec) (Cs:List St) (Es:List Nat) (pend:List jC) (σ:St) (ho:ops[r.i]?=some r.o) (hw:wanted ops r.S r.o=true) (hk:aP r.o= .pure) (hv:fQ P (ev r.S) r.o=some r.v)
      (h:Cert P call ops ms base S' σ' rs Cs Es pend (r.S.store r.o.dst r.v) σ):Cert P call ops ms base S' σ' (r::rs) Cs Es pend r.S σ
 |read (r:Rec) (rs:List Rec) (Cs:List St) (Es:List Nat) (pend:List jC) (σ:St) (ho:ops[r.i]?=some r.o) (hw:wanted ops r.S r.o=true) (hk:aP r.o= .read)
      (h:Cert P call ops ms base S' σ' rs Cs Es (⟨r.i,r.o,r.S,r.v,none⟩::pend) (r.S.store r.o.dst r.v) σ):Cert P call ops ms base S' σ' (r::rs) Cs Es pend r.S σ
 |alloc (r:Rec) (rs:List Rec) (Cs:List St) (Es:List Nat) (pend:List jC) (σ:St) (ob:AObj) (ho:ops[r.i]?=some r.o) (hw:wanted ops r.S r.o=true) (hk:aP r.o= .alloc) (hv:eA P (ev r.S) r.o (base+r.i)=some (r.v,ob))
      (h:Cert P call ops ms base S' σ' rs Cs Es (⟨r.i,r.o,r.S,r.v,some ob⟩::pend) (r.S.store r.o.dst r.v) (σ.put (base+r.i) ob)):Cert P call ops ms base S' σ' (r::rs) Cs Es pend r.S σ
 |eff (r:Rec) (rs:List Rec) (Cs:List St) (Es:List Nat) (pend:List jC) (σ σ1:St) (ho:ops[r.i]?=some r.o) (hw:wanted ops r.S r.o=true) (hk:aP r.o= .eff) (hc: ∀p∈pend,aAz P base σ p)
      (hv:aAK P call σ (ev r.S) r.o (base+r.i)=some (r.v,σ1)) (h:Cert P call ops ms base S' σ' rs Cs Es (pend.filter fun p=> !bit (ms.getD r.i 0) p.i) (r.S.store r.o.dst r.v) σ1):
      Cert P call ops ms base S' σ' (r::rs) (σ::Cs) (r.i::Es) pend r.S σ
theorem aCg: ∀(order:List Nat) (pend:List jC) (S:Slots) (σ:St),dK P call ops ms base order pend S σ=some (S',σ')→
    ∃rs Cs Es,rs.map (·.i)=order∧Cert P call ops ms base S' σ' rs Cs Es pend S σ:=by
 intro order;induction order with
 |nil=>
  intro pend S σ h;simp only[dK]at h;cases hc:pend.all (check P base σ)with
  |false=>rw[hc]at h;cases h
  |true=>
   rw[hc]at h;simp only[cdt,ojE,pjE]at h;obtain⟨rfl,rfl⟩:=h;exact⟨[],_,[],rfl,.nil pend fun p hp=>aD5 (List.all_eq_true.1 hc p hp)⟩
 |cons i rest ih=>
  intro pend S σ h;simp only[dK]at h;split at h<;>try cases h
  rename_i o ho;cases hw:wanted ops S o with
  |false=>
   rw[hw]at h;simp only[cdf]at h;obtain⟨rs,Cs,Es,hm,hC⟩:=ih _ _ _ h;exact⟨⟨i,o,S,undef⟩::rs,Cs,Es,by simp[hm],.skip ⟨i,o,S,undef⟩ rs Cs Es pend σ ho hw rfl hC⟩
  |true=>
   rw[hw]at h;simp only[cdt]at h;split at h
   ·rename_i hk;split at h<;>try cases h
    rename_i v hv;obtain⟨rs,Cs,Es,hm,hC⟩:=ih _ _ _ h;exact⟨⟨i,o,S,v⟩::rs,Cs,Es,by simp[hm],.pure ⟨i,o,S,v⟩ rs Cs Es pend σ ho hw hk hv hC⟩
   ·rename_i hk;split at h<;>try cases h
    rename_i v hv;obtain⟨rs,Cs,Es,hm,hC⟩:=ih _ _ _ h;exact⟨⟨i,o,S,v⟩::rs,Cs,Es,by simp[hm],.read ⟨i,o,S,v⟩ rs Cs Es pend σ ho hw hk hC⟩
   ·rename_i hk;split at h<;>try cases h
    rename_i v ob hv;obtain⟨rs,Cs,Es,hm,hC⟩:=ih _ _ _ h;exact⟨⟨i,o,S,v⟩::rs,Cs,Es,by simp[hm],.alloc ⟨i,o,S,v⟩ rs Cs Es pend σ ob ho hw hk hv hC⟩
   ·rename_i hk;cases hc:pend.all (check P base σ)with
    |false=>rw[hc]at h;cases h
    |true=>
     rw[hc]at h;simp only[cdt]at h;split at h<;>try cases h
     rename_i v σ1 hv;obtain⟨rs,Cs,Es,hm,hC⟩:=ih _ _ _ h;exact⟨⟨i,o,S,v⟩::rs,σ::Cs,i::Es,by simp[hm],.eff ⟨i,o,S,v⟩ rs Cs Es pend σ σ1 ho hw hk (fun p hp=>aD5 (List.all_eq_true.1 hc p hp)) hv hC⟩
theorem Cert.lens{rs:List Rec}{Cs:List St}{Es:List Nat}{pend:List jC}{S:Slots}{σ:St}(h:Cert P call ops ms base S' σ' rs Cs Es pend S σ):Cs.length=Es.length+1∧Cs[Es.length]?=some σ':=by
 induction h with
 |nil=>exact⟨rfl,rfl⟩
 |skip=>assumption
 |pure=>assumption
 |read=>assumption
 |alloc=>assumption
 |eff r rs Cs Es pend σ σ1 ho hw hk hc hv h ih=>exact⟨by simp[ih.1],by simpa using ih.2⟩
theorem Cert.pending{rs:List Rec}{Cs:List St}{Es:List Nat}{pend:List jC}{S:Slots}{σ:St}(h:Cert P call ops ms base S' σ' rs Cs Es pend S σ):
    ∀p∈pend,∀(j:Nat) (s:St),Cs[j]?=some s→(∀(q e:Nat),q<j→Es[q]?=some e→bit (ms.getD e 0) p.i=false)→aAz P base s p:=by
 induction h with
 |nil pend h=>
  intro p hp j s hj _;cases j with
  |zero=>simp at hj;subst hj;exact h p hp
  |succ j=>simp at hj
 |skip r rs Cs Es pend σ ho hw hv h ih=>exact ih
 |pure r rs Cs Es pend σ ho hw hk hv h ih=>exact ih
 |read r rs Cs Es pend σ ho hw hk h ih=>exact fun p hp=>ih p (mtE _ hp)
 |alloc r rs Cs Es pend σ ob ho hw hk hv h ih=>exact fun p hp=>ih p (mtE _ hp)
 |eff r rs Cs Es pend σ σ1 ho hw hk hc hv h ih=>
  intro p hp j s hj hq;cases j with
  |zero=>simp at hj;subst hj;exact hc p hp
  |succ j=>
   have hb:=hq 0 r.i (by omega) (by simp)
   exact ih p (List.mem_filter.2 ⟨hp,by simp only[hb,Bool.not_false]⟩) j s (by simpa using hj) (fun q e hqj he=>hq (q+1) e (by omega) (by simpa using he))
variable{w0:W0}
theorem Cert.first{rs:List Rec}{Cs:List St}{Es:List Nat}{pend:List jC}{S:Slots}{σ:St}(h:Cert P call ops ms base S' σ' rs Cs Es pend S σ):
    ∃s,Cs[0]?=some s∧s.next=σ.next∧∀(μ:Mp) (w:World),(∀r∈rs,μ (base+r.i)=none)→Sim w0 P μ σ w→Sim w0 P μ s w:=by
 induction h with
 |nil pend h=>exact⟨_,rfl,rfl,fun _ _ _ h=>h⟩
 |skip r rs Cs Es pend σ ho hw hv h ih=>obtain⟨s,h1,h2,h3⟩:=ih;exact⟨s,h1,h2,fun μ w hn hS=>h3 μ w (fun r hr=>hn r (mtE _ hr)) hS⟩
 |pure r rs Cs Es pend σ ho hw hk hv h ih=>obtain⟨s,h1,h2,h3⟩:=ih;exact⟨s,h1,h2,fun μ w hn hS=>h3 μ w (fun r hr=>hn r (mtE _ hr)) hS⟩
 |read r rs Cs Es pend σ ho hw hk h ih=>obtain⟨s,h1,h2,h3⟩:=ih;exact⟨s,h1,h2,fun μ w hn hS=>h3 μ w (fun r hr=>hn r (mtE _ hr)) hS⟩
 |alloc r rs Cs Es pend σ ob ho hw hk hv h ih=>
  obtain⟨s,h1,h2,h3⟩:=ih;exact⟨s,h1,h2,fun μ w hn hS=>h3 μ w (fun r hr=>hn r (mtE _ hr)) (hS.put_new (hn r (by simp)) (fun cs m g u e1 e2=>by have:=uD hv cs m g u e1 e2;omega))⟩
 |eff r rs Cs Es pend σ σ1 ho hw hk hc hv h ih=>exact⟨σ,rfl,rfl,fun _ _ _ h=>h⟩
theorem Cert.at_eff{rs:List Rec}{Cs:List St}{Es:List Nat}{pend:List jC}{S:Slots}{σ:St}(h:Cert P call ops ms base S' σ' rs Cs Es pend S σ){q e:Nat}(he:Es[q]?=some e):
    e<ops.size∧∃r∈rs,r.i=e∧ops[e]?=some r.o∧aP r.o= .eff∧wanted ops r.S r.o=true:=by
 induction h generalizing q with
 |nil=>simp at he
 |skip r rs Cs Es pend σ ho hw hv h ih=>obtain⟨h1,r',h2,h3⟩:=ih he;exact⟨h1,r',mtE _ h2,h3⟩
 |pure r rs Cs Es pend σ ho hw hk hv h ih=>obtain⟨h1,r',h2,h3⟩:=ih he;exact⟨h1,r',mtE _ h2,h3⟩
 |read r rs Cs Es pend σ ho hw hk h ih=>obtain⟨h1,r',h2,h3⟩:=ih he;exact⟨h1,r',mtE _ h2,h3⟩
 |alloc r rs Cs Es pend σ ob ho hw hk hv h ih=>obtain⟨h1,r',h2,h3⟩:=ih he;exact⟨h1,r',mtE _ h2,h3⟩
 |eff r rs Cs Es pend σ σ1 ho hw hk hc hv h ih=>
  cases q with
  |zero=>simp at he;subst he;exact⟨(Array.getElem?_eq_some_iff.1 ho).1,r,by simp,rfl,ho,hk,hw⟩
  |succ q=>obtain⟨h1,r',h2,h3⟩:=ih (q:=q) (by simpa using he);exact⟨h1,r',mtE _ h2,h3⟩
theorem Cert.effs_nodup{rs:List Rec}{Cs:List St}{Es:List Nat}{pend:List jC}{S:Slots}{σ:St}(h:Cert P call ops ms base S' σ' rs Cs Es pend S σ)(hn:(rs.map (·.i)).Nodup):Es.Nodup:=by
 induction h with
 |nil=>exact List.nodup_nil
 |skip r rs Cs Es pend σ ho hw hv h ih=>exact ih (List.nodup_cons.1 hn).2
 |pure r rs Cs Es pend σ ho hw hk hv h ih=>exact ih (List.nodup_cons.1 hn).2
 |read r rs Cs Es pend σ ho hw hk h ih=>exact ih (List.nodup_cons.1 hn).2
 |alloc r rs Cs Es pend σ ob ho hw hk hv h ih=>exact ih (List.nodup_cons.1 hn).2
 |eff r rs Cs Es pend σ σ1 ho hw hk hc hv h ih=>
  have hn':=List.nodup_cons.1 hn;refine List.nodup_cons.2 ⟨fun hm=>hn'.1 ?_,ih hn'.2⟩
  obtain⟨q,hq⟩:=List.getElem?_of_mem hm;obtain⟨_,r',h2,h3,_⟩:=h.at_eff hq;exact List.mem_map.2 ⟨r',h2,h3⟩
theorem sF{α:Type}: ∀(l:List α),(∀l1 i l2,l=l1++i::l2→i∉l1)→l.Nodup:=by
 intro l;induction l with
 |nil=>intro _;exact List.nodup_nil
 |cons a t ih=>
  intro h;refine List.nodup_cons.2 ⟨fun hm=>?_,ih fun l1 i l2 e=>fun hi=>h (a::l1) i l2 (by rw[e];rfl) (mtE _ hi)⟩
  obtain⟨m1,m2,e⟩:=List.append_of_mem hm;exact h (a::m1) a m2 (by rw[e];rfl) (by simp)
def eX(w0:W0)(P:Program)(call:FuncId→Array Value→St→Option (Value×St))(ops:Array Oper)(ms:List Nat)(base:Nat)(Cs:List St)(Es:List Nat)(later:List Rec)(r:Rec)(je:Nat):Prop:=
 (wanted ops r.S r.o=false∧r.v=undef)∨
 (wanted ops r.S r.o=true∧aP r.o= .pure∧fQ P (ev r.S) r.o=some r.v)∨
 (wanted ops r.S r.o=true∧aP r.o= .read∧∀(j:Nat) (s:St),je≤j→Cs[j]?=some s→(∀(q e:Nat),je≤q→q<j→Es[q]?=some e→bit (ms.getD e 0) r.i=false)→gO P s (ev r.S) r.o=some r.v)∨
 (wanted ops r.S r.o=true∧aP r.o= .alloc∧∃ob,eA P (ev r.S) r.o (base+r.i)=some (r.v,ob)∧
  ∀(j:Nat) (s:St),je≤j→Cs[j]?=some s→(∀(q e:Nat),je≤q→q<j→Es[q]?=some e→bit (ms.getD e 0) r.i=false)→s.get (base+r.i)=some ob)∨
 (wanted ops r.S r.o=true∧aP r.o= .eff∧Es[je]?=some r.i∧∃s σ1 s',Cs[je]?=some s∧aAK P call s (ev r.S) r.o (base+r.i)=some (r.v,σ1)∧Cs[je+1]?=some s'∧s'.next=σ1.next∧
  ∀(μ:Mp) (w:World),(∀r∈later,μ (base+r.i)=none)→Sim w0 P μ σ1 w→Sim w0 P μ s' w)
theorem Cert.at: ∀(l1:List Rec) (r:Rec) (l2:List Rec) (Cs:List St) (Es:List Nat) (pend:List jC) (S:Slots) (σ:St),Cert P call ops ms base S' σ' (l1++r::l2) Cs Es pend S σ→
    ops[r.i]?=some r.o∧∃je,je≤Es.length∧(∀q e,q<je→Es[q]?=some e→∃r'∈l1,r'.i=e∧gK r'.o=true∧ops[r'.i]?=some r'.o)∧eX w0 P call ops ms base Cs Es l2 r je:=by
 intro l1;induction l1 with
 |nil=>
  intro r l2 Cs Es pend S σ h;simp only[nlA]at h;cases h with
  |skip _ _ _ _ _ _ ho hw hv h=>exact⟨ho,0,Nat.zero_le _,fun q e hq=>by omega,.inl ⟨hw,hv⟩⟩
  |pure _ _ _ _ _ _ ho hw hk hv h=>exact⟨ho,0,Nat.zero_le _,fun q e hq=>by omega,.inr (.inl ⟨hw,hk,hv⟩)⟩
  |read _ _ _ _ _ _ ho hw hk h=>
   refine⟨ho,0,Nat.zero_le _,fun q e hq=>by omega,.inr (.inr (.inl ⟨hw,hk,fun j s _ hj hq=>?_⟩))⟩
   exact h.pending _ (mhE) j s hj (fun q e hqj he=>hq q e (by omega) hqj he)
  |alloc _ _ _ _ _ _ ob ho hw hk hv h=>
   refine⟨ho,0,Nat.zero_le _,fun q e hq=>by omega,.inr (.inr (.inr (.inl ⟨hw,hk,ob,hv,fun j s _ hj hq=>?_⟩)))⟩
   exact h.pending _ (mhE) j s hj (fun q e hqj he=>hq q e (by omega) hqj he)
  |eff _ _ Cs' Es' _ _ σ1 ho hw hk hc hv h=>
   obtain⟨s',h1,h2,h3⟩:=h.first (w0:=w0)
   exact⟨ho,0,Nat.zero_le _,fun q e hq=>by omega,.inr (.inr (.inr (.inr ⟨hw,hk,rfl,σ,σ1,s',rfl,hv,by simpa using h1,h2,h3⟩)))⟩
 |cons r0 l1 ih=>
  intro r l2 Cs Es pend S σ h;simp only[cnA]at h;have lift: ∀{Cs Es pend S σ},Cert P call ops ms base S' σ' (l1++r::l2) Cs Es pend S σ→ops[r.i]?=some r.o∧∃je,je≤Es.length∧(∀q e,q<je→Es[q]?=some e→∃r'∈r0::l1,r'.i=e∧gK r'.o=true∧ops[r'.i]?=some r'.o)∧eX w0 P call ops ms base Cs Es l2 r je:=by
   intro Cs Es pend S σ h;obtain⟨h1,je,h0,h2,h3⟩:=ih r l2 Cs Es pend S σ h;exact⟨h1,je,h0,fun q e hq he=>let ⟨r',hr',hh⟩:=h2 q e hq he;⟨r',mtE _ hr',hh⟩,h3⟩
  cases h with
  |skip _ _ _ _ _ _ ho hw hv h=>exact lift h
  |pure _ _ _ _ _ _ ho hw hk hv h=>exact lift h
  |read _ _ _ _ _ _ ho hw hk h=>exact lift h
  |alloc _ _ _ _ _ _ ob ho hw hk hv h=>exact lift h
  |eff _ _ Cs' Es' _ _ σ1 ho hw hk hc hv h=>
   obtain⟨h1,je,h0,h2,h3⟩:=ih r l2 Cs' Es' _ _ _ h;refine⟨h1,je+1,by simp;omega,fun q e hq he=>?_,?_⟩
   ·cases q with
    |zero=>simp at he;subst he;exact⟨r0,by simp,rfl,by simp[gK,hk],ho⟩
    |succ q=>obtain⟨r',hr',hh⟩:=h2 q e (by omega) (by simpa using he);exact⟨r',mtE _ hr',hh⟩
   ·rcases h3 with h3|h3|⟨a,b,c⟩|⟨a,b,ob,c,d⟩|⟨a,b,c,s,σ2,s',d⟩
    ·exact .inl h3
    ·exact .inr (.inl h3)
    ·refine .inr (.inr (.inl ⟨a,b,fun j s hj hs hq=>?_⟩))
     cases j with
     |zero=>omega
     |succ j=>exact c j s (by omega) (by simpa using hs) (fun q e h1 h2 he=>hq (q+1) e (by omega) (by omega) (by simpa using he))
    ·refine .inr (.inr (.inr (.inl ⟨a,b,ob,c,fun j s hj hs hq=>?_⟩)))
     cases j with
     |zero=>omega
     |succ j=>exact d j s (by omega) (by simpa using hs) (fun q e h1 h2 he=>hq (q+1) e (by omega) (by omega) (by simpa using he))
    ·exact .inr (.inr (.inr (.inr ⟨a,b,by simpa using c,s,σ2,s',by simpa using d⟩)))
theorem Cert.slots: ∀(l1:List Rec) (l2:List Rec) (Cs:List St) (Es:List Nat) (pend:List jC) (S:Slots) (σ:St) (T:Slots),Cert P call ops ms base S' σ' (l1++l2) Cs Es pend S σ→
    (∀r l3,l2=r::l3→r.S=T)→(l2=[]→S'=T)→∀x,((∀r∈l1,r.o.dst≠some x)→T.at x=S.at x)∧
      (∀p1 r p2,l1=p1++r::p2→r.o.dst=some x→(∀r'∈p2,r'.o.dst≠some x)→T.at x=r.v):=by
 intro l1;induction l1 with
 |nil=>
  intro l2 Cs Es pend S σ T h hT hT' x;simp only[nlA]at h;have:T=S:=by
   cases l2 with
   |nil=>rw[←hT' rfl];cases h;rfl
   |cons r l3=>rw[←hT r l3 rfl];cases h<;>rfl
  subst this;exact⟨fun _=>rfl,fun p1 r p2 e=>by simp at e⟩
 |cons r0 l1 ih=>
  intro l2 Cs Es pend S σ T h hT hT' x;simp only[cnA]at h;have main: ∀{Cs Es pend σ},Cert P call ops ms base S' σ' (l1++l2) Cs Es pend (S.store r0.o.dst r0.v) σ→((∀r∈r0::l1,r.o.dst≠some x)→T.at x=S.at x)∧
   (∀p1 r p2,r0::l1=p1++r::p2→r.o.dst=some x→(∀r'∈p2,r'.o.dst≠some x)→T.at x=r.v):=by
   intro Cs Es pend σ h;obtain⟨h1,h2⟩:=ih l2 Cs Es pend _ σ T h hT hT' x;refine⟨fun hn=>?_,fun p1 r p2 e hd hn=>?_⟩
   ·rw[h1 (fun r hr=>hn r (mtE _ hr)),Slots.at_store,if_neg (hn r0 (by simp))]
   ·cases p1 with
    |nil=>
     simp only[nlA,List.cons.injEq]at e;obtain⟨rfl,rfl⟩:=e;rw[h1 hn,Slots.at_store,if_pos hd]
    |cons p p1=>
     simp only[cnA,List.cons.injEq]at e;exact h2 p1 r p2 e.2 hd hn
  cases h with
  |skip _ _ _ _ _ _ ho hw hv h=>exact main h
  |pure _ _ _ _ _ _ ho hw hk hv h=>exact main h
  |read _ _ _ _ _ _ ho hw hk h=>exact main h
  |alloc _ _ _ _ _ _ ob ho hw hk hv h=>exact main h
  |eff _ _ Cs' Es' _ _ σ1 ho hw hk hc hv h=>exact main h
theorem bit_or(a b i:Nat):bit (a|||b) i=(bit a i||bit b i):=by
 have h: ∀m,bit m i=m.testBit i:=by
  intro m;unfold bit;rw[cJ,Nat.testBit_eq_decide_div_mod_eq,Nat.shiftRight_eq_div_pow]
 rw[h,h,h,Nat.testBit_or]
theorem aIm(j i:Nat):bit (1<<<j) i=decide (i=j):=by
 unfold bit;have:(1<<<j>>>i)%2=if i=j then 1 else 0:=by
  have h:=Nat.testBit_eq_decide_div_mod_eq (x:=1<<<j) (i:=i);rw[←Nat.shiftRight_eq_div_pow]at h;have h2:(1<<<j).testBit i=decide (i=j):=by
   rw[Nat.one_shiftLeft,Nat.testBit_two_pow];by_cases e:j=i
   ·subst e;simp
   ·simp[e,Ne.symm e]
  rw[h2]at h;by_cases e:i=j
  ·rw[if_pos e];simp only[e,decide_true]at h;have:=of_decide_eq_true h.symm;rw[e];exact this
  ·rw[if_neg e];simp only[e,decide_false]at h;have:=of_decide_eq_false h.symm;omega
 rw[this,cJ];by_cases e:i=j<;>simp[e]
theorem aEd(i:Nat):bit 0 i=false:=by simp[bit,cJ]
theorem aA3(ps:List Nat)(o:Oper)(j:Nat)(h:bit (mH ps o) j=true): ∃e∈o.after,Region.binds .any e=true∧(e.on=j∨(e.on<ps.length∧bit (ps.getD e.on 0) j=true)):=by
 unfold mH at h;have main: ∀(l:List Edge) (m:Nat),bit (l.foldl (fun m e=>bif Region.binds .any e then(m|||(1<<<e.on))|||ps.getD e.on 0 else m) m) j=true→bit m j=true∨∃e∈l,Region.binds .any e=true∧(e.on=j∨(e.on<ps.length∧bit (ps.getD e.on 0) j=true)):=by
  intro l;induction l with
  |nil=>intro m h;exact .inl h
  |cons e l ih=>
   intro m h;simp only[List.foldl_cons]at h;rcases ih _ h with h|⟨e',he',h⟩
   ·cases hb:Region.binds .any e with
    |false=>rw[hb]at h;exact .inl h
    |true=>
     rw[hb]at h;simp only[cdt,bit_or,aIm,Bool.or_eq_true,djE]at h;rcases h with(h|h)|h
     ·exact .inl h
     ·exact .inr ⟨e,by simp,hb,.inl h.symm⟩
     ·refine .inr ⟨e,by simp,hb,.inr ⟨?_,h⟩⟩
      rcases Nat.lt_or_ge e.on ps.length with hl|hl
      ·exact hl
      ·rw[List.getD_eq_getElem?_getD,List.getElem?_eq_none hl]at h;simp[aEd]at h
   ·exact .inr ⟨e',mtE _ he',h⟩
 rcases main _ _ h with h|⟨e,he,h⟩
 ·rw[aEd]at h;cases h
 ·exact⟨e,Array.mem_toList_iff.1 he,h⟩
theorem aHi: ∀(l:List Oper) (ps:List Nat) (i:Nat),(∀(h:i<ps.length),(dV l ps).getD i 0=ps.getD i 0)∧(∀(k:Nat) (o:Oper),i=ps.length+k→l[k]?=some o→∃qs,(dV l ps).getD i 0=mH qs o∧qs.length=i∧∀j,j<i→qs.getD j 0=(dV l ps).getD j 0):=by
 intro l;induction l with
 |nil=>intro ps i;exact⟨fun _=>rfl,fun k o _ h=>by simp at h⟩
 |cons o l ih=>
  intro ps i;simp only[dV];have hpre: ∀j,j<ps.length→(ps++ [mH ps o]).getD j 0=ps.getD j 0:=fun j hj=>by
   simp only[List.getD_eq_getElem?_getD,List.getElem?_append_left hj]
  refine⟨fun h=>?_,fun k o' hi hk=>?_⟩
  ·rw[(ih (ps++ [mH ps o]) i).1 (by simp;omega),hpre i h]
  ·cases k with
   |zero=>
    simp only[gcZ,ojE]at hk;subst hk;refine⟨ps,?_,by omega,fun j hj=>?_⟩
    ·rw[(ih (ps++ [mH ps o]) i).1 (by simp;omega)]
     simp[List.getD_eq_getElem?_getD,hi]
    ·rw[(ih (ps++ [mH ps o]) j).1 (by simp;omega),hpre j (by omega)]
   |succ k=>exact(ih (ps++ [mH ps o]) i).2 k o' (by simp;omega) (by simpa using hk)
structure aAy(ops:Array Oper)(ms:List Nat)(order:List Nat):Prop where
 edge: ∃rk:Nat→Nat,∀i o e,ops[i]?=some o→e∈o.after→Region.binds .any e=true→rk e.on<rk i∧e.on<ops.size
 mask: ∀i o j,ops[i]?=some o→bit (ms.getD i 0) j=true→∃e∈o.after,Region.binds .any e=true∧(e.on=j∨(e.on<i∧bit (ms.getD e.on 0) j=true))
 guard: ∀i o j b,ops[i]?=some o→o.guard=some (j,b)→bit (ms.getD i 0) j=true∧j<ops.size
 haz: ∀(i j:Nat) (o o':Oper) (d:Tmp),i≠j→ops[i]?=some o→ops[j]?=some o'→o'.dst=some d→d∈o.looksAt ops→bit (ms.getD i 0) j=true∨bit (ms.getD j 0) i=true
 dsts: ∀(i j:Nat) (o o':Oper) (d:Tmp),i≠j→ops[i]?=some o→ops[j]?=some o'→o.dst=some d→o'.dst=some d→False
 split: ∀l1 i l2,order=l1++i::l2→i<ops.size∧i∉l1∧(∀j,j<ops.size→bit (ms.getD i 0) j=true→j∈l1)∧(∀e o,e∈l1→ops[e]?=some o→gK o=true→bit (ms.getD i 0) e=true)
 all: ∀i,i<ops.size→i∈order
theorem aGc: ∀(order done:List Nat),topo ops ms order done=true→
    (∀l1 i l2,order=l1++i::l2→i<ops.size∧i∉l1∧i∉done∧(∀j,j<ops.size→bit (ms.getD i 0) j=true→j∈l1∨j∈done)∧(∀e o,(e∈l1∨e∈done)→ops[e]?=some o→gK o=true→bit (ms.getD i 0) e=true))∧
    (∀i,i<ops.size→i∈order∨i∈done):=by
 intro order;induction order with
 |nil=>
  intro done h;simp only[topo,List.all_eq_true,List.mem_range,List.contains_iff_mem]at h;exact⟨fun l1 i l2 e=>by simp at e,fun i hi=> .inr (h i hi)⟩
 |cons a rest ih=>
  intro done h;simp only[topo,bjE,fP,djE,List.all_eq_true,List.mem_range,Bool.or_eq_true,Bool.not_eq_true',List.contains_iff_mem]at h;obtain⟨⟨⟨⟨h1,h2⟩,h3⟩,h4⟩,h5⟩:=h;obtain⟨g1,g2⟩:=ih _ h5;have hnd:a∉done:=by intro hm;rw[List.contains_iff_mem.2 hm]at h2;cases h2
  refine⟨fun l1 i l2 e=>?_,fun i hi=>?_⟩
  ·cases l1 with
   |nil=>
    simp only[nlA,List.cons.injEq]at e;obtain⟨rfl,rfl⟩:=e;refine⟨h1,by simp,hnd,fun j hj hb=>?_,fun e o he ho hef=>?_⟩
    ·rcases h3 j hj with hh|hh
     ·rw[hb]at hh;cases hh
     ·exact .inr hh
    ·rcases he with he|he
     ·cases he
     ·rcases h4 e he with hh|hh
      ·simp[effAt,ho,hef]at hh
      ·exact hh
   |cons b l1=>
    simp only[cnA,List.cons.injEq]at e;obtain⟨rfl,e⟩:=e;obtain⟨k1,k2,k3,k4,k5⟩:=g1 l1 i l2 e;simp only[List.mem_cons,not_or]at k3;refine⟨k1,by simp only[List.mem_cons,not_or];exact⟨k3.1,k2⟩,k3.2,fun j hj hb=>?_,fun e o he=>k5 e o ?_⟩
    ·rcases k4 j hj hb with h|h
     ·exact .inl (mtE _ h)
     ·rcases List.mem_cons.1 h with h|h
      ·exact .inl (by simp[h])
      ·exact .inr h
    ·rcases he with he|he
     ·rcases List.mem_cons.1 he with h|h
      ·exact .inr (by simp[h])
      ·exact .inl h
     ·exact .inr (mtE _ he)
  ·rcases g2 i hi with h|h
   ·exact .inl (mtE _ h)
   ·rcases List.mem_cons.1 h with h|h
    ·exact .inl (by simp[h])
    ·exact .inr h
theorem drawOKG{rk:Nat→Nat}{order:List Nat}(h:vL rk ops order=true):aAy ops (dV ops.toList []) order:=by
 unfold vL at h;simp only[bjE,List.all_eq_true]at h;obtain⟨ht,hl⟩:=h;obtain⟨t1,t2⟩:=aGc _ _ ht;have mem: ∀{i o},ops[i]?=some o→(o,i)∈ops.toList.zipIdx:=by
  intro i o ho;rw[List.mem_zipIdx_iff_getElem?];simpa using ho
 refine⟨?_,?_,?_,?_,?_,?_,?_⟩
 ·refine⟨rk,?_⟩;intro i o e ho he hb;have:=(hl _ (mem ho)).1.1;have:=this e (Array.mem_toList_iff.2 he);simp only[hb,bnT,Bool.false_or,fP,bjE,djE]at this;exact this
 ·intro i o j ho hb;have hlo:ops.toList[i]?=some o:=by simpa using ho
  obtain⟨qs,h1,h2,h3⟩:=(aHi ops.toList [] i).2 i o (by simp) hlo
  rw[h1]at hb;obtain⟨e,he,hbe,hor⟩:=aA3 qs o j hb;refine⟨e,he,hbe,hor.imp id fun⟨hlt,hbit⟩=>⟨by omega,?_⟩⟩
  rw[h3 e.on (by omega)]at hbit;exact hbit
 ·intro i o j b ho hg;have:=(hl _ (mem ho)).1.2;simp only[hg,bjE,fP,djE]at this;exact this
 ·intro i j o o' d hij ho ho' hd hlook;have:=(hl _ (mem ho)).2 _ (mem ho');simp only[aDN,cJ,hij,decide_false,Bool.false_or,hd,bjE,Bool.or_eq_true]at this;rcases this.1 with(h|h)|h
  ·exact .inl h
  ·exact .inr h
  ·rw[List.contains_iff_mem.2 hlook]at h;cases h
 ·intro i j o o' d hij ho ho' hd hd';have:=(hl _ (mem ho)).2 _ (mem ho');simp only[aDN,cJ,hij,decide_false,Bool.false_or,hd,hd',bjE,decide_true,bnT]at this;exact absurd this.2 (by simp)
 ·intro l1 i l2 e;obtain⟨h1,h2,h3,h4,h5⟩:=t1 l1 i l2 e;exact⟨h1,h2,fun j hj hb=>(h4 j hj hb).resolve_right (by simp),fun e o he=>h5 e o (.inl he)⟩
 ·intro i hi;exact(t2 i hi).resolve_right (by simp)
theorem okDraw_G(h:yF ops=true):vL (fun i=>i) ops (sK ops (dV ops.toList []))=true:=by
 unfold yF at h;unfold vL;simp only[bjE,List.all_eq_true]at h⊢;obtain⟨ht,hl⟩:=h;refine⟨ht,fun x hx=>?_⟩
 obtain⟨⟨h1,h2⟩,h3⟩:=hl x hx;refine⟨⟨fun e he=>?_,h2⟩,h3⟩
 have h4:=h1 e he;cases hb:Region.binds .any e with
 |false=>rfl
 |true=>
  rw[hb]at h4;simp only[bnT,Bool.false_or,fP,djE,bjE]at h4⊢;have hx':ops.toList[x.2]?=some x.1:=by
   have:=List.mem_zipIdx_iff_getElem?.1 (show(x.1,x.2)∈ops.toList.zipIdx from hx)
   exact this
  have hi:=(List.getElem?_eq_some_iff.1 hx').1;exact⟨h4,by have:ops.toList.length=ops.size:=Array.length_toList;omega⟩
theorem drawOK(h:yF ops=true):aAy ops (dV ops.toList []) (sK ops (dV ops.toList [])):=drawOKG (okDraw_G h)
structure aFK(w0:W0)(P:Program)(ops:Array Oper)(base N n0:Nat)(S0:Slots)(rs:List Rec)(Cs:List St)(Es:List Nat)(μ0:Mp)(listed:Array Bool)(a:Act)(w:World)(μ:Mp)(k:Nat)(s:St):Prop where
 size:listed.size=ops.size
 closed: ∀(i:Nat) (o:Oper) (e:Edge),ops[i]?=some o→listed.getD i false=true→e∈o.after→Region.binds .any e=true→listed.getD e.on false=true
 count: ∀(q e:Nat),Es[q]?=some e→(listed.getD e false=true↔q<k)
 state:Cs[k]?=some s
 sim:Sim w0 P μ s w
 next:base+ops.size≤s.next
 none: ∀i,i<ops.size→listed.getD i false=false→μ (base+i)=none
 ext:Ext n0 μ0 μ
 tsize:N≤a.tmps.size
 defers:a.defers=[]
 here: ∀r∈rs,listed.getD r.i false=true→∀x,r.o.dst=some x→VR μ r.v (a.tmps.getD x undef)
 there: ∀x,(∀r∈rs,listed.getD r.i false=true→r.o.dst≠some x)→VR μ (S0.at x) (a.tmps.getD x undef)
theorem getD_set(listed:Array Bool)(i j:Nat)(h:i<listed.size):(listed.setIfInBounds i true).getD j false=if j=i then true else listed.getD j false:=by
 by_cases e:j=i
 ·subst e;rw[if_pos rfl];simp[Array.getD_eq_getD_getElem?,h]
 ·rw[if_neg e,getD_set_ne false (Ne.symm e)]
theorem iC{order:List Nat}(D:aAy ops ms order){listed:Array Bool}
    (closed: ∀(i:Nat) (o:Oper) (e:Edge),ops[i]?=some o→listed.getD i false=true→e∈o.after→Region.binds .any e=true→listed.getD e.on false=true):
    ∀(i j:Nat) (o:Oper),ops[i]?=some o→(∀e∈o.after,Region.binds .any e=true→listed.getD e.on false=true)→bit (ms.getD i 0) j=true→listed.getD j false=true:=by
 intro i;induction i using Nat.strongRecOn with
 |_ i ih=>
  intro j o ho hall hb;obtain⟨e,he,hbe,hor⟩:=D.mask i o j ho hb;have hl:=hall e he hbe;rcases hor with rfl|⟨hlt,hbit⟩
  ·exact hl
  ·have hio:i<ops.size:=(Array.getElem?_eq_some_iff.1 ho).1;have hoe:ops[e.on]?=some (ops[e.on]'(by omega)):=Array.getElem?_eq_getElem _
   exact ih e.on hlt j _ hoe (fun e' he' hb'=>closed e.on _ e' hoe hl he' hb') hbit
theorem dY{listed:Array Bool}{i:Nat}(h:listed.getD i true=false):listed.getD i false=false∧i<listed.size:=by
 rw[Array.getD_eq_getD_getElem?]at h⊢;cases hc:listed[i]? with
 |none=>simp[hc]at h
 |some b=>simp[hc]at h⊢;exact⟨h,(Array.getElem?_eq_some_iff.1 hc).1⟩
def unl(listed:Array Bool):Nat:=(listed.toList.filter fun b=> !b).length
theorem aF8{listed:Array Bool}{i:Nat}(h:listed.getD i true=false):unl (listed.setIfInBounds i true)+1=unl listed:=by
 obtain⟨_,hi⟩:=dY h;have hv:listed[i]=false:=by rw[Array.getD_eq_getD_getElem?,Array.getElem?_eq_getElem hi]at h;simpa using h
 unfold unl;rw[Array.toList_setIfInBounds];have main: ∀(l:List Bool) (i:Nat) (hi:i<l.length),l[i]=false→((l.set i true).filter fun b=> !b).length+1=(l.filter fun b=> !b).length:=by
  intro l;induction l with
  |nil=>intro i hi;simp at hi
  |cons b l ih=>
   intro i hi hv;cases i with
   |zero=>simp at hv;subst hv;simp
   |succ i=>
    have:=ih i (by simpa using hi) (by simpa using hv)
    cases b<;>simp[List.filter_cons]<;>omega
 exact main listed.toList i (by simpa using hi) (by simpa using hv)
theorem bN{α:Type}{l:List α}{x:α}(h:x∈l): ∃l1 l2,l=l1++x::l2:=List.append_of_mem h
theorem aFo(hcall:CallOK w0 P call){order:List Nat}(D:aAy ops ms order){N n0:Nat}(hok: ∀o∈ops.toList,mE P N o=true){rs:List Rec}{Cs:List St}{Es:List Nat}{S0:Slots}{σ0:St}{μ0:Mp}(hn0:n0≤base)
    (C:Cert P call ops ms base S' σ' rs Cs Es [] S0 σ0) (hrs:rs.map (·.i)=order) {Q:Exit→Act→World→Prop} (hpost:kJ w0 P μ0 n0 N S' σ' (Q .normal)):
    (∀(listed:Array Bool) (a:Act) (w:World) (μ:Mp) (k:Nat) (s:St),aFK w0 P ops base N n0 S0 rs Cs Es μ0 listed a w μ k s→(∀i,i<ops.size→listed.getD i false=true)→Q .normal a w)∧
    ∀(listed:Array Bool) (a:Act) (w:World) (μ:Mp) (k:Nat) (s:St),aFK w0 P ops base N n0 S0 rs Cs Es μ0 listed a w μ k s→∀i∈Region.ready .any ops listed,
      wpOp P ops Q i (fun a' w'=> ∃μ' k' s',aFK w0 P ops base N n0 S0 rs Cs Es μ0 (listed.setIfInBounds i true) a' w' μ' k' s') a w:=by
 have hrec: ∀i,i<ops.size→∃l1 r l2,rs=l1++r::l2∧r.i=i:=by
  intro i hi;have:=D.all i hi;rw[←hrs]at this;obtain⟨r,hr,rfl⟩:=List.mem_map.1 this;obtain⟨l1,l2,e⟩:=bN hr;exact⟨l1,r,l2,e,rfl⟩
 have hspl: ∀{l1 r l2},rs=l1++r::l2→r.i<ops.size∧(∀r'∈l1,r'.i≠r.i)∧(∀j,j<ops.size→bit (ms.getD r.i 0) j=true→∃r'∈l1,r'.i=j)∧(∀r' o,r'∈l1→ops[r'.i]?=some o→gK o=true→bit (ms.getD r.i 0) r'.i=true):=by
  intro l1 r l2 e;obtain⟨h1,h2,h3,h4⟩:=D.split (l1.map (·.i)) r.i (l2.map (·.i)) (by rw[←hrs,e];simp)
  refine⟨h1,fun r' hr' e'=>h2 (List.mem_map.2 ⟨r',hr',e'⟩),fun j hj hb=>?_,fun r' o hr' ho he=>h4 r'.i o (List.mem_map.2 ⟨r',hr',rfl⟩) ho he⟩
  obtain⟨r',hr',e'⟩:=List.mem_map.1 (h3 j hj hb);exact⟨r',hr',e'⟩
 have hro: ∀r∈rs,ops[r.i]?=some r.o:=by
  intro r hr;obtain⟨l1,l2,e⟩:=bN hr;rw[e]at C;exact(C.at (w0:=w0) l1 r l2).1
 have huniq: ∀r1∈rs,∀r2∈rs,r1.i=r2.i→r1=r2:=by
  intro r1 h1 r2 h2 e;obtain⟨l1,l2,e1⟩:=bN h1;rw[e1]at h2;rcases List.mem_append.1 h2 with h|h
  ·exact absurd e.symm ((hspl e1).2.1 r2 h)
  ·rcases List.mem_cons.1 h with h|h
   ·exact h.symm
   ·obtain⟨m1,m2,e2⟩:=bN h;exact absurd e ((hspl (l1:=l1++r1::m1) (r:=r2) (l2:=m2) (by rw[e1,e2];simp)).2.1 r1 (by simp))
 have fin: ∀(listed:Array Bool) (a:Act) (w:World) (μ:Mp) (k:Nat) (s:St),aFK w0 P ops base N n0 S0 rs Cs Es μ0 listed a w μ k s→(∀i,i<ops.size→listed.getD i false=true)→Q .normal a w:=by
  intro listed a w μ k s G hall;have hk:k=Es.length:=by
   obtain⟨hl,_⟩:=C.lens;have h1:k<Cs.length:=by
    rcases Nat.lt_or_ge k Cs.length with h|h
    ·exact h
    ·have:=G.state;rw[List.getElem?_eq_none h]at this;cases this
   rcases Nat.lt_or_ge k Es.length with h|h
   ·have he:=geG h;have hlt:Es[k]<ops.size:=by
     rcases Nat.lt_or_ge Es[k] ops.size with h'|h'
     ·exact h'
     ·have:listed.getD Es[k] false=false:=by rw[Array.getD_eq_getD_getElem?,Array.getElem?_eq_none (by rw[G.size];exact h')];rfl
      exact absurd ((C.at_eff he).1) (by omega)
    have:=(G.count k _ he).1 (hall _ hlt);omega
   ·omega
  subst hk;have hs:s=σ':=by have:=G.state;rw[C.lens.2]at this;cases this;rfl
  subst hs;refine hpost a w μ ⟨G.tsize,G.defers,fun x=>?_⟩ G.sim G.ext (by have:=G.next;omega)
  have hs:=Cert.slots rs [] Cs Es [] S0 σ0 S' (by simpa using C) (fun r l3 e=>by cases e) (fun _=>rfl) x
  by_cases hx: ∃r∈rs,r.o.dst=some x
  ·obtain⟨r,hr,hd⟩:=hx;obtain⟨l1,l2,e⟩:=bN hr;rw[hs.2 l1 r l2 e hd (fun r' hr' hd'=>by
    have hne:r.i≠r'.i:=by
     obtain⟨m1,m2,e2⟩:=bN hr';exact(hspl (l1:=l1++r::m1) (r:=r') (l2:=m2) (by rw[e,e2];simp)).2.1 r (by simp)
    exact D.dsts r.i r'.i r.o r'.o x hne (hro r hr) (hro r' (by rw[e];simp[hr'])) hd hd')]
   exact G.here r hr (hall _ (hspl e).1) x hd
  ·have hx': ∀r∈rs,r.o.dst≠some x:=fun r hr hd=>hx ⟨r,hr,hd⟩
   rw[hs.1 hx'];exact G.there x (fun r hr _=>hx' r hr)
 refine⟨fin,?_⟩;intro listed a w μ k s G i hi;obtain⟨h1,o,ho,hall⟩:=mem_ready.1 hi;obtain⟨h2,h3⟩:=dY h1;have hio:i<ops.size:=by rw[←G.size];exact h3
 obtain⟨l1,r,l2,hsplit,hri⟩:=hrec i hio;subst hri;have hrmem:r∈rs:=by rw[hsplit];simp
 have hor:r.o=o:=by have:=hro r hrmem;rw[ho]at this;cases this;rfl
 subst hor;have hok':=hok r.o (by have:ops.toList[r.i]?=some r.o:=(by simpa using ho);exact List.mem_of_getElem? this)
 obtain⟨sp1,sp2,sp3,sp4⟩:=hspl hsplit;have hml:=iC D G.closed r.i;have hsl:=Cert.slots l1 (r::l2) Cs Es [] S0 σ0 r.S (by rw[←hsplit];exact C) (fun r' l3 e=>by cases e;rfl) (fun e=>by cases e)
 have hlook: ∀x,x∈r.o.looksAt ops→VR μ (r.S.at x) (a.tmps.getD x undef):=by
  intro x hx;by_cases hex: ∃r'∈rs,r'.o.dst=some x
  ·obtain⟨r',hr',hd'⟩:=hex;have only: ∀r''∈rs,r''.o.dst=some x→r''=r':=by
    intro r'' hr'' hd'';by_cases e:r''.i=r'.i
    ·exact huniq _ hr'' _ hr' e
    ·exact(D.dsts _ _ _ _ x e (hro _ hr'') (hro _ hr') hd'' hd').elim
   by_cases e:r'.i=r.i
   ·have:r'=r:=huniq _ hr' _ hrmem e;subst this;rw[(hsl x).1 (fun r'' hr'' hd''=>by
     have:=only r'' (by rw[hsplit];simp[hr'']) hd''
     subst this;exact sp2 r'' hr'' rfl)]
    exact G.there x (fun r'' hr'' hl hd''=>by
     have:=only r'' hr'' hd'';subst this;rw[h2]at hl;cases hl)
   ·rcases D.haz r.i r'.i r.o r'.o x (Ne.symm e) ho (hro _ hr') hd' hx with hb|hb
    ·
     have hlst:=hml r'.i r.o ho hall hb;have hlt:r'.i<ops.size:=(Array.getElem?_eq_some_iff.1 (hro _ hr')).1;obtain⟨r'',hr'',e''⟩:=sp3 r'.i hlt hb;have:r''=r':=huniq _ (by rw[hsplit];simp[hr'']) _ hr' e''
     subst this;obtain⟨p1,p2,ep⟩:=bN hr'';rw[(hsl x).2 p1 r'' p2 ep hd' (fun q hq hdq=>by
      have hqr:q∈rs:=by rw[hsplit,ep];simp[hq]
      have:=only q hqr hdq;subst this;obtain⟨m1,m2,e2⟩:=bN hq;exact(hspl (l1:=p1++q::m1) (r:=q) (l2:=m2++r::l2) (by rw[hsplit,ep,e2];simp)).2.1 q (by simp) rfl)]
     exact G.here r'' hr' hlst x hd'
    ·
     have hnl:listed.getD r'.i false=false:=by
      cases hc:listed.getD r'.i false with
      |false=>rfl
      |true=>
       have:=iC D G.closed r'.i r.i r'.o (hro _ hr') (fun e he hbe=>G.closed r'.i r'.o e (hro _ hr') hc he hbe) hb
       rw[h2]at this;cases this
     have hnot:r'∉l1:=by
      intro hm;obtain⟨p1,p2,ep⟩:=bN hm;obtain⟨q,hq,eq⟩:=(hspl (l1:=p1) (r:=r') (l2:=p2++r::l2) (by rw[hsplit,ep];simp)).2.2.1 r.i hio hb
      exact sp2 q (by rw[ep];simp[hq]) eq
     rw[(hsl x).1 (fun r'' hr'' hd''=>by
      have:=only r'' (by rw[hsplit];simp[hr'']) hd''
      subst this;exact hnot hr'')]
     exact G.there x (fun r'' hr'' hl hd''=>by
      have:=only r'' hr'' hd'';subst this;rw[hnl]at hl;cases hl)
  ·have hex': ∀r'∈rs,r'.o.dst≠some x:=fun r' hr' hd'=>hex ⟨r',hr',hd'⟩
   rw[(hsl x).1 (fun r' hr'=>hex' r' (by rw[hsplit];simp[hr']))]
   exact G.there x (fun r' hr' _=>hex' r' hr')
 have hρ: ∀x∈r.o.op.operands,VR μ (ev r.S x) (a.eval x):=by
  intro x hx;have hokx:=tH hok' x hx;cases x with
  |tmp t=>
   refine hlook t ?_;unfold Oper.looksAt;exact List.mem_append.2 (.inl (List.mem_filterMap.2 ⟨.tmp t,Array.mem_toList_iff.2 hx,rfl⟩))
  |const v=>exact .same1 hokx
  |global g=>
   simp only[aI,fP,djE]at hokx;obtain⟨p,hp,hb,ho'⟩:=G.sim.glob g hokx;have:=VR.ptr (μ:=μ) g 0 p hp;rw[hb,ho']at this;exact this
  |func f=>exact .fn _ _ _ _ _ rfl (fun i x u h=>by simp at h) rfl (fun i x u h=>by simp at h)
 have hwant:wanted ops r.S r.o=Region.wanted r.o (yielded ops a.tmps):=by
  refine sN (μ:=μ) ops r.o (fun j want d hg hd=>hlook d ?_)
  unfold Oper.looksAt;rw[hg];exact List.mem_append.2 (.inr (by simp[hd]))
 have hlistd: ∀j,(listed.setIfInBounds r.i true).getD j false=if j=r.i then true else listed.getD j false:=fun j=>getD_set listed r.i j h3
 have step: ∀(a':Act) (w':World) (μ':Mp) (k':Nat) (s':St) (v':Value),a'=a.put r.o.dst v'→VR μ' r.v v'→Cs[k']?=some s'→Sim w0 P μ' s' w'→base+ops.size≤s'.next→
      (∀k p,μ k=some p→μ' k=some p)→(∀j,j<base+ops.size→j≠base+r.i→μ' j=μ j)→
      (∀(q e:Nat),Es[q]?=some e→((e=r.i∨listed.getD e false=true)↔q<k'))→aFK w0 P ops base N n0 S0 rs Cs Es μ0 (listed.setIfInBounds r.i true) a' w' μ' k' s':=by
  intro a' w' μ' k' s' v' ha' hv' hst hsim hnx hext hsame hcnt;have hdst:=nG hok';refine⟨by simp[G.size],?_,?_,hst,hsim,hnx,?_,?_,?_,?_,?_,?_⟩
  ·intro j oj e hoj hl he hbe;rw[hlistd]at hl⊢;split
   ·rfl
   ·split at hl
    ·rename_i ej;subst ej;rw[ho]at hoj;cases hoj;exact hall e he hbe
    ·exact G.closed j oj e hoj hl he hbe
  ·intro q e hq;rw[hlistd];rw[←hcnt q e hq];by_cases he:e=r.i
   ·simp[he]
   ·simp[he]
  ·intro j hj hl;rw[hlistd]at hl;split at hl
   ·cases hl
   ·rename_i hne;rw[hsame (base+j) (by omega) (by omega)]
    exact G.none j hj hl
  ·exact⟨fun k p hk=>hext k p (G.ext.1 k p hk),fun k hk=>(hsame k (by omega) (by omega)).trans (G.ext.2 k hk)⟩
  ·subst ha';have:=G.tsize;cases r.o.dst<;>simp[Act.put,this]
  ·subst ha';cases r.o.dst<;>simp[Act.put,G.defers]
  ·intro q hq hl x hd;subst ha';rw[vV _ _ _ _ (fun t e=>Nat.lt_of_lt_of_le (hdst t e) G.tsize)]
   rw[hlistd]at hl;by_cases e:q.i=r.i
   ·have:q=r:=huniq _ hq _ hrmem e;subst this;rw[if_pos hd];exact hv'
   ·rw[if_neg e]at hl;have hnd:r.o.dst≠some x:=fun hd'=>D.dsts q.i r.i q.o r.o x e (hro _ hq) ho hd hd'
    rw[if_neg hnd];exact(G.here q hq hl x hd).mono' hext
  ·intro x hx;subst ha';rw[vV _ _ _ _ (fun t e=>Nat.lt_of_lt_of_le (hdst t e) G.tsize)]
   have hnd:r.o.dst≠some x:=hx r hrmem (by rw[hlistd,if_pos rfl])
   rw[if_neg hnd];refine(G.there x fun q hq hl=>hx q hq ?_).mono' hext
   rw[hlistd];split
   ·rfl
   ·exact hl
 obtain⟨_,je,hjl,hje,hR⟩:=Cert.at (w0:=w0) l1 r l2 Cs Es [] S0 σ0 (by rw[←hsplit];exact C)
 have hjek: ∀q,q<je→∀e,Es[q]?=some e→q<k:=by
  intro q hq e he;obtain⟨r',hr',e',hef,ho'⟩:=hje q e hq he;have hb:=sp4 r' r'.o hr' ho' hef;have:=hml r'.i r.o ho hall hb;rw[e']at this;exact(G.count q e he).1 this
 have hkl:k≤Es.length:=by
  have h1:k<Cs.length:=by
   rcases Nat.lt_or_ge k Cs.length with h|h
   ·exact h
   ·have:=G.state;rw[List.getElem?_eq_none h]at this;cases this
  have:=C.lens.1;omega
 have hjk:je≤k:=by
  rcases Nat.lt_or_ge k je with h|h
  ·have hlt:k<Es.length:=by omega
   have:=hjek k h _ (geG hlt);omega
  ·exact h
 have notex:(wanted ops r.S r.o=false∨aP r.o≠ .eff)→∀(q e:Nat),Es[q]?=some e→((e=r.i∨listed.getD e false=true)↔q<k):=by
  intro hne q e he;have:e≠r.i:=by
   intro ee;obtain⟨_,r',h1',h2',h3',h4',h5'⟩:=C.at_eff he;have:r'=r:=huniq _ h1' _ hrmem (by rw[h2',ee])
   subst this;rcases hne with h|h
   ·rw[h]at h5';cases h5'
   ·exact h h4'
  simp only[this,false_or];exact G.count q e he
 have hlate: ∀(q e:Nat),je≤q→q<k→Es[q]?=some e→bit (ms.getD e 0) r.i=false:=by
  intro q e _ hqk he;cases hb:bit (ms.getD e 0) r.i with
  |false=>rfl
  |true=>
   obtain⟨_,r',h1',h2',h3',_⟩:=C.at_eff he;have hle:=(G.count q e he).2 hqk;have:=iC D G.closed e r.i r'.o h3' (fun e' he' hbe=>G.closed e r'.o e' h3' hle he' hbe) hb
   rw[h2]at this;cases this
 have hnone:=G.none r.i hio h2;have hltn:base+r.i<s.next:=by have:=G.next;omega
 unfold wpOp;rw[ho];simp only;rw[←hwant];rcases hR with⟨hw,hv⟩|⟨hw,hk,hv⟩|⟨hw,hk,hv⟩|⟨hw,hk,ob,hv,hob⟩|⟨hw,hk,hEs,s0,σ1,s',hCs,hv,hCs',hnx',htr⟩
 ·rw[hw];simp only[Bool.false_eq_true,if_false];exact⟨μ,k,s,step _ w μ k s undef rfl (by rw[hv];exact .undef) G.state G.sim G.next (fun _ _ h=>h) (fun _ _ _=>rfl) (notex (.inl hw))⟩
 ·rw[hw];simp only[if_true];refine .inl (Oper.wp_mono (fun a' w' hL=>?_) (aGN (base+r.i) G.sim hρ hv (Q:=Q)))
  obtain⟨μ',v',ha',hv',hZ,hext,hsame,hnx⟩:=hL;exact⟨μ',k,s,step a' w' μ' k s v' ha' hv' G.state hZ G.next hext (fun j hj hne=>hsame j (by have:=G.next;omega) hne) (notex (.inr (by rw[hk];simp)))⟩
 ·rw[hw];simp only[if_true];refine .inl (Oper.wp_mono (fun a' w' hL=>?_) (aGw (base+r.i) G.sim hρ (hv k s hjk G.state hlate) (Q:=Q)))
  obtain⟨μ',v',ha',hv',hZ,hext,hsame,hnx⟩:=hL;exact⟨μ',k,s,step a' w' μ' k s v' ha' hv' G.state hZ G.next hext (fun j hj hne=>hsame j (by have:=G.next;omega) hne) (notex (.inr (by rw[hk];simp)))⟩
 ·rw[hw];simp only[if_true];refine .inl (Oper.wp_mono (fun a' w' hL=>?_) (aEk G.sim hρ hnone hltn hv (hob k s hjk G.state hlate) (Q:=Q)))
  obtain⟨μ',v',ha',hv',hZ,hext,hsame,hnx⟩:=hL;exact⟨μ',k,s,step a' w' μ' k s v' ha' hv' G.state hZ G.next hext (fun j hj hne=>hsame j (by have:=G.next;omega) hne) (notex (.inr (by rw[hk];simp)))⟩
 ·rw[hw];simp only[if_true];have hje':je=k:=by
   rcases Nat.lt_or_ge je k with h|h
   ·have:=(G.count je r.i hEs).2 h;rw[h2]at this;cases this
   ·omega
  subst hje';have hs0:s0=s:=by have:=G.state;rw[hCs]at this;cases this;rfl
  subst hs0;refine .inl (Oper.wp_mono (fun a' w' hL=>?_) (eff_wp hcall G.sim hρ hnone hltn hv (Q:=Q)))
  obtain⟨μ',v',ha',hv',hZ,hext,hsame,hnx⟩:=hL;have hlater: ∀r'∈l2,μ' (base+r'.i)=none:=by
   intro r' hr';obtain⟨m1,m2,e2⟩:=bN hr';obtain⟨q1,q2,q3,q4⟩:=hspl (l1:=l1++r::m1) (r:=r') (l2:=m2) (by rw[hsplit,e2];simp)
   have hb:=q4 r r.o (by simp) ho (by simp[gK,hk])
   have hne:r.i≠r'.i:=q2 r (by simp)
   have hnl:listed.getD r'.i false=false:=by
    cases hc:listed.getD r'.i false with
    |false=>rfl
    |true=>
     have hr'm:r'∈rs:=by rw[hsplit];simp[hr']
     have:=iC D G.closed r'.i r.i r'.o (hro _ hr'm) (fun e he hbe=>G.closed r'.i r'.o e (hro _ hr'm) hc he hbe) hb
     rw[h2]at this;cases this
   rw[hsame (base+r'.i) (by have:=G.next;omega) (by omega)]
   exact G.none r'.i q1 hnl
  have hnd:Es.Nodup:=C.effs_nodup (by rw[hrs];exact sF _ (fun l1 i l2 e=>(D.split l1 i l2 e).2.1))
  refine⟨μ',je+1,s',step a' w' μ' (je+1) s' v' ha' hv' hCs' (htr μ' w' hlater hZ) (by have:=G.next;omega) hext (fun j hj hne=>hsame j (by have:=G.next;omega) hne) (fun q e he=>?_)⟩
  constructor
  ·rintro(h|h)
   ·subst h;have hq:q<Es.length:=(List.getElem?_eq_some_iff.1 he).1;have hj:je<Es.length:=(List.getElem?_eq_some_iff.1 hEs).1;have e1:Es[q]=r.i:=(List.getElem?_eq_some_iff.1 he).2;have e2:Es[je]=r.i:=(List.getElem?_eq_some_iff.1 hEs).2;rcases Nat.lt_or_ge q je with h'|h'
    ·omega
    ·rcases Nat.eq_or_lt_of_le h' with h'|h'
     ·omega
     ·exact absurd (e2.trans e1.symm) (List.pairwise_iff_getElem.1 hnd je q hj hq h')
   ·have:=(G.count q e he).1 h;omega
  ·intro h;rcases Nat.lt_or_ge q je with h'|h'
   ·exact .inr ((G.count q e he).2 h')
   ·have:q=je:=by omega
    subst this;rw[hEs]at he;cases he;exact .inl rfl
theorem draw_ok(hcall:CallOK w0 P call){order:List Nat}(D:aAy ops ms order){N n0:Nat}(hok: ∀o∈ops.toList,mE P N o=true){rs:List Rec}{Cs:List St}{Es:List Nat}{S0:Slots}{σ0:St}{μ0:Mp}(hn0:n0≤base)
    (C:Cert P call ops ms base S' σ' rs Cs Es [] S0 σ0) (hrs:rs.map (·.i)=order) {Q:Exit→Act→World→Prop} (hpost:kJ w0 P μ0 n0 N S' σ' (Q .normal)):
    ∀(fuel:Nat) (listed:Array Bool) (a:Act) (w:World) (μ:Mp) (k:Nat) (s:St),unl listed≤fuel→aFK w0 P ops base N n0 S0 rs Cs Es μ0 listed a w μ k s→wpAny P .any ops Q fuel listed a w:=by
 obtain⟨fin,step⟩:=aFo hcall D hok hn0 C hrs hpost;intro fuel;induction fuel with
 |zero=>
  intro listed a w μ k s hu G;have hall: ∀i,i<ops.size→listed.getD i false=true:=by
   intro i hi;cases hb:listed.getD i false with
   |true=>rfl
   |false=>
    have h1:listed.getD i true=false:=by
     rw[Array.getD_eq_getD_getElem?,Array.getElem?_eq_getElem (by rw[G.size];exact hi)]at hb⊢;simpa using hb
    have:=aF8 h1;omega
  refine⟨?_,fin listed a w μ k s G hall⟩;cases hr:Region.ready .any ops listed with
  |nil=>rfl
  |cons i l=>
   have hm:i∈Region.ready .any ops listed:=by rw[hr];simp
   obtain⟨h1,o,ho,_⟩:=mem_ready.1 hm;obtain⟨h2,h3⟩:=dY h1;rw[hall i (by rw[←G.size];exact h3)]at h2;cases h2
 |succ fuel ih=>
  intro listed a w μ k s hu G;refine⟨fun hr=>?_,fun i hi=>?_⟩
  ·
   refine fin listed a w μ k s G ?_;obtain⟨rk,hrk⟩:=D.edge;have main: ∀(m i:Nat),rk i=m→i<ops.size→listed.getD i false=true:=by
    intro m;induction m using Nat.strongRecOn with
    |_ m ihi=>
     intro i hm hi;cases hb:listed.getD i false with
     |true=>rfl
     |false=>
      exfalso;have h1:listed.getD i true=false:=by
       rw[Array.getD_eq_getD_getElem?,Array.getElem?_eq_getElem (by rw[G.size];exact hi)]at hb⊢;simpa using hb
      have ho:ops[i]?=some ops[i]:=Array.getElem?_eq_getElem hi;have:i∈Region.ready .any ops listed:=mem_ready.2 ⟨h1,ops[i],ho,fun e he hbe=>by
       obtain⟨g1,g2⟩:=hrk i _ e ho he hbe;exact ihi (rk e.on) (by omega) e.on rfl g2⟩
      rw[hr]at this;cases this
   exact fun i hi=>main _ i rfl hi
  ·have hu':unl (listed.setIfInBounds i true)≤fuel:=by have:=aF8 (mem_ready.1 hi).1;omega
   exact wpOp_mono (fun a' w' ⟨μ',k',s',G'⟩=>ih _ a' w' μ' k' s' hu' G') (step listed a w μ k s G i hi)
end
end Go.AI
namespace Go.PI
open Go.AI
section
variable{P:Program}{ν ν':Nu}{γ γ1 γ':Ga}{σ σ':St}{S:PS}{A:Slots}
theorem kI{z:Nat}: ∀(n:Nat) (l:List PV),l.length=n*z→eG (lL z n l)=l∧(lL z n l).length=n∧∀e∈lL z n l,e.cells.length=z∧(l.all PV.pur=true→e.cells.all PV.pur=true):=by
 intro n;induction n with
 |zero=>intro l h;simp at h;subst h;exact⟨rfl,rfl,fun e he=>by simp[lL]at he⟩
 |succ n ih=>
  intro l h;rw[Nat.succ_mul]at h;obtain⟨h1,h2,h3⟩:=ih (l.drop z) (by simp;omega)
  refine⟨?_,by simp[lL,h2],fun e he=>?_⟩
  ·simp only[lL,eG,fmC,PV.cells];have:List.flatMap PV.cells (lL z n (l.drop z))=l.drop z:=h1;rw[this,List.take_append_drop]
  ·simp only[lL,List.mem_cons]at he;rcases he with rfl|he
   ·refine⟨by simp[PV.cells];omega,fun hp=>?_⟩
    simp only[PV.cells,List.all_eq_true]at hp⊢;exact fun x hx=>hp x (List.mem_of_mem_take hx)
   ·refine⟨(h3 e he).1,fun hp=>(h3 e he).2 ?_⟩
    rw[List.all_eq_true]at hp⊢;exact fun x hx=>hp x (List.mem_of_mem_drop hx)
theorem set_self(S:PS)(t:Nat):S.set t (S.at t)=S:=by
 cases S with|mk f=>simp only[PS.set,PS.at,PS.mk.injEq];funext k;rw[cJ,Bool.cond_decide];split<;>simp_all
theorem nD{p p':PSt}(M:Mem ν γ p σ)(F:FR ν γ σ S A){t:Nat}{S':PS}(h:fA p S t=some (S',p')):
    ∃ν',Mem ν' γ p' σ∧FR ν' γ σ S' A∧Adv ν γ p σ ν' γ p' σ:=by
 have triv:S'=S→p'=p→∃ν',Mem ν' γ p' σ∧FR ν' γ σ S' A∧Adv ν γ p σ ν' γ p' σ:=by
  rintro rfl rfl;exact⟨ν,M,F,.refl ν γ p' σ⟩
 have hF:=F t;unfold fA at h;split at h<;>try cases h
 rename_i rr hrr;unfold frz at hrr;split at hrr
 ·rename_i id off len b hS;split at hrr
  ·rename_i z a cs hg;cases hc:Nat.ble (off+len*z) cs.length&&Nat.ble 1 z&&(a||Nat.beq z 1)&&cs.all PV.pur with
   |false=>rw[hc,cdf]at hrr;cases hrr
   |true=>
    rw[hc,cdt]at hrr;simp only[ojE]at hrr;subst hrr;simp only[bjE]at hc;obtain⟨⟨⟨hc1,hc2⟩,hc3⟩,hc4⟩:=hc;have hlen:=Nat.le_of_ble_eq_true hc1;have hl:((cs.drop off).take (len*z)).length=len*z:=by simp;omega
    have hz:=Nat.le_of_ble_eq_true hc2;have hid:=aHu hg;obtain⟨ai,us,h1,h2,h3,h5,h4⟩:=M.get id _ hg;rw[hS]at hF;have hmon:Mon σ ν (fun k=>if k=id then some none else ν k):=by
     refine⟨fun k x hk=>?_,fun k a' hk=>?_⟩
     ·by_cases e:k=id
      ·right;show(if k=id then some none else ν k)=some none;rw[if_pos e]
      ·left;show(if k=id then some none else ν k)=some x;rw[if_neg e];exact hk
     ·by_cases e:k=id
      ·simp only[e,if_true]at hk;cases hk
      ·simp only[e,if_false]at hk;exact .inl hk
    have hkp:Keep ν fM σ σ:= .refl ν fM σ;have hfz:Fz (fun k=>if k=id then some none else ν k) σ ai us (bD z):=by
     refine⟨row_of_get h2 rfl,fun k hk=>?_⟩
     by_cases e:k=id
     ·simp only[e,if_true]at hk;cases hk
     ·simp only[e,if_false]at hk;exact e (M.inj k id ai hk h1)
    refine⟨fun k=>if k=id then some none else ν k,⟨fun k x hk=>?_,fun k a' hk=>?_,fun i j a' hi hj=>?_,fun k a' hk=>?_,fun k o hk=>?_,M.free,M.ver⟩,fun k=>?_,⟨.refl ν γ σ,hmon,.refl σ γ,.upd p id .gone,fun a cs m h=>⟨cs,m.tip,h⟩,fun k a' hk hd=>⟨rfl,by
     have hne:k≠id:=fun e=>hd (by subst e;exact aA8)
     show(if k=id then some none else ν k)=_
     rw[if_neg hne];exact hk⟩⟩⟩
    ·show k<p.next
     by_cases e:k=id
     ·omega
     ·simp only[e,if_false]at hk;exact M.le _ _ hk
    ·by_cases e:k=id
     ·simp only[e,if_true]at hk;cases hk
     ·simp only[e,if_false]at hk;exact M.lt _ _ hk
    ·by_cases e:i=id
     ·simp only[e,if_true]at hi;cases hi
     ·by_cases e':j=id
      ·simp only[e',if_true]at hj;cases hj
      ·simp only[e,e',if_false]at hi hj;exact M.inj _ _ _ hi hj
    ·by_cases e:k=id
     ·simp only[e,if_true]at hk;cases hk
     ·simp only[e,if_false]at hk;rw[fJ hid,if_neg e];exact M.live _ _ hk
    ·rw[fJ hid]at hk;by_cases e:k=id
     ·simp only[e,if_true,ojE]at hk;subst hk;subst e;show(if k=k then some none else ν k)=some none;simp
     ·simp only[e,if_false]at hk;exact(M.get k o hk).keep hkp hmon (by simp[e]) (fun _ _=>rfl) fun i off' hi _=>⟨rfl,hi⟩
    ·rw[kU];by_cases e:k=t
     ·subst e;rw[if_pos rfl];refine⟨?_,fun h=>by cases h⟩
      have hr:=hF.1;generalize A.at k=w at hr;cases hr with
      |rs0 _ _ _ c a' hν=>rw[h1]at hν;cases hν
      |rs _ _ _ c a' hν=>
       rw[h1]at hν;simp only[ojE]at hν;subst hν;have hpl:((cs.drop off).take (len*z)).all PV.pur=true:=by
        rw[List.all_eq_true]at hc4⊢;exact fun x hx=>hc4 x (List.mem_of_mem_drop (List.mem_of_mem_take hx))
       have hwin: ∀(i:Nat) (x:PV) (u:Value),((cs.drop off).take (len*z))[i]?=some x→us[off+i]?=some u→R (fun k=>if k=id then some none else ν k) σ x u:=by
        intro i x u hx hu;rw[List.getElem?_take]at hx;split at hx
        ·rw[List.getElem?_drop]at hx;exact(h4 _ x u hx hu).keep hkp hmon
        ·cases hx
       cases a with
       |true=>
        obtain⟨k1,k2,k3⟩:=kI (z:=z) len _ hl;simp only[cdt];have:=R.sl (ν:=fun k=>if k=id then some none else ν k) (σ:=σ) z (lL z len ((cs.drop off).take (len*z))) ai off c us (bD z) hz (fun e he=>⟨(k3 e he).1,(k3 e he).2 hpl⟩) hfz rfl (by rw[k2,h3];exact hlen) (by rw[k1];exact hwin)
        rw[k2]at this;have h6:=aDA (es:=lL z len ((cs.drop off).take (len*z))) (by rw[k2];exact this)
        rw[k2]at h6;exact h6
       |false=>
        simp only[Bool.false_or]at hc3;have hz1:=nqE hc3;subst hz1;simp only[cdf];rw[Nat.mul_one]at hl hwin hlen hpl⊢;have hfl: ∀l:List PV,l.all PV.pur=true→eG l=l:=by
         intro l;induction l with
         |nil=>intro _;rfl
         |cons x l ih=>
          intro hp;simp only[alC,bjE]at hp;have:=ih hp.2;simp only[eG,fmC]at this⊢;rw[this,rP (vA hp.1)];rfl
        have:=R.sl (ν:=fun k=>if k=id then some none else ν k) (σ:=σ) 1 ((cs.drop off).take len) ai off c us (bD 1) hz (fun e he=>by
         have:=(List.all_eq_true.1 hpl) e he;rw[rP (vA this)];exact⟨rfl,by simpa using this⟩) hfz rfl (by rw[hl,h3];omega) (by rw[hfl _ hpl];exact hwin)
        have h6:=aDA this;rw[hl]at h6;exact h6
     ·rw[if_neg e];exact⟨(F k).1.keep hkp hmon,fun hb=>((F k).2 hb).keep hkp hmon fun i hi _=>⟨rfl,hi⟩⟩
  ·cases hrr
 ·simp only[ojE]at hrr;subst hrr;exact triv (set_self S t) rfl
theorem kC(F:FR ν γ σ S A){ops:Array Oper}{o:Oper}{b:Bool}(h:gC ops S o=some b):wanted ops A o=b:=by
 unfold gC at h;unfold wanted;split at h
 ·simp only[ojE]at h;subst h;rename_i e;rw[e]
 ·rename_i j want e;rw[e];simp only;cases hd:ops[j]?.bind (·.dst)with
  |none=>rw[hd]at h;simp at h
  |some d=>
   rw[hd]at h;simp only[omS]at h;split at h
   ·rename_i b' hb;simp only[ojE]at h hb;subst h;have:=(F d).1;rw[hb]at this;simp only[omS];generalize A.at d=w at this;cases this;rfl
   ·rename_i hb;simp only[ojE]at h hb;subst h;have:=(F d).1;rw[hb]at this;simp only[omS];obtain⟨us,hu,hl⟩:=this.tup_inv;rw[hu]
   ·cases h
theorem aGh{pc:eH}{ac:FuncId→Array Value→St→Option (Value×St)}(hcall:fN pc ac){p p':PSt}{base i:Nat}(M:Mem ν γ p σ)(F:FR ν γ σ S A)(hf:σ.get (base+i)=none)(hlt:base+i<σ.next)
    {o:Oper} (ho:o.op.operands.all (aI P)=true) {sq take own:Bool} {v:PV} {S':PS} (h:pop P pc sq o take S p=some (v,own,S',p')):
    ∃u σ' ν' γ',aop P ac base i o A σ=some (u,σ')∧R ν' σ' v u∧Mem ν' γ' p' σ'∧FR ν' γ' σ' (S'.put o.dst v own) (A.store o.dst u)∧Adv ν γ p σ ν' γ' p' σ'∧
      (∀j,j<σ.next→j≠base+i→σ.get j=none→σ'.get j=none):=by
 obtain⟨u,σ',ν',γ',h1,h2,h3,h4,h5,h6,h7⟩:=pop_ok hcall M F hf hlt ho h;obtain⟨γ'',F'',g⟩:=h4.put h2 h5 o.dst;exact⟨u,σ',ν',γ'',h1,h2,h3.g2 g,F'',h6.trans (.g g.out),h7⟩
theorem aGl{p:PSt}(M:Mem ν γ p σ)(F:FR ν γ σ S A)(d:Option Tmp): ∃γ',Mem ν γ' p σ∧FR ν γ' σ (S.put d (.tup []) false) (A.store d undef)∧Adv ν γ p σ ν γ' p σ:=by
 obtain⟨γ',F',g⟩:=F.put (v:= .tup []) (u:=undef) (own:=false) (.tup [] #[] rfl (fun i x u h=>by simp at h)) (fun h=>by cases h) d
 exact⟨γ',M.g2 g,F',.g g.out⟩
def dU:List aER→List Nat
 |[]=>[]
 | .op i _::r=>i::dU r
 | .app a i s::r=>a::i::s::dU r
 | .freeze _::r=>dU r
theorem runP_ok{pc:eH}{ac:FuncId→Array Value→St→Option (Value×St)}(hcall:fN pc ac){ops:Array Oper}{base:Nat}(hops: ∀o∈ops.toList,o.op.operands.all (aI P)=true):
    ∀(sc:List aER) (i:Nat) (ν:Nu) (γ:Ga) (S:PS) (p:PSt) (A:Slots) (σ:St) (S':PS) (p':PSt),dU sc=List.range' i (ops.size-i)→i≤ops.size→base+ops.size≤σ.next→
      (∀j,i≤j→j<ops.size→σ.get (base+j)=none)→Mem ν γ p σ→FR ν γ σ S A→aAE P pc ops sc S p=some (S',p')→
      ∃A' σ' ν' γ',cK P ac ops base (ops.toList.drop i) i A σ=some (A',σ')∧Mem ν' γ' p' σ'∧FR ν' γ' σ' S' A'∧Adv ν γ p σ ν' γ' p' σ'∧(∀j,j<base→σ.get j=none→σ'.get j=none):=by
 intro sc;induction sc with
 |nil=>
  intro i ν γ S p A σ S' p' hsc hi hb hfree M F h;simp only[dU]at hsc;have:ops.size-i=0:=by
   cases hh:ops.size-i with
   |zero=>rfl
   |succ n=>rw[hh]at hsc;simp[List.range']at hsc
  simp only[aAE,ojE,pjE]at h;obtain⟨rfl,rfl⟩:=h;rw[List.drop_eq_nil_of_le (by simp;omega)]
  exact⟨A,σ,ν,γ,rfl,M,F,.refl ν γ p σ,fun j _ hj=>hj⟩
 |cons s sc ih=>
  intro i ν γ S p A σ S' p' hsc hi hb hfree M F h;cases s with
  |freeze t=>
   simp only[aAE]at h;split at h
   ·rename_i S1 p1 h1;obtain⟨ν1,M1,F1,A1⟩:=nD M F h1;obtain⟨A',σ',ν',γ',k1,k2,k3,k4,k5⟩:=ih i ν1 γ S1 p1 A σ S' p' hsc hi hb hfree M1 F1 h;exact⟨A',σ',ν',γ',k1,k2,k3,A1.trans k4,k5⟩
   ·cases h
  |app a k s=>
   simp only[dU]at hsc;have hn3:i+2<ops.size:=by
    have:=congrArg List.length hsc;simp only[lcS,List.length_range']at this;omega
   rw[show ops.size-i=(ops.size-(i+3))+1+1+1 by omega,List.range'_succ,List.range'_succ,List.range'_succ]at hsc
   simp only[List.cons.injEq]at hsc;obtain⟨rfl,rfl,rfl,hsc⟩:=hsc;simp only[aAE]at h;have hopA:ops[a]?=some ops[a]:=Array.getElem?_eq_getElem (by omega)
   have hopI:ops[a+1]?=some ops[a+1]:=Array.getElem?_eq_getElem (by omega)
   have hopS:ops[a+1+1]?=some ops[a+1+1]:=Array.getElem?_eq_getElem (by omega)
   rw[hopA,hopI,hopS]at h;simp only at h;split at h
   ·rename_i S1 h1;obtain⟨u1,u2,σ1,σ2,γ2,q1,q2,q3,q4,q5,q6,q7,q8,q9,q10,q11,M2,F2,A2,_,_,q12,q13⟩:=aDr (ac:=ac) (base:=base) (iA:=a) (iI:=a+1) (iS:=a+1+1) M F (hfree a (nlR _) (by omega)) (by omega) (hops _ (by simp)) (hops _ (by simp)) (hops _ (by simp)) h1
    have hdrop:ops.toList.drop a=ops[a]::ops[a+1]::ops[a+1+1]::ops.toList.drop (a+1+1+1):=by
     rw[List.drop_eq_getElem_cons (by simp;omega),List.drop_eq_getElem_cons (by simp;omega),List.drop_eq_getElem_cons (by simp;omega)];simp
    rw[hdrop];obtain⟨A',σ',ν',γ',j1,j2,j3,j4,j5⟩:=ih (a+1+1+1) ν γ2 _ p _ σ2 S' p' (by simpa using hsc) (by omega) (Nat.le_trans hb A2.keep.next) (fun j hj hj'=>(q13 _ (by omega) (hfree j (by omega) hj')).2) M2 F2 h
    refine⟨A',σ',ν',γ',?_,j2,j3,A2.trans j4,fun j hj hn=>j5 j hj (q13 j (by omega) hn).2⟩
    have hw: ∀{o:Oper} {A0:Slots},o.guard=none→wanted ops A0 o=true:=fun hg=>by simp only[wanted,hg]
    simp only[cK,hw q7,hw q8,hw q9,cdt,aop,q4,q5,q6,q1,fL,q2,omS];simp only[q3];rw[q10];exact j1
   ·cases h
  |op k take=>
   simp only[dU]at hsc;have hlt:i<ops.size:=by
    rcases Nat.lt_or_ge i ops.size with h'|h'
    ·exact h'
    ·rw[show ops.size-i=0 by omega]at hsc;simp at hsc
   rw[show ops.size-i=(ops.size-(i+1))+1 by omega,List.range'_succ]at hsc
   simp only[List.cons.injEq]at hsc;obtain⟨rfl,hsc⟩:=hsc;simp only[aAE]at h;have hop:ops[k]?=some ops[k]:=Array.getElem?_eq_getElem hlt;rw[hop]at h;simp only at h;have hdrop:ops.toList.drop k=ops[k]::ops.toList.drop (k+1):=by
    rw[List.drop_eq_getElem_cons (by simpa using hlt)];simp
   rw[hdrop];simp only[cK];split at h
   ·rename_i hw;rw[kC F hw,cdt];split at h
    ·rename_i v own S1 p1 h1;obtain⟨u,σ1,ν1,γ1,k1,k2,k3,k4,k5,k6⟩:=aGh hcall M F (hfree k (nlR _) hlt) (by omega) (hops _ (by simp)) h1
     simp only[k1];obtain⟨A',σ',ν',γ',j1,j2,j3,j4,j5⟩:=ih (k+1) ν1 γ1 _ p1 _ σ1 S' p' hsc hlt (Nat.le_trans hb k5.keep.next) (fun j hj hj'=>k6 _ (by omega) (by omega) (hfree j (by omega) hj')) k3 k4 h
     exact⟨A',σ',ν',γ',j1,j2,j3,k5.trans j4,fun j hj hn=>j5 j hj (k6 j (by omega) (by omega) hn)⟩
    ·cases h
   ·rename_i hw;rw[kC F hw,cdf];obtain⟨γ1,M1,F1,A1⟩:=aGl M F ops[k].dst;obtain⟨A',σ',ν',γ',j1,j2,j3,j4,j5⟩:=ih (k+1) ν γ1 _ p _ σ S' p' hsc hlt hb (fun j hj hj'=>hfree j (by omega) hj') M1 F1 h
    exact⟨A',σ',ν',γ',j1,j2,j3,A1.trans j4,j5⟩
   ·cases h
end
end Go.PI
namespace Go.AI
section
variable{w0:W0}{P:Program}{call:FuncId→Array Value→St→Option (Value×St)}
theorem aGu(hcall:CallOK w0 P call)(hfol:P.toTables.follows .mixedOrders=true){N id:Nat}{ops:Array Oper}{draw:Bool}{S S':Slots}{σ σ':St}{a:Act}{w:World}{μ:Mp}{Q:Exit→Act→World→Prop}
    (h:dN P call ops draw S σ=some (S',σ')) (hok:bV P N (.region id ops draw)=true) (A:AR μ S N a) (Z:Sim w0 P μ σ w) (hpost:kJ w0 P μ σ.next N S' σ' (Q .normal)):
    (Code.region id ops draw).wp P Q a w:=by
 simp only[bV,bjE,List.all_eq_true,Bool.or_eq_true,Bool.not_eq_true']at hok;obtain⟨hops,hdr⟩:=hok;unfold dN at h;have hnone: ∀j,μ (σ.next+j)=none:=fun j=>Z.dom _ (by omega)
 cases draw with
 |false=>
  simp only[cdf]at h;refine wp_region ?_;rw[List.range_eq_range'];have:=aGs (Q:=Q) (w0:=w0) hcall (ops:=ops) (base:=σ.next) (N:=N) (n0:=σ.next) (nlR _) hops ops.toList 0 S S' {σ with next:=σ.next+ops.size} σ' a w μ μ (by simp) (by simp) A (Z.next (Nat.le_add_right _ _))
   (Ext.refl _ _) (nlR _) (fun j _ _=>hnone j) h hpost
  simpa using this
 |true=>
  simp only[cdt]at h;have hD:=hdr.resolve_left (by simp)
  have Z':Sim w0 P μ {σ with next:=σ.next+ops.size} {w with drawn:=w.drawn+1}:=(Z.next (Nat.le_add_right _ _)).drawn _
  have hrep: ∀i,(Array.replicate ops.size false).getD i false=false:=fun i=>by
   rw[Array.getD_eq_getD_getElem?];by_cases hi:i<ops.size
   ·simp[hi]
   ·simp[hi]
  have hunl:unl (Array.replicate ops.size false)≤ops.size:=by
   unfold unl;simp only[Array.toList_replicate];exact Nat.le_trans (List.length_filter_le _ _) (by simp)
  unfold vK at hD;cases ht:twin ops with
  |none=>
   rw[ht]at hD;simp only at hD;have h':dK P call ops (dV ops.toList []) σ.next (sK ops (dV ops.toList [])) [] S {σ with next:=σ.next+ops.size}=some (S',σ'):=by
    cases hr:dK P call ops (dV ops.toList []) σ.next (sK ops (dV ops.toList [])) [] S {σ with next:=σ.next+ops.size}with
    |none=>rw[hr]at h;cases h
    |some r=>
     rw[hr]at h;simp only[fitTw,okTw,ht,cdt]at h;exact h
   obtain⟨rs,Cs,Es,hrs,C⟩:=aCg _ _ _ _ h';obtain⟨s,hs0,hsn,htr⟩:=C.first (w0:=w0)
   refine wp_region_any hfol (draw_ok hcall (drawOK hD) hops (nlR _) C hrs hpost ops.size (Array.replicate ops.size false) a _ μ 0 s hunl ?_);refine⟨by simp,fun i o e _ hl=>?_,fun q e _=>?_,hs0,htr μ _ (fun r _=>hnone r.i) Z',?_,fun i _ _=>hnone i,Ext.refl _ _,A.size,A.defers,fun r _ hl=>?_,fun x _=>A.slot x⟩
   ·rw[hrep]at hl;cases hl
   ·rw[hrep];simp
   ·rw[hsn];exact nlR _
   ·rw[hrep]at hl;cases hl
  |some ab=>rw[ht]at hD;simp at hD
def Fl.out:Fl→Exit
 | .normal=> .normal
 | .exit n=> .exit n
 | .ret=> .ret
def Post(w0:W0)(P:Program)(μ:Mp)(n N:Nat)(S':Slots)(σ':St)(K:Act→World→Prop):Prop:=
 ∀a' w' μ',AR μ' S' N a'→Sim w0 P μ' σ' w'→Ext n μ μ'→n≤σ'.next→K a' w'
theorem Post.later{μ μ':Mp}{n n' N:Nat}{S':Slots}{σ':St}{K:Act→World→Prop}(h:Post w0 P μ n N S' σ' K)(hE:Ext n μ μ')(hn:n≤n'):Post w0 P μ' n' N S' σ' K:=
 fun a' w' μ'' A Z E hl=>h a' w' μ'' A Z (hE.trans E hn) (by omega)
theorem wF(hcall:CallOK w0 P call)(hfol:P.toTables.follows .mixedOrders=true)(L N:Nat): ∀(c:Code) (S:Slots) (σ:St) (fl:Fl) (S':Slots) (σ':St) (a:Act) (w:World) (μ:Mp) (Q:Exit→Act→World→Prop),
    aS P call L c S σ=some (fl,S',σ')→bV P N c=true→AR μ S N a→Sim w0 P μ σ w→Post w0 P μ σ.next N S' σ' (Q fl.out)→c.wp P Q a w:=by
 intro c;induction c with
 |skip=>
  intro S σ fl S' σ' a w μ Q h _ A Z hp;simp only[aS,ojE,pjE]at h;obtain⟨rfl,rfl,rfl⟩:=h;exact wp_skip (hp a w μ A Z (Ext.refl _ _) (nlR _))
 |label l=>
  intro S σ fl S' σ' a w μ Q h _ A Z hp;simp only[aS,ojE,pjE]at h;obtain⟨rfl,rfl,rfl⟩:=h;exact wp_label (hp a w μ A Z (Ext.refl _ _) (nlR _))
 |region id ops draw=>
  intro S σ fl S' σ' a w μ Q h hok A Z hp;simp only[aS,mjE]at h;obtain⟨⟨S1,σ1⟩,h,e⟩:=h;cases e;exact aGu hcall hfol h hok A Z hp
 |seq x y ihx ihy=>
  intro S σ fl S' σ' a w μ Q h hok A Z hp;simp only[bV,bjE]at hok;simp only[aS]at h;refine wp_seq ?_;cases hx:aS P call L x S σ with
  |none=>simp[hx]at h
  |some r=>
   obtain⟨f1,S1,σ1⟩:=r;simp only[hx]at h;cases f1 with
   |normal=>
    simp only at h;exact ihx S σ .normal S1 σ1 a w μ _ hx hok.1 A Z (fun a' w' μ' A' Z' E hn=>ihy S1 σ1 fl S' σ' a' w' μ' Q h hok.2 A' Z' (hp.later E hn))
   |exit n=>
    simp only[ojE,pjE]at h;obtain⟨rfl,rfl,rfl⟩:=h;exact ihx S σ (.exit n) S1 σ1 a w μ _ hx hok.1 A Z hp
   |ret=>
    simp only[ojE,pjE]at h;obtain⟨rfl,rfl,rfl⟩:=h;exact ihx S σ .ret S1 σ1 a w μ _ hx hok.1 A Z hp
 |cond c x y ihx ihy=>
  intro S σ fl S' σ' a w μ Q h hok A Z hp;simp only[bV,bjE]at hok;simp only[aS]at h;have hv:=ev_ok A Z hok.1.1;split at h<;>try cases h
  ·rename_i hc;rw[hc]at hv;exact wp_cond_true hv.bool_inv (ihx S σ fl S' σ' a w μ Q h hok.1.2 A Z hp)
  ·rename_i hc;rw[hc]at hv;exact wp_cond_false hv.bool_inv (ihy S σ fl S' σ' a w μ Q h hok.2 A Z hp)
 |block id c ih=>
  intro S σ fl S' σ' a w μ Q h hok A Z hp;simp only[bV]at hok;simp only[aS]at h;refine wp_block ?_;cases hx:aS P call L c S σ with
  |none=>simp[hx]at h
  |some r=>
   obtain⟨f1,S1,σ1⟩:=r;simp only[hx]at h;cases f1 with
   |normal=>
    simp only[ojE,pjE]at h;obtain⟨rfl,rfl,rfl⟩:=h;exact ih S σ .normal S1 σ1 a w μ _ hx hok A Z hp
   |ret=>
    simp only[ojE,pjE]at h;obtain⟨rfl,rfl,rfl⟩:=h;exact ih S σ .ret S1 σ1 a w μ _ hx hok A Z hp
   |exit n=>
    simp only[cJ,Bool.cond_decide]at h;split at h
    ·rename_i hn;simp only[ojE,pjE]at h;obtain⟨rfl,rfl,rfl⟩:=h;exact ih S σ (.exit n) S1 σ1 a w μ _ hx hok A Z (fun a' w' μ' A' Z' E hl=>by
      show Exit.inBlock id Q (.exit n) a' w';simp only[Exit.inBlock,if_pos hn];exact hp a' w' μ' A' Z' E hl)
    ·rename_i hn;simp only[ojE,pjE]at h;obtain⟨rfl,rfl,rfl⟩:=h;exact ih S σ (.exit n) S1 σ1 a w μ _ hx hok A Z (fun a' w' μ' A' Z' E hl=>by
      show Exit.inBlock id Q (.exit n) a' w';simp only[Exit.inBlock,if_neg hn];exact hp a' w' μ' A' Z' E hl)
 |loop c ih=>
  intro S σ fl S' σ' a w μ Q h hok A Z hp;simp only[bV]at hok;simp only[aS]at h;refine wp_loop_rounds L ?_;have main: ∀(n:Nat) (S:Slots) (σ:St) (a:Act) (w:World) (μ:Mp),iter (fun S σ=>aS P call L c S σ) n S σ=some (fl,S',σ')→AR μ S N a→Sim w0 P μ σ w→Post w0 P μ σ.next N S' σ' (Q fl.out)→Code.rounds P c Q n a w:=by
   intro n;induction n with
   |zero=>intro S σ a w μ h;simp[iter]at h
   |succ n ihn=>
    intro S σ a w μ h A Z hp;rw[rounds_succ];simp only[iter]at h;cases hx:aS P call L c S σ with
    |none=>simp[hx]at h
    |some r=>
     obtain⟨f1,S1,σ1⟩:=r;simp only[hx]at h;cases f1 with
     |normal=>
      simp only at h;exact ih S σ .normal S1 σ1 a w μ _ hx hok A Z (fun a' w' μ' A' Z' E hl=>ihn S1 σ1 a' w' μ' h A' Z' (hp.later E hl))
     |exit n=>
      simp only[ojE,pjE]at h;obtain⟨rfl,rfl,rfl⟩:=h;exact ih S σ (.exit n) S1 σ1 a w μ _ hx hok A Z hp
     |ret=>
      simp only[ojE,pjE]at h;obtain⟨rfl,rfl,rfl⟩:=h;exact ih S σ .ret S1 σ1 a w μ _ hx hok A Z hp
  exact main L S σ a w μ h A Z hp
 |exit n=>
  intro S σ fl S' σ' a w μ Q h _ A Z hp;simp only[aS,ojE,pjE]at h;obtain⟨rfl,rfl,rfl⟩:=h;exact wp_exit (hp a w μ A Z (Ext.refl _ _) (nlR _))
 |ret=>
  intro S σ fl S' σ' a w μ Q h _ A Z hp;simp only[aS,ojE,pjE]at h;obtain⟨rfl,rfl,rfl⟩:=h;exact wp_ret (hp a w μ A Z (Ext.refl _ _) (nlR _))
 |scope c ih=>
  intro S σ fl S' σ' a w μ Q h hok A Z hp;simp only[bV]at hok;simp only[aS]at h;refine wp_scope_straight (ih S σ fl S' σ' a w μ _ h hok A Z ?_);cases fl<;>exact hp
 |goto l=>intro S σ fl S' σ' a w μ Q h;simp[aS]at h
 |refuse s=>intro S σ fl S' σ' a w μ Q h;simp[aS]at h
 |rangeFunc x ts c d _ _=>intro S σ fl S' σ' a w μ Q h;simp[aS]at h
theorem pS: ∀(l:List Value) (i:Nat) (S:Slots) (k:Nat),(gF l i S).at k=if i≤k∧k<i+l.length then(l[k-i]?).getD undef else S.at k:=by
 intro l;induction l with
 |nil=>intro i S k;rw[gF,if_neg (by simp)]
 |cons v l ih=>
  intro i S k;rw[gF,ih];simp only[lcS];by_cases h1:i+1≤k∧k<i+1+l.length
  ·rw[if_pos h1,if_pos (by omega),show k-i=(k-(i+1))+1 by omega];simp
  ·rw[if_neg h1];by_cases h2:k=i
   ·subst h2;rw[if_pos (by omega)]
    simp[Slots.at,Tr.get_set]
   ·rw[if_neg (by omega)]
    simp[Slots.at,Tr.get_set,h2]
theorem aGt{S:Slots}{N:Nat}{a:Act}{σ:St}{w:World}{μ:Mp}(A:AR μ S N a)(Z:Sim w0 P μ σ w){r:ResultVar}{v:Value}(h:qD P S σ r=some v):
    ∃v',(match r with| .tmp t=>(pure (a.tmps.getD t undef):Sem Value)| .cell x t=>do loadVar t (←asAddr (a.tmps.getD x undef))).run P w= .ok v' w∧VR μ v v':=by
 cases r with
 |tmp t=>simp only[qD,ojE]at h;subst h;exact⟨_,rfl,A.slot t⟩
 |cell x t=>
  simp only[qD]at h;have hx:=A.slot x;obtain⟨v',h1,h2⟩:=pX Z hx h;refine⟨v',?_,h2⟩;unfold fD at h;split at h<;>try cases h
  rename_i id off hS;rw[hS]at hx;obtain⟨p,hp,hu⟩:=hx.ptr_inv;rw[hu]at h1;simp only;rw[hu];simpa [Instr.loadAt,Instr.sureAddr,asAddr]using h1
theorem aE4{S:Slots}{N:Nat}{a:Act}{σ:St}{w:World}{μ:Mp}(A:AR μ S N a)(Z:Sim w0 P μ σ w): ∀(l:List ResultVar) (vs:List Value),cG P S σ l=some vs→
    ∃us,(l.mapM (fun(r:ResultVar)=>(match r with| .tmp t=>(pure (a.tmps.getD t undef):Sem Value)| .cell x t=>do loadVar t (←asAddr (a.tmps.getD x undef))))).run P w= .ok us w∧VRL μ vs us:=by
 intro l;induction l with
 |nil=>intro vs h;simp only[cG,ojE]at h;subst h;exact⟨[],rfl,.nil⟩
 |cons r l ih=>
  intro vs h;simp only[cG]at h;split at h<;>try cases h
  rename_i v vs' hv hvs;obtain⟨u,h1,h2⟩:=aGt A Z hv;obtain⟨us,h3,h4⟩:=ih vs' hvs;refine⟨u::us,?_,.cons h2 h4⟩;rw[List.mapM_cons];simp only[Sem.run_bind,h1,Result.andThen_ok,h3,Sem.run_pure]
theorem aIq{fn:Func}{S:Slots}{N:Nat}{a:Act}{σ:St}{w:World}{μ:Mp}(A:AR μ S N a)(Z:Sim w0 P μ σ w){vs:List Value}(h:cG P S σ fn.results.toList=some vs):
    ∃v',(results fn a.tmps).run P w= .ok v' w∧VR μ (rU vs) v':=by
 obtain⟨us,h1,h2⟩:=aE4 A Z _ _ h;unfold results;rw[Array.mapM_eq_mapM_toList];simp only[Sem.run_bind,Sem.run_map];have h1':(List.mapM (fun(r:ResultVar)=>(match r with| .tmp t=>(pure (a.tmps.getD t undef):Sem Value)| .cell x t=>do let __do_lift←asAddr (a.tmps.getD x undef);loadVar t __do_lift)) fn.results.toList).run P w= .ok us w:=h1
 erw[h1'];simp only[Result.andThen_ok,Sem.run_pure];refine⟨_,rfl,?_⟩
 match vs,us,h2 with
 |[],us,h2=>rw[h2.nil_inv];exact .mkTuple .nil
 |[v],us,h2=>
  obtain⟨u,us',rfl,h3,h4⟩:=h2.cons_inv;rw[h4.nil_inv];exact h3
 |v1::v2::vs,us,h2=>
  have hl:=h2.1;rw[dif_neg (by simp only[List.size_toArray,←hl,lcS];omega)]
  exact .mkTuple h2
end
end Go.AI
