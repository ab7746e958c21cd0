import Derived.Test.YtojjcdpfjabepaaGreatDoorKk
set_option linter.unusedVariables false
set_option linter.unusedSimpArgs false
set_option linter.constructorNameAsVariable false
namespace Go.TV
open Go.AI Go.PI
section
variable{P:Program}{U:gP}{T:TP U.D}{c c0:Cx}{β:Type}{r:β}{q p:PSt}{M:TM U.D}
theorem splice{α:Type}(l s:List α)(o o' n m:Nat)(h1:o'+m≤n)(h2:o+n≤l.length):
    l.take (o+o')++s++l.drop (o+o'+m)=l.take o++(((l.drop o).take n).take o'++s++((l.drop o).take n).drop (o'+m))++l.drop (o+n):=by
 have e1:l.take (o+o')=l.take o++((l.drop o).take n).take o':=by
  rw[List.take_add,List.take_take,Nat.min_eq_left (by omega)]
 have e2:l.drop (o+o'+m)=((l.drop o).take n).drop (o'+m)++l.drop (o+n):=by
  rw[List.drop_take,List.drop_drop];have:l.drop (o+n)=(l.drop (o+(o'+m))).drop (n-(o'+m)):=by rw[List.drop_drop];congr 1;omega
  rw[this,List.take_append_drop,Nat.add_assoc]
 rw[e1,e2];simp only[apA]
theorem aAX{ts:List Ty}{cs s:List PV}{o n:Nat}(h:zOK U ts cs)(hs:zOK U ((ts.drop o).take n) s)(hl:s.length=n)(hle:o+n≤cs.length):zOK U ts (cs.take o++s++cs.drop (o+n)):=fun j z hj=>by
 have hlt:(cs.take o).length=o:=by rw[List.length_take];omega
 rw[apA]at hj;by_cases h1:j<o
 ·rw[List.getElem?_append_left (by omega),List.getElem?_take,if_pos h1]at hj
  exact h j z hj
 ·rw[List.getElem?_append_right (by omega),hlt]at hj
  by_cases h2:j-o<n
  ·rw[List.getElem?_append_left (by omega)]at hj
   obtain⟨e,g1,g2⟩:=hs _ z hj;rw[List.getElem?_take,if_pos h2,List.getElem?_drop]at g1;exact⟨e,by rw[←g1];congr 1;omega,g2⟩
  ·rw[List.getElem?_append_right (by omega),List.getElem?_drop]at hj
   have:o+n+(j-o-s.length)=j:=by omega
   rw[this]at hj;exact h j z hj
variable(hU:eE U)(hT:qN P U T)
include hU
theorem aBw{l:List (V U)}{i:Nat}{v w:V U}(h:l[i]?=some v)(ht:w.t=v.t):
    mL (l.set i w)=(mL l).take (bU U ((l.map fun v=>v.t).take i))++(enV U w.t w.x).cells++(mL l).drop (bU U ((l.map fun v=>v.t).take i)+szT U v.t):=by
 induction l generalizing i with
 |nil=>simp at h
 |cons x l ih=>
  cases i with
  |zero=>
   simp only[gcZ,ojE]at h;subst h;rw[List.set_cons_zero,cY,cY,List.take_zero,bU,List.take_zero,nlA,Nat.zero_add,List.drop_left' (eC hU _ _)]
  |succ i=>
   rw[gcS]at h;rw[List.set_cons_succ,cY,cY,ih h,mpC,List.take_succ_cons,bU,Nat.add_assoc];have hl:=eC hU x.t x.x;rw[←hl,List.take_length_add_append,List.drop_length_add_append];simp only[apA]
theorem aCl{path:List Nat}: ∀{v w c' old:V U} {o:Nat} {cs s:List PV},setP U path v w=some c'→aAj U path v=some (old,o)→SR v.t v.x cs→SR w.t w.x s→
    c'.t=v.t∧w.t=old.t∧SR c'.t c'.x (cs.take o++s++cs.drop (o+szT U w.t)):=by
 induction path with
 |nil=>
  intro v w c' old o cs s h hp r rs;simp only[aAj,ojE,pjE]at hp;obtain⟨rfl,rfl⟩:=hp;unfold setP at h;cases hb:v.t.beq w.t with
  |false=>rw[hb]at h;cases h
  |true=>
   rw[hb]at h;simp only[cdt,ojE]at h;subst h;have:=Ty.beq_eq hb;refine⟨this.symm,this.symm,?_⟩;rw[List.take_zero,nlA,Nat.zero_add,List.drop_eq_nil_of_le (by rw[r.len hU,this];exact nlR _),apN]
   exact rs
 |cons i path ih=>
  intro v w c' old o cs s h hp r rs;obtain⟨vt,vx⟩:=v;unfold setP at h;split at h
  ·rename_i n x heq;cases heq;split at h
   ·rename_i y hy;split at h
    ·rename_i y' hy';split at h
     ·rename_i z hz;cases h;unfold aAj at hp;rw[show fldT U ⟨.rc n,x⟩ i=some y from hy]at hp
      simp only at hp;split at hp
      ·rename_i r' hr';simp only[ojE,pjE]at hp;obtain⟨rfl,rfl⟩:=hp;have hr'':aAj U path y=some (r'.1,r'.2):=by rw[hr']
       have hpart:=r.fld hU hy;obtain⟨g1,g2,g3⟩:=ih hy' hr'' hpart rs;obtain⟨g4,g5⟩:=lT hU hr'' hpart;have hun:=hU.un_of n _ z hz;have hcl:cs.length=U.sz n:=r.len hU;have hpl:=hpart.len hU;rw[List.length_take,List.length_drop,hcl]at hpl;have hsp:=kE hU y.t;have hle:lL U n i+szT U y.t≤cs.length:=by omega
       refine⟨rfl,g2,?_⟩;show SR (.rc n) z (cs.take (lL U n i+r'.2)++s++cs.drop (lL U n i+r'.2+szT U w.t));rw[splice cs s (lL U n i) r'.2 (szT U y.t) (szT U w.t) (by rw[g2];exact g5) hle]
       refine⟨?_,?_⟩
       ·rw[iT,iT,qO,qQ,r.wk,g3.wk];show _=U.en n z;rw[hU.en n z,hun];have:=aBw hU hy g1;rw[hU.ty n x]at this;show _=mL _;rw[this];show(U.en n x).take _++_++(U.en n x).drop _=_;rw[hU.en n x];rfl
       ·refine aAX r.z ?_ (by rw[g3.len hU,g1]) hle
        have h5:(((eB U (.rc n)).drop (lL U n i)).take (szT U y.t))=eB U y.t:=pW hU (aAq hU hy);have h6:eB U y'.t=eB U y.t:=by rw[g1]
        rw[h5,←h6];exact g3.z
      ·cases hp
     ·cases h
    ·cases h
   ·cases h
  ·cases h
omit hU in
theorem fl_fst(x:PV)(b:Bool):(fl x b).1=match x with| .nil=> .emp|x=>x:=by cases x<;>rfl
omit hU in
theorem fl_wk(x:PV)(b:Bool):wk (fl x b).1=wk x:=by cases x<;>rfl
omit hU in
theorem lV(x:PV)(b:Bool):(fl x b).1≠ .nil:=by cases x<;>simp[fl]
omit hU in
theorem SR.fl{t:Ty}{x:Den U.D t}{cs:List PV}(h:SR t x cs)(b:Bool):SR t x ((cs.map fun c=>fl c b).map (·.1)):=by
 refine⟨?_,fun j z hj=>?_⟩
 ·rw[←h.wk,fG,fG,List.map_map,List.map_map];exact List.map_congr_left fun c _=>fl_wk c b
 ·rw[List.map_map,List.getElem?_map,mjE]at hj;obtain⟨y,hy,e⟩:=hj;have hy':y= .sl z []:=by
   have e:(PI.fl y b).1= .sl z []:=e;rw[fl_fst]at e;split at e
   ·cases e
   ·exact e
  exact h.z j z (by rw[hy,hy'])
omit hU in
theorem rts_fl{rs:Rts}{t:Ty}{x:Den U.D t}{pv:PV}{ow:Bool}(h:rtR rs pv ow)(hv:VR U t x pv):rtB rs (pv.cells.map fun c=>fl c ow):=fun o s hi=>by
 rcases h o s hi with⟨h1,h2⟩|⟨rfl,h1,h2,h3⟩
 ·exact⟨.emp,by rw[List.getElem?_map,h2];rfl,fun _=>rfl⟩
 ·have hc:pv.cells=[pv]:=gN fun ds e=>by rw[e]at h1;cases h1
  rw[hc];cases hn:jP pv with
  |true=>
   have:pv= .nil:=by cases pv<;>first|rfl|cases hn
   subst this;exact⟨.emp,rfl,fun _=>rfl⟩
  |false=>
   rw[hn,Bool.or_false]at h2;subst h2;refine⟨pv,?_,h3⟩;have:fl pv true=(pv,true):=by cases pv<;>first|rfl|cases hn
   simp[this]
theorem stT_ok(hT:qN P U T){t:TypeId}{a:SV U.D}{x:X U}{p0 p1:PV}{ow:Bool}{K:TM U.D→Option β}(h:stT U T.T M t a x K=some r)(ra:svR U c a p0)(rx:slR U c x (p1,ow))(Mm:MR U q c0 c M p):
    ∃M' p',K M'=some r∧iD P p t p0 p1 ow=some p'∧MR U q c0 c M' p'∧(WR U c M p→WR U c M' p'):=by
 unfold stT at h;split at h
 ·
  rename_i k off path;obtain⟨e,id,he,hid,rfl⟩:=ra;have hlt:=Mm.lt k e id he hid;split at h
  ·rename_i cont rs hf;obtain⟨e',he',id',cs,hid',hget,hcs,hrt⟩:=Mm.bx k _ hf;rw[he]at he';cases he';rw[hid]at hid';cases hid';split at h
   ·rename_i cv;split at h
    ·rename_i ty w o hty hp;cases hb:w.t.beq ty&&Nat.beq o off with
     |false=>rw[hb]at h;cases h
     |true=>
      rw[hb]at h;simp only[cdt]at h;simp only[bjE,bS,djE]at hb;obtain⟨hwt,rfl⟩:=hb;have:=Ty.beq_eq hwt;split at h
      ·rename_i v hv;split at h
       ·rename_i c' hc';obtain⟨hvt,hvr⟩:=fF hU hv rx.1;obtain⟨h1,h2,h3⟩:=hcs;have hsr:SR cv.t cv.x (cs.map (·.1)):=⟨h1,h2⟩;have hs:=VR.sr hvr;obtain⟨g1,g2,g3⟩:=aCl hU hc' hp hsr (hs.fl ow);obtain⟨g4,g5⟩:=lT hU hp hsr;have hcl:cs.length=szT U cv.t:=by have:=hsr.len hU;rwa [List.length_map]at this
        have hsz:hM P t=some (szT U ty):=hT.sz t ty hty;have hn:p1.cells.length=szT U ty:=by rw[hs.len hU,hvt]
        have hle:o+szT U ty≤cs.length:=by rw[hcl,←this];exact g5
        have c1:(Nat.beq p1.cells.length (szT U ty)&&Nat.ble (o+szT U ty) cs.length&&p1.cells.all PV.one)=true:=by
         rw[hs.one hU,hn,Nat.beq_refl,Bool.true_and,bnA,Nat.ble_eq];exact hle
        refine⟨_,p.upd id (.box (cs.take o++p1.cells.map (fun c=>fl c ow)++cs.drop (o+szT U ty))),h,by simp only[iD,hget,hsz,c1,cdt],Mm.upd hf he hid ?_⟩
        refine⟨id,_,hid,by rw[eR hlt,if_pos rfl],⟨?_,?_,?_⟩,?_⟩
        ·rw[←g3.wk,hvt];simp only[List.map_append,List.map_take,List.map_drop]
        ·rw[hvt]at g3;have:=g3.z;simp only[List.map_append,List.map_take,List.map_drop];exact this
        ·intro y hy;rcases List.mem_append.1 hy with hy|hy
         ·rcases List.mem_append.1 hy with hy|hy
          ·exact h3 y (List.mem_of_mem_take hy)
          ·obtain⟨z,_,rfl⟩:=List.mem_map.1 hy;exact lV z ow
         ·exact h3 y (List.mem_of_mem_drop hy)
        ·intro i s hi;have htl:(cs.take o).length=o:=by rw[List.length_take];omega
         rcases List.mem_append.1 hi with hi|hi
         ·obtain⟨j,e1,e2⟩:=memsh hi;simp only at e1;subst e1;obtain⟨y,hy,hys⟩:=rts_fl rx.2 hvr j s e2;refine⟨y,?_,hys⟩;have hj:j<p1.cells.length:=by
           rcases Nat.lt_or_ge j p1.cells.length with h|h
           ·exact h
           ·rw[List.getElem?_eq_none (by rw[List.length_map];exact h)]at hy;cases hy
          rw[apA,List.getElem?_append_right (by omega),htl,Nat.add_sub_cancel,List.getElem?_append_left (by rw[List.length_map];exact hj)]
          exact hy
         ·obtain⟨e1,e2⟩:=memex hi;obtain⟨y,hy,hys⟩:=hrt i s e1;refine⟨y,?_,hys⟩;simp only at e2;rw[apA];by_cases h4:i<o
          ·rw[List.getElem?_append_left (by omega),List.getElem?_take,if_pos h4];exact hy
          ·have h5:o+szT U ty≤i:=by omega
           rw[List.getElem?_append_right (by omega),htl,List.getElem?_append_right (by rw[List.length_map];omega),List.length_map,hn,List.getElem?_drop]
           have:o+szT U ty+(i-o-szT U ty)=i:=by omega
           rw[this];exact hy
       ·cases h
      ·cases h
    ·cases h
   ·
    split at h
    ·rename_i f caps hx;cases hb:T.T.fn t&&Nat.beq off 0&&stT.isF U cont with
     |false=>rw[hb]at h;cases h
     |true=>
      rw[hb]at h;simp only[cdt]at h;simp only[bjE,bS,djE]at hb;obtain⟨⟨hfn,rfl⟩,hF⟩:=hb;obtain⟨_,hsz,_⟩:=hT.fn t hfn;have hx1:svR U c (.cl f caps) p1:=by have:=rx.1;rw[hx]at this;exact this
      obtain⟨ps,hps,hcap⟩:=hx1;have hcs1: ∃y,cs=[y]:=by
       cases cont with
       |cl f' caps'=>obtain⟨pv,b,e1,_⟩:=hcs;exact⟨_,e1⟩
       |nf=>obtain⟨b,e1⟩:=hcs;exact⟨_,e1⟩
       |_=>cases hF
      obtain⟨y,rfl⟩:=hcs1;subst hps;refine⟨_,p.upd id (.box [(.fn f [] ps,ow)]),h,?_,Mm.upd hf he hid ?_⟩
      ·simp only[iD,hget,hsz];rfl
      ·exact⟨id,_,hid,by rw[eR hlt,if_pos rfl],⟨_,_,rfl,ps,rfl,hcap⟩,fun o s hi=>by cases hi⟩
    ·cases h
  ·cases h
 ·
  rename_i k i off path;obtain⟨e,id,he,hid,hi0,hi1,rfl⟩:=ra;have hlt:=Mm.lt k e id he hid;split at h
  ·rename_i et l hf;obtain⟨e',he',hn,hz,hrow⟩:=Mm.bx k _ hf;rw[he]at he';cases he';rcases hrow with⟨hno,_⟩|⟨id',hid',hget⟩
   ·rw[hid]at hno;cases hno
   ·rw[hid]at hid';cases hid';obtain⟨y,hy,h8⟩:=gF h;clear h;have h:=h8;clear h8;obtain⟨_,hy1,hylt⟩:=mX hy;split at h
    ·rename_i ty w o hty hp;cases hb:w.t.beq ty&&Nat.beq o off with
     |false=>rw[hb]at h;cases h
     |true=>
      rw[hb]at h;simp only[cdt]at h;simp only[bjE,bS,djE]at hb;obtain⟨hwt,rfl⟩:=hb;have:=Ty.beq_eq hwt;split at h
      ·rename_i v hv;split at h
       ·rename_i c' hc';split at h
        ·rename_i z hz';obtain⟨hvt,hvr⟩:=fF hU hv rx.1;have hs:=VR.sr hvr;have hsr:=SR.self hU et y;have hs2:SR v.t v.x (enV U v.t v.x).cells:=SR.self hU v.t v.x;obtain⟨g1,g2,g3⟩:=aCl hU hc' hp hsr hs2;obtain⟨g4,g5⟩:=lT hU hp hsr;have ec:=iO hz';have hsz:hM P t=some (szT U ty):=hT.sz t ty hty;have hpn:p1.cells.length=szT U ty:=by rw[hs.len hU,hvt]
         have hfl:((l.map (enV U et)).flatMap PV.cells).length=l.length*szT U et:=by
          have:=cG (z:=szT U et) (es:=l.map (enV U et)) (fun e' he'=>by obtain⟨a,_,rfl⟩:=List.mem_map.1 he';exact eC hU _ _)
          rw[List.length_map]at this;exact this
         have hmul:i.toNat*szT U et+szT U et≤l.length*szT U et:=by rw[←Nat.succ_mul];exact Nat.mul_le_mul_right _ hylt
         have hoz:o+szT U ty≤szT U et:=by rw[←this];exact g5
         have c1:(Nat.beq p1.cells.length (szT U ty)&&Nat.ble (i.toNat*e.z+o+szT U ty) ((l.map (enV U et)).flatMap PV.cells).length&&p1.cells.all PV.one)=true:=by
          rw[hs.one hU,hpn,Nat.beq_refl,Bool.true_and,bnA,Nat.ble_eq,hfl,hz];omega
         refine⟨_,p.upd id (.row e.z (kX et) (((l.map (enV U et)).flatMap PV.cells).take (i.toNat*e.z+o)++PI.wks p1.cells++((l.map (enV U et)).flatMap PV.cells).drop (i.toNat*e.z+o+szT U ty))),h,by simp only[iD,hget,hsz,c1,cdt],Mm.upd hf he hid ?_⟩
         refine⟨by rw[List.length_set];exact hn,hz,.inr ⟨id,hid,?_⟩⟩
         rw[eR hlt,if_pos rfl];congr 2;have hz2:(enV U et z).cells=(enV U et y).cells.take o++PI.wks p1.cells++(enV U et y).cells.drop (o+szT U ty):=by
          have h6:=g3.wk;have e6:(⟨c'.t,c'.x⟩:TV U.D)=⟨et,z⟩:=ec;have h7:(enV U (⟨c'.t,c'.x⟩:TV U.D).t (⟨c'.t,c'.x⟩:TV U.D).x).cells=(enV U et z).cells:=by rw[e6]
          rw[←h7,←h6];simp only[iT,qO,qQ,hvt];rw[aAk (oY hU et y),hs.wk];congr 2;exact aAk (oY hU v.t v.x)
         have hfs:((l.set i.toNat z).map (enV U et)).flatMap PV.cells=aBb (dQ (l.map (enV U et))) (i.toNat*szT U et) (enV U et z).cells:=by
          rw[List.map_set];exact aAr (fun e' he'=>by obtain⟨a,_,rfl⟩:=List.mem_map.1 he';exact eC hU _ _) (by rw[List.length_map];exact hylt) (eC hU _ _)
         rw[hfs,aCB _ _ _ (by rw[eC hU];show _≤((l.map (enV U et)).flatMap PV.cells).length;rw[hfl];exact hmul),eC hU,hz2,hz]
         show((l.map (enV U et)).flatMap PV.cells).take (i.toNat*szT U et+o)++_++((l.map (enV U et)).flatMap PV.cells).drop (i.toNat*szT U et+o+szT U ty)=_;rw[splice _ _ (i.toNat*szT U et) o (szT U et) (szT U ty) hoz (by rw[hfl];exact hmul),zB hU hy1]
         rfl
        ·cases h
       ·cases h
      ·cases h
    ·cases h
  ·cases h
 ·cases h
end
end Go.TV
namespace Go.TV
open Go.AI Go.PI
section
variable{P:Program}{U:gP}{T:TP U.D}{c c0:Cx}{β:Type}{r:β}{q p:PSt}{M:TM U.D}
def mD(c:Cx)(k:Nat)(e:Ce):Cx:=fun j=>if j=k then some e else c j
theorem eO{k:Nat}{e:Ce}(h:c k=none):leC c (mD c k e):=fun j e' hj=>by
 unfold mD;by_cases e1:j=k
 ·subst e1;rw[h]at hj;cases hj
 ·rw[if_neg e1];exact hj
theorem aDc{p:PSt}{o:jZ}{id:Nat}(h:id<p.next):(p.new o).get id=p.get id:=by
 rw[eS,if_neg (by omega)]
theorem MR.new(Mm:MR U q c0 c M p){k:Nat}(hk:100≤k)(hf:aX M.bx k=none){o:jZ}{b:BC U.D}{n z:Nat}(hr:bcR U (mD c k ⟨some p.next,n,z⟩) (p.new o) ⟨some p.next,n,z⟩ b):
    MR U q c0 (mD c k ⟨some p.next,n,z⟩) ⟨(k,b)::M.bx,M.wr⟩ (p.new o)∧(WR U c M p→WR U (mD c k ⟨some p.next,n,z⟩) ⟨(k,b)::M.bx,M.wr⟩ (p.new o)):=by
 have hc:=Mm.dom k hf;refine⟨⟨fun j h=>?_,fun j y h=>?_,fun j e id h1 h2=>?_,fun j j' e e' id h1 h2 h3 h4=>?_,Nat.le_succ_of_le Mm.next,fun j e h1 h2=>?_,fun j e id h1 h2 h3=>?_,fun id hi ho=>?_,Mm.dirty,fun id hi=>?_⟩,fun hw id hi j e h1 h2=>?_⟩
 ·rw[bZ]at h;by_cases e1:j=k
  ·rw[if_pos e1]at h;cases h
  ·rw[if_neg e1]at h;unfold mD;rw[if_neg e1];exact Mm.dom j h
 ·rw[bZ]at h;by_cases e1:j=k
  ·rw[if_pos e1]at h;simp only[ojE]at h;subst h;exact⟨_,by unfold mD;rw[if_pos e1],hr⟩
  ·rw[if_neg e1]at h;obtain⟨e,g1,g2⟩:=Mm.bx j y h;exact⟨e,eO hc j e g1,mB (bcR_le (eO hc) g2) fun id hid=>aDc (Mm.lt j e id g1 hid)⟩
 ·unfold mD at h1;by_cases e1:j=k
  ·rw[if_pos e1]at h1;cases h1;cases h2;exact Nat.lt_succ_self _
  ·rw[if_neg e1]at h1;exact Nat.lt_succ_of_lt (Mm.lt j e id h1 h2)
 ·unfold mD at h1 h2;by_cases e1:j=k<;>by_cases e2:j'=k
  ·rw[e1,e2]
  ·rw[if_pos e1]at h1;rw[if_neg e2]at h2;cases h1;cases h3;have:=Mm.lt j' e' _ h2 h4;omega
  ·rw[if_neg e1]at h1;rw[if_pos e2]at h2;cases h2;cases h4;have:=Mm.lt j e _ h1 h3;omega
  ·rw[if_neg e1]at h1;rw[if_neg e2]at h2;exact Mm.inj j j' e e' id h1 h2 h3 h4
 ·unfold mD at h1;by_cases e1:j=k
  ·omega
  ·rw[if_neg e1]at h1;exact Mm.bor j e h1 h2
 ·unfold mD at h1;by_cases e1:j=k
  ·rw[if_pos e1]at h1;cases h1;cases h3;exact Mm.next
  ·rw[if_neg e1]at h1;exact Mm.loc j e id h1 h2 h3
 ·rw[aDc (Nat.lt_of_lt_of_le hi Mm.next)];exact Mm.old id hi ho
 ·obtain⟨g1,g2⟩:=Mm.wr id hi;exact⟨Nat.lt_succ_of_lt g1,g2⟩
 ·unfold mD at h1;by_cases e1:j=k
  ·rw[if_pos e1]at h1;cases h1;cases h2;have:=(Mm.wr _ hi).1;omega
  ·rw[if_neg e1]at h1;exact hw id hi j e h1 h2
theorem MR.new0(Mm:MR U q c0 c M p){k:Nat}(hk:100≤k)(hf:aX M.bx k=none){b:BC U.D}{n z:Nat}(hr:bcR U (mD c k ⟨none,n,z⟩) p ⟨none,n,z⟩ b):
    MR U q c0 (mD c k ⟨none,n,z⟩) ⟨(k,b)::M.bx,M.wr⟩ p∧(WR U c M p→WR U (mD c k ⟨none,n,z⟩) ⟨(k,b)::M.bx,M.wr⟩ p):=by
 have hc:=Mm.dom k hf;have un: ∀{j:Nat} {e:Ce} {id:Nat},mD c k ⟨none,n,z⟩ j=some e→e.id=some id→c j=some e:=by
  intro j e id h1 h2;unfold mD at h1;by_cases e1:j=k
  ·rw[if_pos e1]at h1;cases h1;cases h2
  ·rw[if_neg e1]at h1;exact h1
 refine⟨⟨fun j h=>?_,fun j y h=>?_,fun j e id h1 h2=>Mm.lt j e id (un h1 h2) h2,fun j j' e e' id h1 h2 h3 h4=>Mm.inj j j' e e' id (un h1 h3) (un h2 h4) h3 h4,Mm.next,fun j e h1 h2=>?_,fun j e id h1 h2 h3=>Mm.loc j e id (un h1 h3) h2 h3,Mm.old,Mm.dirty,Mm.wr⟩,fun hw id hi j e h1 h2=>hw id hi j e (un h1 h2) h2⟩
 ·rw[bZ]at h;by_cases e1:j=k
  ·rw[if_pos e1]at h;cases h
  ·rw[if_neg e1]at h;unfold mD;rw[if_neg e1];exact Mm.dom j h
 ·rw[bZ]at h;by_cases e1:j=k
  ·rw[if_pos e1]at h;simp only[ojE]at h;subst h;exact⟨_,by unfold mD;rw[if_pos e1],hr⟩
  ·rw[if_neg e1]at h;obtain⟨e,g1,g2⟩:=Mm.bx j y h;exact⟨e,eO hc j e g1,bcR_le (eO hc) g2⟩
 ·unfold mD at h1;by_cases e1:j=k
  ·omega
  ·rw[if_neg e1]at h1;exact Mm.bor j e h1 h2
theorem MR.gone(Mm:MR U q c0 c M p){k:Nat}{b:BC U.D}(hb:aX M.bx k=some b)(w:List Nat):MR U q c0 c ⟨pH M.bx k .gone,w⟩ p:=by
 refine⟨fun j h=>?_,fun j y h=>?_,Mm.lt,Mm.inj,Mm.next,Mm.bor,Mm.loc,Mm.old,Mm.dirty,Mm.wr⟩
 ·simp only[dR]at h;by_cases hj:j=k
  ·rw[if_pos hj,hb]at h;cases h
  ·rw[if_neg hj]at h;exact Mm.dom j h
 ·simp only[dR]at h;by_cases hj:j=k
  ·subst hj;rw[if_pos rfl,hb]at h;simp only[omS,ojE]at h;subst h;obtain⟨e,h1,_⟩:=Mm.bx j b hb;exact⟨e,h1,trivial⟩
  ·rw[if_neg hj]at h;exact Mm.bx j y h
variable(hU:eE U)(hT:qN P U T)
theorem iK{k:Nat}{b:BC U.D}{K:TM U.D→Option β}(h:newT U M k b K=some r):aX M.bx k=none∧K ⟨(k,b)::M.bx,M.wr⟩=some r:=by
 unfold newT at h;split at h
 ·rename_i e;exact⟨e,h⟩
 ·cases h
include hU hT
theorem alT_ok{S':PS}{o:Oper}{d:Option Tmp}{t:TypeId}{K:X U→TM U.D→Option β}(ho:o.op= .alloc t)(h:alT U T.T M d t K=some r)(Mm:MR U q c0 c M p):
    ∃c' x M' v p',K x M'=some r∧bR P p S' o=some (v,false,p')∧leC c c'∧slR U c' x (v,false)∧MR U q c0 c' M' p'∧(WR U c M p→WR U c' M' p'):=by
 unfold alT at h;split at h
 ·rename_i d;split at h
  ·rename_i ty hty;obtain⟨hf,hk⟩:=iK h;have hz:=hT.zc t ty hty;have hc:=Mm.dom _ hf;have hsr:=aBY hU ty;obtain⟨g1,g2⟩:=Mm.new (o:= .box ((zcT U ty).map fun c=>fl c false)) (n:=0) (z:=0) (b:= .bx (.val ⟨ty,kB U ty⟩) (rR U ty)) (Nat.le_add_right 100 d) hf ⟨p.next,_,rfl,by rw[eS,if_pos rfl],⟨(hsr.fl false).wk,(hsr.fl false).z,fun y hy=>by
          obtain⟨z,_,rfl⟩:=List.mem_map.1 hy;exact lV z false⟩,fun i s hi=>⟨.emp,by rw[List.getElem?_map,yK hU ty i s hi];rfl,fun _=>rfl⟩⟩
   exact⟨_,_,_,.ptr p.next 0,_,hk,by simp only[bR,ho,hz],eO hc,⟨⟨_,_,by unfold mD;rw[if_pos rfl],rfl,rfl⟩,aE _ _⟩,g1,g2⟩
  ·cases hfn:T.T.fn t with
   |false=>rw[hfn]at h;cases h
   |true=>
    rw[hfn]at h;obtain⟨hf,hk⟩:=iK h;obtain⟨_,_,hz⟩:=hT.fn t hfn;have hc:=Mm.dom _ hf;obtain⟨g1,g2⟩:=Mm.new (o:= .box [(.v .nilFunc,false)]) (n:=0) (z:=0) (b:= .bx .nf []) (Nat.le_add_right 100 d) hf ⟨p.next,_,rfl,by rw[eS,if_pos rfl],⟨_,rfl⟩,fun i s hi=>by cases hi⟩
    exact⟨_,_,_,.ptr p.next 0,_,hk,by simp only[bR,ho,hz];rfl,eO hc,⟨⟨_,_,by unfold mD;rw[if_pos rfl],rfl,rfl⟩,aE _ _⟩,g1,g2⟩
 ·cases h
omit hT in
theorem bxT_ok{S:TS U.D}{S':PS}(F:frR U c S S'){o:Oper}{d:Option Tmp}{t:TypeId}{x:Operand}{K:X U→TM U.D→Option β}(ho:o.op= .box t x)(h:bxT U T.T M d t (evT U S x) K=some r)(Mm:MR U q c0 c M p):
    ∃c' x M' v p',K x M'=some r∧bR P p S' o=some (v,false,p')∧leC c c'∧slR U c' x (v,false)∧MR U q c0 c' M' p'∧(WR U c M p→WR U c' M' p'):=by
 have rx:=aT F x;unfold bxT at h;split at h
 ·rename_i d;split at h
  ·rename_i ty hty;split at h
   ·rename_i v hv;obtain⟨hf,hk⟩:=iK h;obtain⟨hvt,hvr⟩:=fF hU hv rx.1;have hsr:=VR.sr hvr;have hc:=Mm.dom _ hf;have hrt:=(kP rx).2;obtain⟨g1,g2⟩:=Mm.new (o:= .box ((pev S' x).cells.map fun c=>fl c false)) (n:=0) (z:=0) (b:= .bx (.val v) (mR U (evT U S x)).2) (Nat.le_add_right 100 d) hf ⟨p.next,_,rfl,by rw[eS,if_pos rfl],⟨(hsr.fl false).wk,(hsr.fl false).z,fun y hy=>by
            obtain⟨z,_,rfl⟩:=List.mem_map.1 hy;exact lV z false⟩,rts_fl hrt hvr⟩
    exact⟨_,_,_,.ptr p.next 0,_,hk,by simp only[bR,ho,hsr.one hU,cdt],eO hc,⟨⟨_,_,by unfold mD;rw[if_pos rfl],rfl,rfl⟩,aE _ _⟩,g1,g2⟩
   ·cases h
  ·split at h
   ·rename_i f caps hx;obtain⟨hf,hk⟩:=iK h;have h1:=rx.1;rw[hx]at h1;obtain⟨ps,hps,hcap⟩:=h1;have hc:=Mm.dom _ hf;obtain⟨g1,g2⟩:=Mm.new (o:= .box [(.fn f [] ps,false)]) (n:=0) (z:=0) (b:= .bx (.cl f caps) []) (Nat.le_add_right 100 d) hf ⟨p.next,_,rfl,by rw[eS,if_pos rfl],⟨_,_,rfl,ps,rfl,xX (eO hc) hcap⟩,fun i s hi=>by cases hi⟩
    have hps:pev S' x= .fn f [] ps:=hps;exact⟨_,_,_,.ptr p.next 0,_,hk,by simp only[bR,ho,hps];rfl,eO hc,⟨⟨_,_,by unfold mD;rw[if_pos rfl],rfl,rfl⟩,aE _ _⟩,g1,g2⟩
   ·cases h
 ·cases h
omit hT in
theorem zA(e:Ty): ∀n,dE (wks (zcT U e)) n=((aBO (kB U e) n).map (enV U e)).flatMap PV.cells
 |0=>rfl
 |n+1=>by rw[dE,aBO,mpC,fmC,zA e n,aBX hU]
omit hU hT in
theorem rC{α:Type}(x:α): ∀n,(aBO x n).length=n
 |0=>rfl
 |n+1=>by rw[aBO,lcS,rC x n]
theorem msT_ok{S:TS U.D}{S':PS}(F:frR U c S S'){o:Oper}{d:Option Tmp}{t:TypeId}{l k:Operand}{K:X U→TM U.D→Option β}(ho:o.op= .makeSlice t l k)(h:msT U T.T M d t (isZ l) T.el (evT U S l).1 (evT U S k).1 K=some r)(Mm:MR U q c0 c M p):
    ∃c' x M' v own p',K x M'=some r∧bR P p S' o=some (v,own,p')∧leC c c'∧slR U c' x (v,own)∧MR U q c0 c' M' p'∧(WR U c M p→WR U c' M' p'):=by
 have rl:=(aT F l).1;have rk:=(aT F k).1;unfold msT at h;split at h
 ·rename_i et eid n m hty hel hl hk;rw[hl]at rl;rw[hk]at rk;have el:pev S' l= .v (.int .i64 n):=eA rl;have ek:pev S' k= .v (.int .i64 m):=eA rk;clear rl rk hl hk;obtain⟨n',hn'⟩: ∃n':Int,n'=n:=⟨n,rfl⟩;subst hn';obtain⟨m',hm'⟩: ∃m':Int,m'=m:=⟨m,rfl⟩;subst hm';obtain⟨hc,h⟩:=bN h;simp only[bjE,djE]at hc;obtain⟨⟨⟨hc1,hc2⟩,hc3⟩,hc4⟩:=hc;obtain⟨eid',hu,hte,hel'⟩:=hT.un t _ hty;rw[hel]at hel';cases hel';obtain⟨info,z,hi,hsz,hby,hb1,hz,hzs,hzc,hzp⟩:=hT.inf eid et hte;have hag:=hT.ag eid et hte;have hps:=kE hU et;have c0: ∀(n' m':Int),0≤n'→n'≤m'→m'*(T.T.by' eid:Int)≤1073741824→m'≤1073741824→(decide (0≤n')&&decide (n'≤m')&&decide (m'*(info.bytes:Int)≤1073741824)&&decide (m'≤1073741824)&&z.cells.toList.all aC&&Nat.beq z.cells.size info.size&&Nat.ble 1 info.size&&(kX et||Nat.beq info.size 1))=true:=by
   intro n' m' hc1 hc2 hc3 hc4;rw[hzs,hsz,hby,hzp,Nat.beq_refl,(by rw[Nat.ble_eq];exact hps:Nat.ble 1 (szT U et)=true),decide_eq_true hc1,decide_eq_true hc2,decide_eq_true hc3,decide_eq_true hc4]
   cases et<;>rfl
  have c1:=c0 n' m' hc1 hc2 hc3 hc4;have hpal:bR P p S' o=bif decide (n'=0)then some (.sl info.size [],true,p)else bif decide (n'=m')then some (.rs p.next 0 n'.toNat,false,p.new (.row info.size (kX et) (dE (wks (ofVs z.cells.toList)) n'.toNat)))else none:=by
   simp only[bR,ho,hu,el,ek,hi,hag,hz,c1,cdt]
  have hnil:VR U (.sl et) [] (.sl (szT U et) []):=⟨rfl,fun j z' hj=>by
   cases j with
   |zero=>simp only[PV.cells,gcZ,ojE,PV.sl.injEq]at hj;exact⟨et,rfl,hj.1.symm⟩
   |succ j=>simp[PV.cells]at hj⟩
  cases hzl:isZ l with
  |true=>
   rw[hzl]at h;obtain⟨hn,h⟩:=bN h;have hn:=of_decide_eq_true hn;refine⟨c,_,_,.sl (szT U et) [],true,p,h,?_,leC.refl c,⟨hnil,?_⟩,Mm,fun hw=>hw⟩
   ·rw[hpal,decide_eq_true hn,cdt,hsz]
   ·intro i s hi;simp only[List.mem_singleton,pjE]at hi;exact .inr ⟨hi.1,rfl,rfl,fun e=>by rw[hi.2]at e;cases e⟩
  |false=>
   rw[hzl]at h;obtain⟨hn,h⟩:=bN h;have hn:=of_decide_eq_true hn;cases d with
   |none=>cases h
   |some d=>
    obtain⟨hf,hk⟩:=iK h;have hcn:=Mm.dom _ hf;by_cases h0:n'=0
    ·have h00:n'.toNat=0:=by omega
     obtain⟨g1,g2⟩:=Mm.new0 (b:= .row et (aBO (kB U et) n'.toNat)) (n:=0) (z:=szT U et) (Nat.le_add_right 100 d) hf ⟨by rw[rC,h00],rfl,.inl ⟨rfl,by rw[h00];rfl⟩⟩
     refine⟨_,_,_,.sl (szT U et) [],true,p,hk,by rw[hpal,decide_eq_true h0,cdt,hsz],eO hcn,⟨⟨_,by unfold mD;rw[if_pos rfl],.inl ⟨rfl,rfl,.inl rfl⟩⟩,aE _ _⟩,g1,g2⟩
    ·obtain⟨g1,g2⟩:=Mm.new (o:= .row (szT U et) (kX et) (dE (wks (ofVs z.cells.toList)) n'.toNat)) (b:= .row et (aBO (kB U et) n'.toNat)) (n:=n'.toNat) (z:=szT U et) (Nat.le_add_right 100 d) hf ⟨by rw[rC],rfl,.inr ⟨p.next,rfl,by rw[eS,if_pos rfl,hzc,zA hU]⟩⟩
     refine⟨_,_,_,.rs p.next 0 n'.toNat,false,_,hk,by rw[hpal,decide_eq_false h0,cdf,decide_eq_true hn,cdt,hsz],eO hcn,⟨⟨_,by unfold mD;rw[if_pos rfl],.inr ⟨_,rfl,by
      have k1:(0:Int)≤n':=hc1;have k2: ¬(n':Int)=0:=h0;simp only;omega,rfl⟩⟩,aE _ _⟩,g1,g2⟩
 ·cases h
omit hT in
theorem jB{n:Nat}: ∀(l:List (U.D n)),jV (U.sz n) l.length ((l.map (enV U (.rc n))).flatMap PV.cells)=l.map (enV U (.rc n))
 |[]=>rfl
 |x::l=>by
  rw[lcS,jV,mpC,fmC];have hl:(enV U (.rc n) x).cells.length=U.sz n:=eC hU (.rc n) x;rw[List.take_left' hl,List.drop_left' hl,jB l];rfl
omit hU hT in
theorem aAt{t:Ty}(h:kX t=false): ∀(l:List (Den U.D t)),(l.map (enV U t)).flatMap PV.cells=l.map (enV U t)
 |[]=>rfl
 |x::l=>by
  rw[mpC,fmC,aAt h l];have:(enV U t x).cells=[enV U t x]:=by
   cases t with
   |rc n=>cases h
   |sl t=>exact gJ (bO _ _)
   |_=>rfl
  rw[this];rfl
omit hU hT in
theorem aAn{p:PSt}{x:PV×Bool}(h: ∀id off len,x.1≠ .rs id off len):frz p x=some (x,p):=by
 obtain⟨pv,b⟩:=x;cases pv with
 |rs id off len=>exact(h id off len rfl).elim
 |_=>rfl
omit hU hT in
theorem vX{S0:TS U.D}{S':PS}{t:Nat}(F:frR U c S0 S'):frR U c S0 (S'.set t (S'.at t)):=fun k=>by
 rw[jH];by_cases e:k=t
 ·rw[if_pos e,←e];exact F k
 ·rw[if_neg e];exact F k
omit hT in
theorem aDe{S:TS U.D}{S':PS}(F:frR U c S S'){t:Nat}{R:TS U.D×TM U.D}(h:frT U S M t=some R)(Mm:MR U q c0 c M p):
    ∃S'' p',eI p S' t=some (S'',p')∧frR U c R.1 S''∧MR U q c0 c R.2 p'∧(WR U c M p→WR U c R.2 p'):=by
 have hs:=F t;have same: ∀{x:SV U.D} {r:Rts},mK S t=(x,r)→(∀id off len,(S'.at t).1≠ .rs id off len)→R=((t,(x,r))::S,M)→
      ∃S'' p',eI p S' t=some (S'',p')∧frR U c R.1 S''∧MR U q c0 c R.2 p'∧(WR U c M p→WR U c R.2 p'):=by
  intro x r hx hne hR;subst hR;refine⟨S'.set t (S'.at t),p,by simp only[eI,aAn hne],?_,Mm,fun hw=>hw⟩
  exact vX (aAo F (show slR U c (x,r) (S'.at t) by rw[←hx];exact hs))
 unfold frT at h;split at h
 ·rename_i k rr hx;split at h
  ·rename_i e l hf;simp only[ojE]at h;subst h;have h1:=hs.1;rw[hx]at h1;obtain⟨ce,hce,h1⟩:=h1;obtain⟨ce',hce',hn,hz,hrow⟩:=Mm.bx k _ hf;rw[hce]at hce';cases hce';rcases h1 with⟨hid,hn0,hp⟩|⟨id,hid,hn1,hp⟩
   ·have hl:l=[]:=List.length_eq_zero_iff.1 (by omega)
    subst hl;refine⟨S'.set t (S'.at t),p,by rw[eI,aAn (by rcases hp with hp|hp<;>(rw[hp];intro _ _ _ e;cases e))],?_,Mm.gone hf _,fun hw i hi j e' g1 g2=>by
     show(Nat.beq k j||bC j M.wr)=true;rw[hw i hi j e' g1 g2,Bool.or_true]⟩
    refine jS F ⟨?_,aE _ _⟩;show VR U (.sl e) [] (S'.at t).1;rcases hp with hp|hp
    ·rw[hp,hz];exact⟨rfl,fun j z' hj=>by
      cases j with
      |zero=>simp only[PV.cells,gcZ,ojE,PV.sl.injEq]at hj;exact⟨e,rfl,hj.1.symm⟩
      |succ j=>simp[PV.cells]at hj⟩
    ·rw[hp];exact vE e [] (z:=szT U e) (es:=[]) rfl rfl
   ·rcases hrow with⟨hno,_⟩|⟨id',hid',hget⟩
    ·rw[hid]at hno;cases hno
    ·rw[hid]at hid';cases hid';have hfl:((l.map (enV U e)).flatMap PV.cells).length=l.length*szT U e:=by
      have:=cG (z:=szT U e) (es:=l.map (enV U e)) (fun e' he'=>by obtain⟨a,_,rfl⟩:=List.mem_map.1 he';exact eC hU _ _)
      rw[List.length_map]at this;exact this
     have hpur:((l.map (enV U e)).flatMap PV.cells).all PV.pur=true:=by
      rw[List.all_eq_true];intro x hx;obtain⟨y,hy,hx⟩:=List.mem_flatMap.1 hx;obtain⟨a,_,rfl⟩:=List.mem_map.1 hy;exact gd_pur (List.all_eq_true.1 (oY hU e a) x hx)
     have hps:=kE hU e;have c1:(Nat.ble (0+ce.n*ce.z) ((l.map (enV U e)).flatMap PV.cells).length&&Nat.ble 1 ce.z&&(kX e||Nat.beq ce.z 1)&&((l.map (enV U e)).flatMap PV.cells).all PV.pur)=true:=by
      rw[hfl,hpur,hz,hn,Nat.zero_add,(by rw[Nat.ble_eq];exact nlR _:Nat.ble (l.length*szT U e) (l.length*szT U e)=true),(by rw[Nat.ble_eq];exact hps:Nat.ble 1 (szT U e)=true)]
      cases e<;>rfl
     have hval:(bif kX e then jV ce.z ce.n ((((l.map (enV U e)).flatMap PV.cells).drop 0).take (ce.n*ce.z))else((((l.map (enV U e)).flatMap PV.cells).drop 0).take (ce.n*ce.z)))=l.map (enV U e):=by
      rw[List.drop_zero,List.take_of_length_le (by rw[hfl,hn,hz];exact nlR _)]
      cases hr:kX e with
      |true=>
       cases e with
       |rc n=>rw[cdt,hz,hn];exact jB hU l
       |_=>cases hr
      |false=>rw[cdf];exact aAt hr l
     have hat:S'.at t=(.rs id 0 ce.n,(S'.at t).2):=by rw[←hp]
     obtain⟨m1,m2⟩:=Mm.upd (o:= .gone) (b':= .gone) hf hce hid trivial;refine⟨S'.set t (cC ce.z (l.map (enV U e)),false),p.upd id .gone,?_,?_,m1,m2⟩
     ·rw[eI,hat];simp only[frz,hget,c1,cdt,hval]
     ·exact jS F ⟨vE _ _ hz rfl,aE _ _⟩
  ·cases h
 ·rename_i v rr hx;simp only[ojE]at h;refine same hx ?_ h.symm;intro id off len e;have h1:=hs.1;rw[hx]at h1;have h2:VR U v.t v.x (S'.at t).1:=h1;have h3:=h2.wk;rw[e]at h3;obtain⟨vt,vx⟩:=v;cases vt with
  |sl t=>have:=bO (szT U t) (List.map (enV U t) vx);simp only[enV]at h3;rw[←h3]at this;cases this
  |_=>cases h3
 ·rename_i rr hx;simp only[ojE]at h;refine same hx ?_ h.symm;intro id off len e;have h1:=hs.1;rw[hx]at h1;have h2:(S'.at t).1= .nil:=h1;rw[h2]at e;cases e
 ·rename_i f caps rr hx;simp only[ojE]at h;refine same hx ?_ h.symm;intro id off len e;have h1:=hs.1;rw[hx]at h1;obtain⟨ps,h2,_⟩:=h1;rw[h2]at e;cases e
 ·cases h
end
end Go.TV
namespace Go.TV
open Go.AI Go.PI
section
variable{P:Program}{U:gP}{T:TP U.D}{c c0:Cx}{β:Type}{r:β}{q p:PSt}{M:TM U.D}
theorem rK{S':PS}{x:Operand}(h:(iF S' x||jP (pev S' x))=true):iF S' x=true:=by
 cases x with
 |tmp t=>simpa [iF,pev,Bool.or_assoc]using h
 |const v=>
  cases v with
  |slice b l k=>
   cases b with
   |none=>rfl
   |some b=>simp[iF,pev,ofV,jP]at h
  |_=>simp[iF,pev,ofV,jP]at h
 |global g=>simp[iF,pev,jP]at h
 |func f=>simp[iF,pev,jP]at h
variable(hU:eE U)(hT:qN P U T)
include hU hT
theorem apT_ok{S:TS U.D}{S':PS}(F:frR U c S S'){cl:Call}{s x:Operand}{K:X U→Option β}(h:apT U T.T T.el cl.argTypes.toList (evT U S s) (evT U S x).1 K=some r):
    ∃y v own,K y=some r∧lI P S' cl s x=some (v,own,mW S' s)∧slR U c y (v,own):=by
 have rs:=aT F s;have rx:=(aT F x).1;unfold apT at h;split at h
 ·rename_i t t1 hts;split at h
  ·rename_i et eid e1 hty hel hty1;split at h
   ·rename_i a l b w hs hx;split at h
    ·rename_i l' w' hl hw;obtain⟨hst,hsv⟩:=fF hU hs rs.1;obtain⟨hxt,hxv⟩:=fF hU hx rx;have e2:=iO hl;have e3:=iO hw;have hsv:VR U (.sl et) l' (pev S' s):=by
      have:VR U (⟨a,l⟩:TV U.D).t (⟨a,l⟩:TV U.D).x (pev S' s):=hsv;rw[e2]at this;exact this
     have hxv:VR U (.sl et) w' (pev S' x):=by
      have:VR U (⟨b,w⟩:TV U.D).t (⟨b,w⟩:TV U.D).x (pev S' x):=hxv;rw[e3]at this;exact this
     obtain⟨eid',hu,hte,hel'⟩:=hT.un t _ hty;rw[hel]at hel';cases hel';obtain⟨eid1,hu1,_⟩:=hT.un t1 _ hty1;obtain⟨info,z,hi,hsz,hby,hb1,hz,hzs,hzc,hzp⟩:=hT.inf eid et hte;obtain⟨g1,g2⟩:=nO hsv;obtain⟨k1,k2⟩:=nO hxv;have c1:(Nat.ble 1 info.size&&Nat.ble 1 info.bytes&&Nat.beq z.cells.size info.size)=true:=by
      rw[hzs,Nat.beq_refl,hsz,(by rw[Nat.ble_eq];exact kE hU et:Nat.ble 1 (szT U et)=true),(by rw[Nat.ble_eq];exact hb1:Nat.ble 1 info.bytes=true)];rfl
     have hna:isAgg (pev S' s)=false:=kD (v:=⟨.sl et,l'⟩) hsv rfl;have hpa:lI P S' cl s x=(match w'.map (enV U et)with
              |[]=>some (pev S' s,iF S' s,mW S' s)
              |xs=>bif iF S' s&&Nat.ble (((l'.map (enV U et)).length+(w'.map (enV U et)).length)*info.bytes) 1073741824 then some (cC info.size (l'.map (enV U et)++w'.map (enV U et)),true,mW S' s)else none):=by
      have e4:jU info.size (pev S' s)=some (l'.map (enV U et)):=by rw[hsz];exact g1
      have e5:lE info.size (.slice eid1) (pev S' x)=some (w'.map (enV U et)):=by rw[hsz];exact k1
      simp only[lI,hts,hu,hu1,hi,e4,e5,hz,c1,cdt];rfl
     cases hm:aC1 0 (evT U S s).2 with
     |true=>
      rw[hm]at h;obtain⟨hc,h⟩:=bN h;obtain⟨st,hst2⟩:=kM.1 hm;have how:iF S' s=true:=by
       rcases rs.2 0 st hst2 with⟨h1,_⟩|⟨_,_,h1,_⟩
       ·rw[hna]at h1;cases h1
       ·exact rK h1
      cases w' with
      |nil=>
       refine⟨_,pev S' s,iF S' s,h,by rw[hpa];rfl,?_,rs.2⟩
       show VR U (.sl et) (l'++ []) (pev S' s);rw[apN];exact hsv
      |cons w0 w'=>
       refine⟨_,cC info.size (l'.map (enV U et)++(w0::w').map (enV U et)),true,h,?_,vE _ _ hsz (by rw[←List.map_append]),?_⟩
       ·rw[hpa,how];simp only[mpC,List.length_map,lcS,hby];have hc':Nat.ble ((l'.length+(w'.length+1))*T.T.by' eid) 1073741824=true:=hc
        rw[hc'];rfl
       ·intro o s' hi';have hg:=bO info.size (l'.map (enV U et)++(w0::w').map (enV U et));rcases rs.2 o s' hi' with⟨h1,_⟩|⟨h1,_⟩
        ·rw[hna]at h1;cases h1
        ·refine .inr ⟨h1,?_,rfl,fun _=>aAl hg⟩
         cases hc:cC info.size (l'.map (enV U et)++(w0::w').map (enV U et))<;>first|rfl|(rw[hc]at hg;cases hg)
     |false=>
      rw[hm]at h;obtain⟨hc,h⟩:=bN h;cases w' with
      |nil=>exact⟨_,pev S' s,iF S' s,h,by rw[hpa];rfl,hsv,aE _ _⟩
      |cons w0 w'=>cases hc
    ·cases h
   ·cases h
  ·cases h
 ·cases h
theorem ap1T_ok{S:TS U.D}{S':PS}(F:frR U c S S'){ts:List TypeId}{t1 t2:TypeId}{s zz n x:Operand}{K:V U→V U→Option β}(h:ap1T U T.T T.el ts t1 t2 (evT U S s) (evT U S zz).1 (evT U S n).1 (evT U S x).1 K=some r):
    ∃y w v,K y w=some r∧pappV P ts t1 t2 (pev S' s) (iF S' s) (pev S' zz) (pev S' n) (pev S' x)=some v∧slR U c (.val y,[(0,true)]) (v,true)∧svR U c (.ep w) (pinL v):=by
 have rs:=aT F s;have rz:=(aT F zz).1;have rn:=(aT F n).1;have rx:=(aT F x).1;unfold ap1T at h;split at h
 ·rename_i t tz;split at h
  ·rename_i et eid e1 hty hel hty1;split at h
   ·rename_i a l b y kk k v hs hz hn hx;split at h
    ·rename_i l' y0 w' hl hy hw;rw[hn]at rn;cases hb:aC1 0 (evT U S s).2&&Nat.beq t1 t&&Nat.beq t2 eid with
     |false=>rw[hb]at h;cases h
     |true=>
      rw[hb]at h;simp only[bjE,bS,djE]at hb;obtain⟨⟨hm,rfl⟩,rfl⟩:=hb;obtain⟨hc,h⟩:=bN h;simp only[bjE,djE]at hc;obtain⟨hst,hsv⟩:=fF hU hs rs.1;obtain⟨hzt,hzv⟩:=fF hU hz rz;obtain⟨hxt,hxv⟩:=fF hU hx rx;have e2:=iO hl;have e3:=iO hy;have e4:=iO hw;have hsv:VR U (.sl et) l' (pev S' s):=by
       have:VR U (⟨a,l⟩:TV U.D).t (⟨a,l⟩:TV U.D).x (pev S' s):=hsv;rw[e2]at this;exact this
      have hzv:VR U (.sl et) [y0] (pev S' zz):=by
       have:VR U (⟨b,y⟩:TV U.D).t (⟨b,y⟩:TV U.D).x (pev S' zz):=hzv;rw[e3]at this;exact this
      have hxv:VR U et w' (pev S' x):=by
       have:VR U (⟨v.t,v.x⟩:TV U.D).t (⟨v.t,v.x⟩:TV U.D).x (pev S' x):=hxv;rw[e4]at this;exact this
      obtain⟨eid',hu,hte,hel'⟩:=hT.un t1 _ hty;rw[hel]at hel';cases hel';obtain⟨eid1,hu1,_⟩:=hT.un tz _ hty1;obtain⟨info,z,hi,hsz,hby,hb1,hz',hzs,hzc,hzp⟩:=hT.inf t2 et hte;obtain⟨g1,g2⟩:=nO hsv;obtain⟨k1,_⟩:=nO hzv;have hna:isAgg (pev S' s)=false:=kD (v:=⟨.sl et,l'⟩) hsv rfl;obtain⟨st,hst2⟩:=kM.1 hm;have how:iF S' s=true:=by
       rcases rs.2 0 st hst2 with⟨h1,_⟩|⟨_,_,h1,_⟩
       ·rw[hna]at h1;cases h1
       ·exact rK h1
      have e5:jU info.size (pev S' s)=some (l'.map (enV U et)):=by rw[hsz];exact g1
      have e6:lE info.size (.slice eid1) (pev S' zz)=some [enV U et y0]:=by rw[hsz];exact k1
      have e7:pev S' n= .v (.int kk k):=eA rn;have hlen:((l'.map (enV U et)).length+1)*info.bytes=(l'.length+1)*T.T.by' t2:=by rw[List.length_map,hby]
      have hlen2:(k:Int)=((l'.map (enV U et)).length:Int):=by rw[List.length_map];exact hc.2
      have c1:(Nat.ble 1 info.size&&Nat.ble 1 info.bytes&&Nat.beq z.cells.size info.size&&iF S' s&&Nat.ble (((l'.map (enV U et)).length+1)*info.bytes) 1073741824&&Nat.beq t1 t1&&Nat.beq t2 t2&&decide ((k:Int)=((l'.map (enV U et)).length:Int))&&PI.shape (kX et) info.size (pev S' x))=true:=by
       rw[hlen,hc.1,decide_eq_true hlen2,hzs,hsz,kF hU hxv,how,(by rw[Nat.ble_eq];exact kE hU et:Nat.ble 1 (szT U et)=true),(by rw[Nat.ble_eq];exact hb1:Nat.ble 1 info.bytes=true)]
       simp only[Nat.beq_refl,Bool.and_self]
      have hne:l'.map (enV U et)++ [wk (pev S' x)]≠ []:=by simp
      have hmk:PV.sl info.size (l'.map (enV U et)++ [wk (pev S' x)])=cC info.size (l'.map (enV U et)++ [wk (pev S' x)]):=by
       cases hh:l'.map (enV U et)++ [wk (pev S' x)]with
       |nil=>exact(hne hh).elim
       |cons a b=>rfl
      refine⟨_,_,cC info.size (l'.map (enV U et)++ [wk (pev S' x)]),h,?_,⟨vE _ _ hsz (by rw[List.map_append,hxv.wk];rfl),?_⟩,?_⟩
      ·simp only[pappV,hu,hu1,hi,hT.ag _ _ hte,e5,e6,hz',e7];rw[c1,←hmk];rfl
      ·intro o s' hi';simp only[List.mem_singleton,pjE]at hi';have hg:=bO info.size (l'.map (enV U et)++ [wk (pev S' x)]);refine .inr ⟨hi'.1,?_,rfl,fun _=>aAl hg⟩
       cases hc:cC info.size (l'.map (enV U et)++ [wk (pev S' x)])<;>first|rfl|(rw[hc]at hg;cases hg)
      ·rw[←hmk];refine⟨_,_,0,wk (pev S' x),rfl,by simp,?_⟩
       rw[hxv.wk,List.drop_zero];exact List.take_of_length_le (Nat.le_of_eq (eC hU et w'))
    ·cases h
   ·cases h
  ·cases h
 ·cases h
end
end Go.TV
namespace Go.TV
open Go.AI Go.PI
section
variable{P:Program}{U:gP}{T:TP U.D}{c c0:Cx}{β:Type}{r:β}{q p:PSt}{M:TM U.D}
structure vK(U:gP)(s:Sig)(d:List (V U))(p:PSt)(cc:Cx)(args:List (PV×Bool))(S0:TS U.D)(M0:TM U.D):Prop where
 start:unT' U (cutOf s) d=some (S0,M0)
 len:args.length=s.ps.length
 args: ∀i y,args[i]?=some y→slR U cc (mK S0 i) y
 bx: ∀j b,aX M0.bx j=some b→∃e,cc j=some e∧bcR U cc p e b
 dom: ∀j,s.bx.length≤j→cc j=none
 lt: ∀j e id,cc j=some e→e.id=some id→id<p.next
 inj: ∀k k' e e' id,cc k=some e→cc k'=some e'→e.id=some id→e'.id=some id→k=k'
 wr: ∀id,id∈p.wr→id<p.next
structure aEI(U:gP)(s:Sig)(out:List (V U))(p:PSt)(cc:Cx)(pv:PV)(own:Bool)(p':PSt):Prop where
 res:slR U cc (resV U s.own (out.take s.rs.length)) (pv,own)
 out: ∃m,eG U s.bx s.bo (out.drop s.rs.length)=some m∧∀j x,m[j]?=some x→∃e,cc j=some e∧bcR U cc p' e x
 next:p'.next=p.next
 get: ∀id,id<p.next→(∀j e,cc j=some e→e.id≠some id)→p'.get id=p.get id
 get2: ∀id,id<p.next→id∉p'.dirty→p'.get id=p.get id
 dirty: ∀id,id∈p'.dirty→id∈p.dirty∨∃j e,cc j=some e∧e.id=some id
 dirty2: ∀id,id∈p.dirty→id∈p'.dirty
 wr: ∀id,id∈p'.wr→id∈p.wr∨∃j e,cc j=some e∧e.id=some id
def CallOK(U:gP)(T:TP U.D)(tc:jY U.D)(pc:dL):Prop:=
 ∀inst s d out,T.sig inst=some s→tc inst d=some out→∀p cc args S0 M0,vK U s d p cc args S0 M0→∃pv own p',pc s.f args p=some (pv,own,p')∧aEI U s out p cc pv own p'
def jW(c:Cx)(bk:List Nat):Cx:=fun j=>if j<bk.length then c (iY bk j)else none
theorem mV: ∀(l:List Nat) (i:Nat),i<l.length→l[i]?=some (iY l i)
 |x::l,0,_=>rfl
 |x::l,i+1,h=>by rw[gcS];exact mV l i (by simpa using h)
 |[],i,h=>by simp at h
theorem lW: ∀{a b:List Nat},vP a b=true→a=b
 |[],[],_=>rfl
 |x::a,y::b,h=>by
  simp only[vP,bjE,bS,djE]at h;rw[h.1,lW h.2]
 |[],_::_,h=>by cases h
 |_::_,[],h=>by cases h
theorem dW{i:Nat}: ∀{l:List Nat},bC i l=true↔i∈l
 |[]=>by simp[bC]
 |x::l=>by
  simp only[bC,Bool.or_eq_true,bS,djE,dW (l:=l),List.mem_cons];exact or_congr eq_comm Iff.rfl
theorem nP: ∀{l:List Nat},aCX l=true→l.Nodup
 |[],_=>List.nodup_nil
 |x::l,h=>by
  simp only[aCX,bjE,Bool.not_eq_true']at h;refine List.nodup_cons.2 ⟨fun hm=>?_,nP h.2⟩
  rw[dW.2 hm]at h;cases h.1
theorem nth_inj{bk:List Nat}(h:bk.Nodup){i j:Nat}(hi:i<bk.length)(hj:j<bk.length)(e:iY bk i=iY bk j):i=j:=by
 have h1:=mV bk i hi;have h2:=mV bk j hj;rw[←e,←h1]at h2;exact((List.getElem?_inj hj h).1 h2).symm
theorem xY{bk:List Nat}: ∀{caps:List Nat} {ps:List PV},oK caps bk.length=true→(vQ c (mapN (iY bk) caps) ps↔vQ (jW c bk) caps ps)
 |[],[],_=>Iff.rfl
 |k::ks,x::ps,h=>by
  simp only[oK,bjE,fV,djE]at h;simp only[mapN,vQ,jW,if_pos h.1];exact and_congr Iff.rfl (xY h.2)
 |[],_::_,_=>Iff.rfl
 |_::_,[],_=>Iff.rfl
theorem aAD{bk:List Nat}: ∀{caps:List Nat} {ps:List PV},vQ (jW c bk) caps ps→vQ c (mapN (iY bk) caps) ps
 |[],[],_=>trivial
 |k::ks,x::ps,⟨⟨e,id,h1,h2,h3⟩,h4⟩=>by
  unfold jW at h1;split at h1
  ·exact⟨⟨e,id,h1,h2,h3⟩,aAD h4⟩
  ·cases h1
 |[],_::_,h=>h.elim
 |_::_,[],h=>h.elim
theorem aD3{bk:List Nat}{s:SV U.D}{cs:List (PV×Bool)}(h:oG U (jW c bk) s cs):oG U c (renS U bk s) cs:=by
 cases s with
 |cl f caps=>obtain⟨p,b,e,ps,h1,h2⟩:=h;exact⟨p,b,e,ps,h1,aAD h2⟩
 |_=>exact h
theorem VR_wk{t:Ty}{x:Den U.D t}{p:PV}(hU:eE U)(h:VR U t x p):VR U t x (wk p):=by
 refine⟨by rw[h.wk,en_wk hU],?_⟩
 rw[h.wk];exact aBZ (oY hU t x)
def argR(U:gP)(c:Cx)(take:Bool):List (X U)→List (PV×Bool)→Prop
 |[],[]=>True
 |x::xs,y::ys=>(∃pv ow,svR U c x.1 pv∧rtR x.2 pv ow∧y=(wk pv,take&&ow&& !isE pv)∧(take=false→x.2=[])∧(jP pv=true→ow=true))∧argR U c take xs ys
 |_,_=>False
theorem oH{take:Bool}: ∀{xs xs':List (X U)} {ys ys':List (PV×Bool)},argR U c take xs ys→argR U c take xs' ys'→argR U c take (xs++xs') (ys++ys')
 |[],_,[],_,_,h=>h
 |x::xs,_,y::ys,_,h,h'=>⟨h.1,oH h.2 h'⟩
 |[],_,_::_,_,h,_=>h.elim
 |_::_,_,[],_,h,_=>h.elim
theorem zO{take:Bool}: ∀{args:List Operand} {S:TS U.D} {S':PS},frR U c S S'→frR U c (aBc U take S args).2 (gX take S' args).2∧argR U c take (aBc U take S args).1 (gX take S' args).1
 |[],S,S',F=>⟨F,trivial⟩
 |x::xs,S,S',F=>by
  have F1:frR U c (bif take then oV U S x else S) (bif take then mW S' x else S'):=by
   cases take with
   |true=>exact kT F x
   |false=>exact F
  obtain⟨h1,h2⟩:=zO (args:=xs) F1;have:=aT F x;refine⟨h1,⟨pev S' x,iF S' x,this.1,?_,rfl,fun e=>by rw[e];rfl,fun h=>rK (by rw[h,Bool.or_true])⟩,h2⟩
  cases take with
  |true=>exact this.2
  |false=>exact aE _ _
theorem aD4{take:Bool}: ∀{caps:List Nat} {ps:List PV},vQ c caps ps→argR U c take (caps.map fun k=>(SV.lc k 0 [],[])) (lM ps)
 |[],[],_=>trivial
 |k::ks,x::ps,⟨⟨e,id,h1,h2,h3⟩,h4⟩=>by
  refine⟨⟨x,false,⟨e,id,h1,h2,h3⟩,aE _ _,by rw[Bool.and_false,Bool.false_and],fun _=>rfl,fun h=>by rw[h3]at h;cases h⟩,aD4 h4⟩
 |[],_::_,h=>h.elim
 |_::_,[],h=>h.elim
theorem pV{S:TS U.D}{i k:Nat}{x:X U}(h:k≠i):mK ((i,x)::S) k=mK S k:=by rw[kS,if_neg h]
theorem lB: ∀{rs:Rts},mF rs=true→(0,true)∈rs
 |x::rs,h=>by
  obtain⟨a,b⟩:=x;simp only[mF,Bool.or_eq_true,bjE,bS,djE]at h;rcases h with⟨rfl,rfl⟩|h
  ·exact mhE ..
  ·exact mtE _ (lB h)
theorem tU(hU:eE U){bk:List Nat}{take:Bool}: ∀{ps:List (Sh×Bool)} {xs:List (X U)} {ys:List (PV×Bool)} {d:List (V U)} (i0:Nat) (rest:List (V U)),gU U bk ps xs=some d→argR U c take xs ys→
    ys.length=ps.length∧∃S0,unS U (cutOf.psL ps i0) (d++rest)=some (S0,rest)∧∀i y,ys[i]?=some y→slR U (jW c bk) (mK S0 (i0+i)) y
 |[],[],[],d,i0,rest,h,_=>by
  simp only[gU,ojE]at h;subst h;exact⟨rfl,[],rfl,fun i y hy=>by simp at hy⟩
 |(s,own)::ps,x::xs,y::ys,d,i0,rest,h,⟨⟨pv,ow,r1,r2,hy0,r3,r4⟩,hr⟩=>by
  subst hy0;have fin: ∀(sv:SV U.D) (dv dl:List (V U)),gU U bk ps xs=some dl→d=dv++dl→unV U s (dv++(dl++rest))=some (sv,dl++rest)→svR U (jW c bk) sv (wk pv)→(own=true→mF x.2=true∧isAgg pv=false)→
        ((wk pv,take&&ow&& !isE pv)::ys).length=((s,own)::ps).length∧∃S0,unS U (cutOf.psL ((s,own)::ps) i0) (d++rest)=some (S0,rest)∧∀i y,((wk pv,take&&ow&& !isE pv)::ys)[i]?=some y→slR U (jW c bk) (mK S0 (i0+i)) y:=by
   intro sv dv dl hm hd hu hs ho;obtain⟨g1,S0,g2,g3⟩:=tU hU (i0+1) rest hm hr;refine⟨by rw[lcS,lcS,g1],(i0,(sv,ownR own))::S0,?_,?_⟩
   ·rw[hd,apA];simp only[cutOf.psL,unS,hu,g2]
   ·intro i y hy;cases i with
    |zero=>
     simp only[gcZ,ojE]at hy;subst hy;rw[kS,if_pos (Nat.add_zero _)];refine⟨hs,?_⟩;cases own with
     |false=>exact aE _ _
     |true=>
      obtain⟨h1,h2⟩:=ho rfl;have hm:=lB h1;intro o st hi;simp only[ownR,List.mem_singleton,pjE]at hi;have htk:take=true:=by
       cases take with
       |true=>rfl
       |false=>rw[r3 rfl]at hm;cases hm
      rcases r2 _ _ hm with⟨h3,_⟩|⟨_,_,h3,h4⟩
      ·rw[h2]at h3;cases h3
      ·have how:ow=true:=by
        cases hh:jP pv with
        |true=>exact r4 hh
        |false=>rw[hh,Bool.or_false]at h3;exact h3
       refine .inr ⟨hi.1,?_,?_,fun _=>?_⟩
       ·cases pv with
        |agg cs=>cases h2
        |sl z es=>cases es<;>rfl
        |_=>rfl
       ·rw[htk,how,h4 rfl];rfl
       ·cases pv with
        |sl z es=>cases es<;>rfl
        |_=>rfl
    |succ i=>
     rw[gcS]at hy;have:=g3 i y hy;rw[pV (by omega),show i0+(i+1)=i0+1+i by omega]
     exact this
  obtain⟨sx,rx⟩:=x;cases s with
  |val t=>
   simp only[gU]at h;split at h
   ·rename_i v l hv hl;cases hb: !own||(mF rx&& !kX t)with
    |false=>rw[hb]at h;cases h
    |true=>
     rw[hb]at h;simp only[cdt,ojE]at h;obtain⟨h1,h2⟩:=fF hU hv r1;refine fin (.val v) [v] l hl h.symm ?_ (VR_wk hU h2) ?_
     ·simp only[sgA,unV,h1,Ty.beq_rfl,cdt]
     ·intro ho;rw[ho]at hb;simp only[bnT,Bool.false_or,bjE,Bool.not_eq_true']at hb;exact⟨hb.1,kD h2 (by rw[h1];exact hb.2)⟩
   ·cases h
  |lc j off path=>
   cases sx with
   |lc k off' path'=>
    simp only[gU]at h;cases hb: !own&&Nat.blt j bk.length&&Nat.beq k (iY bk j)&&Nat.beq off off'&&vP path path' with
    |false=>rw[hb]at h;cases h
    |true=>
     rw[hb]at h;simp only[cdt]at h;simp only[bjE,fV,bS,djE,Bool.not_eq_true']at hb;obtain⟨⟨⟨⟨h0,h1⟩,h2⟩,h3⟩,h4⟩:=hb;obtain⟨e,id,g1,g2,g3⟩:=r1;refine fin (.lc j off path) [] d h rfl rfl ⟨e,id,?_,g2,by rw[g3,h3];rfl⟩ (fun ho=>by rw[h0]at ho;cases ho)
     unfold jW;rw[if_pos h1,←h2];exact g1
   |_=>cases h
  |cl f caps=>
   cases sx with
   |cl f' caps'=>
    simp only[gU]at h;cases hb: !own&&Nat.beq f f'&&oK caps bk.length&&vP (mapN (iY bk) caps) caps' with
    |false=>rw[hb]at h;cases h
    |true=>
     rw[hb]at h;simp only[cdt]at h;simp only[bjE,bS,djE,Bool.not_eq_true']at hb;obtain⟨⟨⟨h0,h1⟩,h2⟩,h3⟩:=hb;obtain⟨qs,g1,g2⟩:=r1;refine fin (.cl f caps) [] d h rfl rfl ⟨qs,by rw[g1,h1];rfl,(xY h2).1 (by rw[lW h3];exact g2)⟩ (fun ho=>by rw[h0]at ho;cases ho)
   |_=>cases h
  |rw j=>
   cases sx with
   |rw k=>
    simp only[gU]at h;cases hb: !own&&Nat.blt j bk.length&&Nat.beq k (iY bk j)with
    |false=>rw[hb]at h;cases h
    |true=>
     rw[hb]at h;simp only[cdt]at h;simp only[bjE,fV,bS,djE,Bool.not_eq_true']at hb;obtain⟨⟨h0,h1⟩,h2⟩:=hb;obtain⟨e,g1,g2⟩:=r1;refine fin (.rw j) [] d h rfl rfl ⟨e,?_,?_⟩ (fun ho=>by rw[h0]at ho;cases ho)
     ·unfold jW;rw[if_pos h1,←h2];exact g1
     ·rcases g2 with⟨k1,k2,rfl|rfl⟩|⟨id,k1,k2,rfl⟩
      ·exact .inl ⟨k1,k2,.inr rfl⟩
      ·exact .inl ⟨k1,k2,.inr rfl⟩
      ·exact .inr ⟨id,k1,k2,rfl⟩
   |_=>cases h
  |_=>cases h
 |[],_::_,_,d,i0,rest,h,_=>by cases h
 |(s,o)::_,[],_,d,i0,rest,h,_=>by cases s<;>cases h
 |_,[],_::_,d,i0,rest,h,hr=>hr.elim
 |_,_::_,[],d,i0,rest,h,hr=>hr.elim
end
end Go.TV
namespace Go.TV
open Go.AI Go.PI
section
variable{P:Program}{U:gP}{T:TP U.D}{c c0:Cx}{β:Type}{r:β}{q p:PSt}{M:TM U.D}
theorem aC6{x:Nat×Bool}: ∀{rs:Rts},leR.memW x rs=true→∃s,(x.1,s)∈rs∧(x.2=true→s=true)
 |y::ys,h=>by
  simp only[leR.memW,Bool.or_eq_true,bjE,bS,djE,Bool.not_eq_true']at h;rcases h with⟨h1,h2⟩|h
  ·refine⟨y.2,by rw[h1];exact mhE ..,fun e=>?_⟩
   rcases h2 with h2|h2
   ·rw[e]at h2;cases h2
   ·exact h2
  ·obtain⟨s,h1,h2⟩:=aC6 h;exact⟨s,mtE _ h1,h2⟩
theorem aC5: ∀{rs rs':Rts},leR rs rs'=true→∀o s,(o,s)∈rs→∃s',(o,s')∈rs'∧(s=true→s'=true)
 |x::rs,rs',h,o,s,hm=>by
  simp only[leR,bjE]at h;rcases List.mem_cons.1 hm with rfl|hm
  ·exact aC6 h.1
  ·exact aC5 h.2 o s hm
theorem yZ{rs rs':Rts}{cs:List (PV×Bool)}(h:leR rs rs'=true)(hb:rtB rs' cs):rtB rs cs:=fun o s hm=>by
 obtain⟨s',h1,h2⟩:=aC5 h o s hm;obtain⟨x,h3,h4⟩:=hb o s' h1;exact⟨x,h3,fun e=>h4 (h2 e)⟩
theorem rtR_le{rs rs':Rts}{pv:PV}{ow:Bool}(h:leR rs rs'=true)(hb:rtR rs' pv ow):rtR rs pv ow:=fun o s hm=>by
 obtain⟨s',h1,h2⟩:=aC5 h o s hm;rcases hb o s' h1 with h3|⟨h3,h4,h5,h6⟩
 ·exact .inl h3
 ·exact .inr ⟨h3,h4,h5,fun e=>h6 (h2 e)⟩
theorem nR{bk:List Nat}(Mm:MR U q c0 c M p): ∀{l:List (Sh×Rts)} {j:Nat} {e:List (V U)} (rest:List (V U)),tT U bk M l j=some e→j+l.length≤bk.length→
    ∃M0,unB U (cutOf.bxL l j) (e++rest)=some (M0,rest)∧(∀i b,aX M0 i=some b→∃ce,jW c bk i=some ce∧bcR U (jW c bk) p ce b)∧(∀i,i<l.length→aX M.bx (iY bk (j+i))≠none)
 |[],j,e,rest,h,_=>by
  simp only[tT,ojE]at h;subst h;exact⟨[],rfl,fun i b h=>(by cases h),fun i h=>(by simp at h)⟩
 |(s,rr)::l,j,e,rest,h,hj=>by
  simp only[lcS]at hj;unfold tT at h;split at h
  ·rename_i cont rs d hf hd;cases hb:leR rr rs with
   |false=>rw[hb]at h;cases h
   |true=>
    rw[hb]at h;simp only[cdt]at h;obtain⟨M0,g1,g2,g3⟩:=nR Mm rest hd (by omega)
    obtain⟨ce,hce,id,cs,hid,hget,hcs,hrt⟩:=Mm.bx _ _ hf;have hcc:jW c bk j=some ce:=by unfold jW;rw[if_pos (by omega)];exact hce
    have hne: ∀i,i<((s,rr)::l).length→aX M.bx (iY bk (j+i))≠none:=by
     intro i hi;cases i with
     |zero=>rw[Nat.add_zero,hf];exact fun e=>by cases e
     |succ i=>have:=g3 i (by simpa using hi);rwa [show j+(i+1)=j+1+i by omega]
    split at h
    ·rename_i t v;cases hv:v.t.beq t with
     |false=>rw[hv]at h;cases h
     |true=>
      rw[hv]at h;simp only[cdt,ojE]at h;subst h;refine⟨(j,.bx (.val v) rr)::M0,?_,?_,hne⟩
      ·simp only[cutOf.bxL,cnA,unB,unV,hv,cdt,g1]
      ·intro i b hb';rw[bZ]at hb';by_cases e1:i=j
       ·rw[if_pos e1]at hb';simp only[ojE]at hb';subst hb';subst e1;exact⟨ce,hcc,id,cs,hid,hget,hcs,yZ hb hrt⟩
       ·rw[if_neg e1]at hb';exact g2 i b hb'
    ·rename_i f caps f' caps';cases hv:Nat.beq f f'&&oK caps bk.length&&vP (mapN (iY bk) caps) caps' with
     |false=>rw[hv]at h;cases h
     |true=>
      rw[hv]at h;simp only[cdt,ojE]at h;subst h;simp only[bjE,bS,djE]at hv;obtain⟨⟨rfl,h2⟩,h3⟩:=hv;obtain⟨pv,bb,e1,ps,e2,e3⟩:=hcs;refine⟨(j,.bx (.cl f caps) rr)::M0,?_,?_,hne⟩
      ·simp only[cutOf.bxL,unB,unV,g1]
      ·intro i b hb';rw[bZ]at hb';by_cases e4:i=j
       ·rw[if_pos e4]at hb';simp only[ojE]at hb';subst hb';subst e4;exact⟨ce,hcc,id,cs,hid,hget,⟨pv,bb,e1,ps,e2,(xY h2).1 (by rw[lW h3];exact e3)⟩,yZ hb hrt⟩
       ·rw[if_neg e4]at hb';exact g2 i b hb'
    ·cases h
  ·rename_i et x d hf hd;obtain⟨M0,g1,g2,g3⟩:=nR Mm rest hd (by omega)
   obtain⟨ce,hce,hrow⟩:=Mm.bx _ _ hf;have hcc:jW c bk j=some ce:=by unfold jW;rw[if_pos (by omega)];exact hce
   split at h
   ·rename_i t;cases hv:et.beq t with
    |false=>rw[hv]at h;cases h
    |true=>
     rw[hv]at h;simp only[cdt,ojE]at h;subst h;have:=Ty.beq_eq hv;subst this;refine⟨(j,.row et x)::M0,?_,?_,?_⟩
     ·simp only[cutOf.bxL,cnA,unB,hv,cdt,g1]
     ·intro i b hb';rw[bZ]at hb';by_cases e1:i=j
      ·rw[if_pos e1]at hb';simp only[ojE]at hb';subst hb';subst e1;exact⟨ce,hcc,hrow⟩
      ·rw[if_neg e1]at hb';exact g2 i b hb'
     ·intro i hi;cases i with
      |zero=>rw[Nat.add_zero,hf];exact fun e=>by cases e
      |succ i=>have:=g3 i (by simpa using hi);rwa [show j+(i+1)=j+1+i by omega]
   ·cases h
  ·cases h
theorem aL: ∀{ts:List Ty} {l:List (V U)} {r:DenL U.D ts},cM ts l=some r→tvL ts r=l
 |[],[],r,h=>rfl
 |t::ts,v::vs,r,h=>by
  unfold cM at h;split at h
  ·rename_i x r' h1 h2;simp only[ojE]at h;subst h;rw[tvL,aL h2];have:=iO h1;simp only;rw[←this]
  ·cases h
 |[],_::_,r,h=>by cases h
 |_::_,[],r,h=>by cases h
theorem obL_some{ts:List Ty}{a:Option (List (V U))}{K:DenL U.D ts→Option β}(h:obL ts a K=some r): ∃l x,a=some l∧tvL ts x=l∧K x=some r:=by
 unfold obL at h;split at h
 ·rename_i l;split at h
  ·rename_i x hx;exact⟨l,x,rfl,aL hx,h⟩
  ·cases h
 ·cases h
theorem kJ: ∀{l:List (Sh×Rts)} {rs:List Rts} {d:List (V U)} {m:List (BC U.D)},eG U l rs d=some m→m.length=l.length
 |[],[],[],m,h=>by simp only[eG,ojE]at h;subst h;rfl
 |(.val t,rr)::l,r::rs,v::d,m,h=>by
  simp only[eG]at h;split at h
  ·rename_i m' hm;cases h;simp only[lcS,kJ hm]
  ·cases h
 |(.cl f caps,rr)::l,r::rs,d,m,h=>by
  simp only[eG]at h;split at h
  ·rename_i m' hm;cases h;simp only[lcS,kJ hm]
  ·cases h
 |[],_::_,_,_,h=>by simp[eG]at h
 |[],[],_::_,_,h=>by simp[eG]at h
 |(s,rr)::l,[],d,m,h=>by cases s<;>simp[eG]at h
 |(.val t,rr)::l,r::rs,[],m,h=>by simp[eG]at h
 |(.tup _,_)::_,_::_,_,_,h=>by simp[eG]at h
 |(.nl,_)::_,_::_,_,_,h=>by simp[eG]at h
 |(.lc _ _ _,_)::_,_::_,_,_,h=>by simp[eG]at h
 |(.ep _,_)::_,_::_,_,_,h=>by simp[eG]at h
 |(.rw _,_)::_,_::_,_,_,h=>by simp[eG]at h
 |(.nf,_)::_,_::_,_,_,h=>by simp[eG]at h
 |(.row t,rr)::l,r::rs,⟨.sl e,x⟩::d,m,h=>by
  simp only[eG]at h;split at h
  ·rename_i m' hm;cases h;simp only[lcS,kJ hm]
  ·cases h
 |(.row t,rr)::l,r::rs,[],m,h=>by simp[eG]at h
 |(.row t,rr)::l,r::rs,⟨.int _,x⟩::d,m,h=>by simp[eG]at h
 |(.row t,rr)::l,r::rs,⟨.bool,x⟩::d,m,h=>by simp[eG]at h
 |(.row t,rr)::l,r::rs,⟨.str,x⟩::d,m,h=>by simp[eG]at h
 |(.row t,rr)::l,r::rs,⟨.rc _,x⟩::d,m,h=>by simp[eG]at h
theorem pX{bk:List Nat}(hn:bk.Nodup): ∀(m:List (BC U.D)) (j0:Nat) (B:List (Nat×BC U.D)),(∀j,j<m.length→aX B (iY bk (j0+j))≠none)→j0+m.length≤bk.length→∀k,
    (∃j x,m[j]?=some x∧iY bk (j0+j)=k∧aX (putB U bk m j0 B) k=some (renB U bk x))∨((∀j,j<m.length→iY bk (j0+j)≠k)∧aX (putB U bk m j0 B) k=aX B k)
 |[],j0,B,_,_,k=> .inr ⟨fun j h=>by simp at h,rfl⟩
 |x::m,j0,B,hB,hl,k=>by
  simp only[lcS]at hl;have h0:aX B (iY bk j0)≠none:=by have:=hB 0 (by simp);rwa [Nat.add_zero]at this
  have hB': ∀j,j<m.length→aX (pH B (iY bk j0) (renB U bk x)) (iY bk (j0+1+j))≠none:=by
   intro j hj;have:=hB (j+1) (by simpa using hj)
   rw[show j0+(j+1)=j0+1+j by omega]at this
   rw[dR];split
   ·cases hh:aX B (iY bk j0)with
    |none=>exact(h0 hh).elim
    |some b=>exact fun e=>by cases e
   ·exact this
  rcases pX hn m (j0+1) (pH B (iY bk j0) (renB U bk x)) hB' (by omega) k with⟨j,y,h1,h2,h3⟩|⟨h1,h2⟩
  ·exact .inl ⟨j+1,y,by rw[gcS];exact h1,by rw[←h2];congr 1;omega,h3⟩
  ·by_cases hk:iY bk j0=k
   ·refine .inl ⟨0,x,rfl,by rw[Nat.add_zero];exact hk,?_⟩
    rw[putB,h2,dR,if_pos hk.symm];cases hh:aX B (iY bk j0)with
    |none=>exact(h0 hh).elim
    |some b=>rfl
   ·refine .inr ⟨fun j hj=>?_,?_⟩
    ·cases j with
     |zero=>rw[Nat.add_zero];exact hk
     |succ j=>have:=h1 j (by simpa using hj);rwa [show j0+(j+1)=j0+1+j by omega]
    ·rw[putB,h2,dR,if_neg (fun e=>hk e.symm)]
theorem bcR_cc{bk:List Nat}{e:Ce}{x:BC U.D}(h:bcR U (jW c bk) p e x):bcR U c p e (renB U bk x):=by
 cases x with
 |bx s r=>
  obtain⟨id,cs,h1,h2,h3,h4⟩:=h;exact⟨id,cs,h1,h2,aD3 h3,h4⟩
 |row t l=>exact h
 |gone=>trivial
theorem MR.call(Mm:MR U q c0 c M p){bk:List Nat}(hn:bk.Nodup){m:List (BC U.D)}(hm:m.length=bk.length)(hne: ∀i,i<bk.length→aX M.bx (iY bk i)≠none){p':PSt}
    (hb: ∀j x,m[j]?=some x→∃e,jW c bk j=some e∧bcR U (jW c bk) p' e x) (hnx:p'.next=p.next)
    (hg: ∀id,id<p.next→(∀j e,jW c bk j=some e→e.id≠some id)→p'.get id=p.get id)
    (hg2: ∀id,id<p.next→id∉p'.dirty→p'.get id=p.get id)
    (hd: ∀id,id∈p'.dirty→id∈p.dirty∨∃j e,jW c bk j=some e∧e.id=some id) (hd2: ∀id,id∈p.dirty→id∈p'.dirty)
    (hw: ∀id,id∈p'.wr→id∈p.wr∨∃j e,jW c bk j=some e∧e.id=some id):
    MR U q c0 c ⟨putB U bk m 0 M.bx,bk++M.wr⟩ p'∧(WR U c M p→WR U c ⟨putB U bk m 0 M.bx,bk++M.wr⟩ p'):=by
 have hput:=pX hn m 0 M.bx (fun j hj=>by rw[Nat.zero_add];exact hne j (by omega)) (by omega)
 simp only[Nat.zero_add]at hput;have cck: ∀{j e},jW c bk j=some e→j<bk.length∧c (iY bk j)=some e:=by
  intro j e h;unfold jW at h;split at h
  ·rename_i hj;exact⟨hj,h⟩
  ·cases h
 have bor: ∀{j e id},jW c bk j=some e→e.id=some id→id<q.next→∃k e,c0 k=some e∧e.id=some id:=by
  intro j e id h1 h2 h3;obtain⟨_,h4⟩:=cck h1;have hk:iY bk j<100:=by
   rcases Nat.lt_or_ge (iY bk j) 100 with h|h
   ·exact h
   ·have:=Mm.loc _ e id h4 h h2;omega
  exact⟨_,e,Mm.bor _ e h4 hk,h2⟩
 refine⟨⟨fun k h=>?_,fun k b h=>?_,fun k e id h1 h2=>by rw[hnx];exact Mm.lt k e id h1 h2,Mm.inj,by rw[hnx];exact Mm.next,Mm.bor,Mm.loc,fun id hi ho=>?_,fun id hi hlt=>?_,fun id hi=>?_⟩,fun hW id hi k e h1 h2=>?_⟩
 ·simp only at h;rcases hput k with⟨j,x,h1,h2,h3⟩|⟨h1,h2⟩
  ·rw[h3]at h;cases h
  ·rw[h2]at h;exact Mm.dom k h
 ·simp only at h;rcases hput k with⟨j,x,h1,h2,h3⟩|⟨h1,h2⟩
  ·rw[h3]at h;cases h;obtain⟨e,g1,g2⟩:=hb j x h1;obtain⟨_,g3⟩:=cck g1;exact⟨e,by rw[←h2];exact g3,bcR_cc g2⟩
  ·rw[h2]at h;obtain⟨e,g1,g2⟩:=Mm.bx k b h;refine⟨e,g1,mB g2 fun id hid=>hg id (Mm.lt k e id g1 hid) fun j e' h3 h4=>?_⟩
   obtain⟨g3,g4⟩:=cck h3;exact h1 j (by omega) (Mm.inj _ _ e' e id g4 g1 h4 hid)
 ·rw[hg2 id (Nat.lt_of_lt_of_le hi Mm.next) ho]
  exact Mm.old id hi fun h=>ho (hd2 id h)
 ·rcases hd id hi with h|⟨j,e,h1,h2⟩
  ·exact Mm.dirty id h hlt
  ·exact bor h1 h2 hlt
 ·rcases hw id hi with h|⟨j,e,h1,h2⟩
  ·rw[hnx];exact Mm.wr id h
  ·rw[hnx];exact⟨Mm.lt _ e id (cck h1).2 h2,fun hlt=>bor h1 h2 hlt⟩
 ·have happ: ∀{l l':List Nat},bC k (l++l')=(bC k l||bC k l'):=by
   intro l l';rw[Bool.eq_iff_iff,Bool.or_eq_true,dW,dW,dW,List.mem_append]
  show bC k (bk++M.wr)=true;rw[happ,Bool.or_eq_true];rcases hw id hi with h|⟨j,e',h3,h4⟩
  ·exact .inr (hW id h k e h1 h2)
  ·obtain⟨h5,h6⟩:=cck h3;have:=Mm.inj _ _ e e' id h1 h6 h2 h4;left;rw[dW,this];exact List.mem_of_getElem? (mV bk j h5)
theorem slR_cc{bk:List Nat}{own:Bool}{l:List (V U)}{y:PV×Bool}(h:slR U (jW c bk) (resV U own l) y):slR U c (resV U own l) y:=by
 unfold resV at h⊢;split at h<;>exact h
theorem callK_ok(hU:eE U){tc:jY U.D}{pc:dL}(hc:CallOK U T tc pc){take:Bool}{inst:Nat}{bk:List Nat}{S:TS U.D}{S':PS}(F:frR U c S S'){cl:Call}{f:Operand}{K:X U→TS U.D→TM U.D→Option β}
    (hcl:cl.callee= .value f) (h:callK U T tc take inst bk S M (evT U S f).1 cl.args.toList K=some r) (Mm:MR U q c0 c M p):
    ∃x S2 M' v own p' g args,K x S2 M'=some r∧jL take S' cl=some (g,args)∧pc g args p=some (v,own,p')∧slR U c x (v,own)∧frR U c S2 (gX take S' cl.args.toList).2∧MR U q c0 c M' p'∧(WR U c M p→WR U c M' p')∧p'.next=p.next:=by
 have rf:=(aT F f).1;unfold callK at h;split at h
 ·rename_i g caps s hf hs;rw[hf]at rf;obtain⟨ps,e1,e2⟩:=rf;have e1:pev S' f= .fn g [] ps:=e1;split at h
  ·rename_i d e hd he;cases hb:Nat.beq g s.f&&aCX bk&&Nat.beq bk.length s.bx.length with
   |false=>rw[hb]at h;cases h
   |true=>
    rw[hb]at h;simp only[cdt]at h;simp only[bjE,bS,djE]at hb;obtain⟨⟨hg,hnd⟩,hlen⟩:=hb;have hnd:=nP hnd;obtain⟨out,x,h1,h2,h⟩:=obL_some h;split at h
    ·rename_i m hm;obtain⟨g1,g2⟩:=zO (take:=take) (args:=cl.args.toList) F;have g3:=oH g2 (aD4 (take:=take) e2);obtain⟨k1,S0,k2,k3⟩:=tU hU 0 e hd g3;obtain⟨M0,k4,k5,k6⟩:=nR Mm [] he (by omega)
     rw[apN]at k4;have hin:vK U s (d++e) p (jW c bk) ((gX take S' cl.args.toList).1++lM ps) S0 ⟨M0,[]⟩:=by
      refine⟨?_,k1,fun i y hy=>?_,k5,fun j hj=>?_,fun j e id h1 h2=>?_,fun k k' e e' id h1 h2 h3 h4=>?_,fun id hi=>(Mm.wr id hi).1⟩
      ·simp only[unT',cutOf,k2,k4]
      ·have:=k3 i y hy;rwa [Nat.zero_add]at this
      ·unfold jW;rw[if_neg (by omega)]
      ·unfold jW at h1;split at h1
       ·exact Mm.lt _ e id h1 h2
       ·cases h1
      ·unfold jW at h1 h2;split at h1
       ·rename_i hk;split at h2
        ·rename_i hk';exact nth_inj hnd hk hk' (Mm.inj _ _ e e' id h1 h2 h3 h4)
        ·cases h2
       ·cases h1
     obtain⟨pv,own,p',j1,j2⟩:=hc inst s _ out hs h1 p (jW c bk) _ S0 _ hin;rw[h2]at hm h;obtain⟨m',j3,j4⟩:=j2.out;rw[hm]at j3;cases j3;obtain⟨j5,j6⟩:=Mm.call hnd (m:=m) (by rw[kJ hm,hlen]) (fun i hi=>by have:=k6 i (by omega);rwa [Nat.zero_add]at this) j4 j2.next j2.get j2.get2 j2.dirty j2.dirty2 j2.wr
     refine⟨_,_,_,pv,own,p',s.f,_,h,?_,j1,slR_cc j2.res,g1,j5,j6,j2.next⟩
     simp only[jL,hcl,e1,hg,lM,nlA]
    ·cases h
  ·cases h
 ·cases h
end
end Go.TV
namespace Go.TV
open Go.AI Go.PI
section
variable{P:Program}{U:gP}{T:TP U.D}{c c0:Cx}{β:Type}{r:β}{q p:PSt}{M:TM U.D}
def Post(P:Program)(U:gP)(pc:dL)(sq take:Bool)(o:Oper)(S':PS)(p q:PSt)(c0 c:Cx)(M:TM U.D)(K:X U→TS U.D→TM U.D→Option β)(r:β):Prop:=
 ∃c' x S2 M2 v own S2' p',K x S2 M2=some r∧pop P pc sq o take S' p=some (v,own,S2',p')∧leC c c'∧slR U c' x (v,own)∧frR U c' S2 S2'∧MR U q c0 c' M2 p'∧(WR U c M p→WR U c' M2 p')∧p.next≤p'.next
theorem aA8{take:Bool}{p p':PSt}{t:TypeId}{a v:PV}{own:Bool}(h:nG P take p t a=some (v,own,p')):p.next≤p'.next:=by
 have hm:(cU p a).1.next=p.next:=by
  unfold cU;split
  ·split
   ·split<;>rfl
   ·rfl
  ·rfl
 unfold nG at h;split at h
 ·rename_i w _;cases hb:take&&aBQ w with
  |true=>rw[hb]at h;simp only[cdt,ojE,pjE]at h;rw[←h.2.2,hm];exact nlR _
  |false=>rw[hb]at h;simp only[cdf,ojE,pjE]at h;rw[←h.2.2];exact nlR _
 ·cases h
theorem wG{p p':PSt}{t:TypeId}{a x:PV}{own:Bool}(h:iD P p t a x own=some p'):p.next≤p'.next:=by
 unfold iD at h;simp only[Bool.cond_eq_ite]at h
 repeat' split at h
 all_goals first|(cases h;done)|(simp only[ojE]at h;rw[←h];exact nlR _)
theorem jM{p p':PSt}{S':PS}{o:Oper}{v:PV}{own:Bool}(h:bR P p S' o=some (v,own,p')):p.next≤p'.next:=by
 unfold bR at h;simp only[Bool.cond_eq_ite]at h
 repeat' split at h
 all_goals first|(cases h;done)|(simp only[ojE,pjE]at h;rw[←h.2.2];first|exact nlR _|exact Nat.le_succ _)
theorem aAI{K:Nat→Option β}{m:Int}: ∀{f j0:Nat},arI K m j0 f=some r→∃j,j0≤j∧j<j0+f∧m=(j:Int)∧K j=some r
 |0,_,h=>by cases h
 |f+1,j0,h=>by
  unfold arI at h;by_cases e:m=(j0:Int)
  ·rw[decide_eq_true e]at h;exact⟨j0,nlR _,by omega,e,h⟩
  ·rw[decide_eq_false e]at h;obtain⟨j,h1,h2,h3,h4⟩:=aAI h;exact⟨j,by omega,by omega,h3,h4⟩
theorem sX(te:Ty): ∀j:Nat,bU U (List.replicate j te)=j*szT U te
 |0=>by simp[bU]
 |j+1=>by
  rw[List.replicate_succ,Nat.succ_mul];simp only[bU];rw[sX te j];omega
theorem lenK_ok(hT:qN P U T)(Mm:MR U q c0 c M p){t:TypeId}{x:SV U.D}{v:PV}{K:X U→Option β}(h:lenK U M (T.T.ty t) x K=some r)(ra:svR U c x v):
    ∃y w,K y=some r∧aBP P t v=some w∧slR U c y (w,false):=by
 unfold lenK at h;split at h
 ·rename_i k;split at h
  ·rename_i e e' l ht hf;cases he:e.beq e' with
   |false=>rw[he]at h;cases h
   |true=>
    rw[he]at h;have:=Ty.beq_eq he;subst this;obtain⟨ce,g1,g2⟩:=ra;obtain⟨ce',g1',hn,hz,_⟩:=Mm.bx _ _ hf;rw[g1]at g1';cases g1';obtain⟨eid,hu,_⟩:=hT.un t _ ht;refine⟨_,i64 (l.length:Int),h,?_,cV _ _,aE _ _⟩;rcases g2 with⟨_,hn0,rfl|rfl⟩|⟨id,_,_,rfl⟩
    ·simp only[aBP,hu,lnN];rw[←hn,hn0]
    ·simp only[aBP,hu];rw[←hn,hn0];rfl
    ·simp only[aBP,hu];rw[hn]
  ·cases h
 ·exact lenT_ok hT h ra
variable{pc:dL}{sq take:Bool}{o:Oper}{S:TS U.D}{S':PS}{K:X U→TS U.D→TM U.D→Option β}
theorem tJ(Mm:MR U q c0 c M p)(hk:aK o= .pure){x:X U}{S2:TS U.D}{v:PV}{own:Bool}{S2':PS}(h:K x S2 M=some r)(hp:bF P take S' o=some (v,own,S2'))(hx:slR U c x (v,own))(hF:frR U c S2 S2'):Post P U pc sq take o S' p q c0 c M K r:=
 ⟨c,x,S2,M,v,own,S2',p,h,by simp only[pop,hk,tI,hp,omS],leC.refl c,hx,hF,Mm,fun hw=>hw,nlR _⟩
theorem cN(Mm:MR U q c0 c M p)(F:frR U c S S')(hk:aK o= .pure){x:X U}{v:PV}(h:K x S M=some r)(hp:bF P take S' o=some (v,false,S'))(hx:slR U c x (v,false)):Post P U pc sq take o S' p q c0 c M K r:=
 tJ Mm hk h hp hx F
theorem aAB(F:frR U c S S'): ∀{l:List Operand} {ks:List Nat},aD5 U S l=some ks→vQ c ks (wks (l.map (pev S')))
 |[],ks,h=>by simp only[aD5,ojE]at h;subst h;trivial
 |x::l,ks,h=>by
  unfold aD5 at h;split at h
  ·rename_i k ks' hx hl;simp only[ojE]at h;subst h;have h1:=(aT F x).1;rw[hx]at h1;obtain⟨e,id,g1,g2,g3⟩:=h1;have g3:pev S' x= .ptr id 0:=g3;refine⟨⟨e,id,g1,g2,by rw[g3];rfl⟩,aAB F hl⟩
  ·cases h
variable(hU:eE U)(hT:qN P U T)
include hU hT
theorem opT_ok{tc:jY U.D}(hc:CallOK U T tc pc)(F:frR U c S S')(Mm:MR U q c0 c M p){inst:Nat}{bk:List Nat}(h:opT U T tc sq take inst bk o S M K=some r):Post P U pc sq take o S' p q c0 c M K r:=by
 obtain⟨dst,op,ty,pos,aft,gd'⟩:=o;have mv: ∀(x:Operand),(bif take then K (evT U S x) (oV U S x) M else K (mR U (evT U S x)) S M)=some r→(op= .move x∨op= .assign x)→Post P U pc sq take ⟨dst,op,ty,pos,aft,gd'⟩ S' p q c0 c M K r:=by
  intro x h ho;cases take with
  |true=>
   refine tJ Mm ?_ h (v:=pev S' x) (own:=iF S' x) (S2':=mW S' x) ?_ (aT F x) (kT F x)
   ·rcases ho with rfl|rfl<;>rfl
   ·rcases ho with rfl|rfl<;>rfl
  |false=>
   refine cN Mm F ?_ h (v:=pev S' x) ?_ (kP (aT F x))
   ·rcases ho with rfl|rfl<;>rfl
   ·rcases ho with rfl|rfl<;>rfl
 cases op with
 |move x=>exact mv x h (.inl rfl)
 |assign x=>exact mv x h (.inr rfl)
 |pick w a b=>
  simp only[opT]at h;split at h
  ·rename_i wb hw;have h1:=(aT F w).1;rw[hw]at h1;have h1:=of_bool h1;have h1:pev S' w= .v (.bool wb):=h1;obtain⟨x,h2,h3⟩:=pickT_ok h (aT F a) (aT F b);refine cN Mm F rfl h2 ?_ h3;simp only[bF,h1];cases wb<;>rfl
  ·cases h
 |build t parts=>
  simp only[opT]at h;split at h
  ·rename_i n ht;split at h
   ·rename_i l hl;obtain⟨x,hx,h⟩:=gF h;obtain⟨w,h1,h2⟩:=build_ok hU hT F ht hl hx;exact cN Mm F rfl h (by simp only[bF,h1,omS]) h2
   ·cases h
  ·cases h
 |nilCheck x=>
  simp only[opT]at h;have h1:=(aT F x).1;split at h
  ·rename_i k off path hx;rw[hx]at h1;have h2:=h1;obtain⟨e,id,g1,g2,g3⟩:=h1;have g3:pev S' x= .ptr id off:=g3;exact cN Mm F rfl h (v:= .ptr id off) (by simp only[bF,g3]) ⟨⟨e,id,g1,g2,rfl⟩,aE _ _⟩
  ·rename_i v hx;rw[hx]at h1;obtain⟨es,i,off,e,g1,g2,g3⟩:=h1;have g1:pev S' x= .pin es i off:=g1;exact cN Mm F rfl h (v:= .pin es i off) (by simp only[bF,g1]) ⟨⟨es,i,off,e,rfl,g2,g3⟩,aE _ _⟩
  ·rename_i k i off path hx;rw[hx]at h1;obtain⟨e,id,g1,g2,g3,g4,g5⟩:=h1;have g5:pev S' x= .ptr id (i.toNat*e.z+off):=g5;exact cN Mm F rfl h (v:= .ptr id (i.toNat*e.z+off)) (by simp only[bF,g5]) ⟨⟨e,id,g1,g2,g3,g4,rfl⟩,aE _ _⟩
  ·cases h
 |binOp op t x y t'=>
  simp only[opT]at h;obtain⟨v,w,h1,h2,h3⟩:=binT_ok hU hT (x:=x) (y:=y) h (zrV_ok hU (aT F x).1) (zrV_ok hU (aT F y).1);have h2:mQ P op t x y (pev S' x) (pev S' y)=some w:=h2;exact cN Mm F rfl h1 (by simp only[bF,h2,omS]) ⟨h3,aE _ _⟩
 |unOp op t x=>
  simp only[opT]at h;obtain⟨v,w,h1,h2,h3⟩:=unT_ok (P:=P) h (aT F x).1;have h2:pun P op (pev S' x)=some w:=h2;exact cN Mm F rfl h1 (by simp only[bF,h2,omS]) ⟨h3,aE _ _⟩
 |convert s d x=>
  simp only[opT]at h;obtain⟨v,w,h1,h2,h3⟩:=convT_ok hT h (aT F x).1;rcases h3 with h3|⟨hs,h3,h4⟩
  ·have h3:oR P s d (pev S' x)=some w:=h3;exact cN Mm F rfl h1 (by simp only[bF,h3,omS]) ⟨h2,aE _ _⟩
  ·have h3:oR P s d (pev S' x)=none:=h3;have h4:pR P s d (pev S' x)=some w:=h4;refine⟨c,_,S,M,w,false,S',p,h1,?_,leC.refl c,⟨h2,aE _ _⟩,F,Mm,fun hw=>hw,nlR _⟩
   rw[hs];simp only[pop,aK,tI,bF,h3,Option.map_none,cdt,h4,omS]
 |makeFunc fn first captured=>
  simp only[opT]at h;split at h
  ·rename_i f ks h1 h2;refine cN Mm F rfl h (v:= .fn f (wks (first.toList.map (pev S'))) (wks (captured.toList.map (pev S')))) rfl ⟨⟨_,?_,aAB F h2⟩,aE _ _⟩
   rw[h1];rfl
  ·cases h
 |fieldAddr s x f=>
  simp only[opT]at h;have h1:=(aT F x).1;split at h
  ·rename_i n k off path ht hx;rw[hx]at h1;obtain⟨e,id,g1,g2,g3⟩:=h1;have g3:pev S' x= .ptr id off:=g3;cases hf:Nat.blt f (U.fs n).length with
   |false=>rw[hf]at h;cases h
   |true=>
    rw[hf]at h;rw[fV,djE]at hf;have:=(gL hU hT ht hf).1 id off;exact cN Mm F rfl h (by simp only[bF,g3,this,omS]) ⟨⟨e,id,g1,g2,rfl⟩,aE _ _⟩
  ·rename_i n v ht hx;rw[hx]at h1;cases hb:v.t.beq (.rc n)with
   |false=>rw[hb]at h;cases h
   |true=>
    rw[hb]at h;simp only[cdt]at h;split at h
    ·rename_i w hw;obtain⟨q1,h2,h3⟩:=uI hU hT ht hb hw h1;have h2:cK P s (pev S' x) f=some q1:=h2;exact cN Mm F rfl h (by simp only[bF,h2,omS]) ⟨h3,aE _ _⟩
    ·cases h
  ·rename_i n k i off path ht hx;rw[hx]at h1;obtain⟨e,id,g1,g2,g3,g4,g5⟩:=h1;have g5:pev S' x= .ptr id (i.toNat*e.z+off):=g5;cases hf:Nat.blt f (U.fs n).length with
   |false=>rw[hf]at h;cases h
   |true=>
    rw[hf]at h;rw[fV,djE]at hf;have:=(gL hU hT ht hf).1 id (i.toNat*e.z+off);exact cN Mm F rfl h (v:= .ptr id (i.toNat*e.z+off+lL U n f)) (by simp only[bF,g5,this,omS]) ⟨⟨e,id,g1,g2,g3,g4,by simp only[Nat.add_assoc]⟩,aE _ _⟩
  ·cases h
 |field t x f=>
  simp only[opT]at h;have h1:=aT F x;split at h
  ·rename_i n v rs ht hx;rw[hx]at h1;cases hb:v.t.beq (.rc n)with
   |false=>rw[hb]at h;cases h
   |true=>
    rw[hb]at h;simp only[cdt]at h;split at h
    ·rename_i w hw;obtain⟨q1,h2,h3⟩:=field_ok hU hT ht hb hw h1;exact cN Mm F rfl h (by simp only[bF,h2,omS]) h3
    ·cases h
  ·cases h
 |indexAddr t x i=>
  simp only[opT]at h;have h1:=(aT F x).1;have h2:=(aT F i).1;split at h
  ·rename_i e e' l k n ht hx hi;rw[hx]at h1;rw[hi]at h2;have h2:pev S' i= .v (.int k n):=eA h2;cases he:e.beq e' with
   |false=>rw[he]at h;cases h
   |true=>
    rw[he]at h;obtain⟨y,hy,h⟩:=gF h;obtain⟨q1,g1,g2⟩:=tZ hU hT (k:=k) ht he hy h1;have g1:dB P t (pev S' x) (.v (.int k n))=some q1:=g1;exact cN Mm F rfl h (by simp only[bF,h2,g1,omS]) ⟨g2,aE _ _⟩
  ·rename_i e kk k n ht hx hi;rw[hx]at h1;rw[hi]at h2;have h2:pev S' i= .v (.int k n):=eA h2;split at h
   ·rename_i e' l hf;cases he:e.beq e' with
    |false=>rw[he]at h;cases h
    |true=>
     rw[he]at h;have:=Ty.beq_eq he;subst this;obtain⟨hin,h⟩:=bN h;obtain⟨ce,g1,g2⟩:=h1;obtain⟨ce',g1',hn,hz,_⟩:=Mm.bx _ _ hf;rw[g1]at g1';cases g1';obtain⟨eid,hu,hte,_⟩:=hT.un t _ ht;simp only[aV,bjE,djE]at hin;rcases g2 with⟨_,hn0,_⟩|⟨id,g3,g4,g5⟩
     ·have b1:(0:Int)≤n:=hin.1;have b2:(n:Int)<(l.length:Int):=hin.2;omega
     ·have g5:pev S' x= .rs id 0 ce.n:=g5;have hin':aV n ce.n=true:=by rw[hn];simp only[aV,bjE,djE];exact hin
      refine cN Mm F rfl h (v:= .ptr id (0+Int.toNat n*szT U e)) ?_ ⟨⟨ce,id,g1,g3,hin.1,by rw[hn];exact hin.2,by rw[hz,Nat.zero_add,Nat.add_zero]⟩,aE _ _⟩
      simp only[bF,h2,g5,dB,hu,hT.sz _ _ hte,hin',cdt,omS]
   ·cases h
  ·rename_i n kk off pp k m ht hx hi;rw[hx]at h1;rw[hi]at h2;have h2:pev S' i= .v (.int k m):=eA h2;cases ha:T.T.arr t with
   |false=>rw[ha]at h;cases h
   |true=>
    rw[ha]at h;obtain⟨j,_,hj,hm,h⟩:=aAI h;obtain⟨len,e,te,hu,hz,hf⟩:=hT.arr t n ht ha;obtain⟨ce,id,g1,g2,g3⟩:=h1;have g3:pev S' x= .ptr id off:=g3;rw[hf,List.length_replicate,Nat.zero_add]at hj;have hin:aV m len=true:=by rw[hm];simp only[aV,bjE,djE];omega
    have ho:lL U n j=j*szT U te:=by rw[lL,hf,List.take_replicate,Nat.min_eq_left (by omega)];exact sX _ _
    refine cN Mm F rfl h (v:= .ptr id (off+Int.toNat m*szT U te)) ?_ ⟨⟨ce,id,g1,g2,by rw[ho,hm];rfl⟩,aE _ _⟩
    simp only[bF,h2,g3,dB,hu,hz,hin,cdt,omS]
  ·cases h
 |index t x i=>
  simp only[opT]at h;have h1:=(aT F x).1;have h2:=(aT F i).1;split at h
  ·rename_i s k n ht hx hi;rw[hx]at h1;rw[hi]at h2;have h2:pev S' i= .v (.int k n):=eA h2;obtain⟨b,hb,h⟩:=gF h;have g1:=index_ok hT (k:=k) ht hb h1;have g1:pQ P t (pev S' x) (.v (.int k n))=some (.v (.int .u8 (b.toNat:Int))):=g1;exact cN Mm F rfl h (by simp only[bF,h2,g1,omS]) ⟨cV _ _,aE _ _⟩
  ·cases h
 |extract x i=>
  simp only[opT]at h;have h1:=(aT F x).1;split at h
  ·rename_i l hx;rw[hx]at h1;obtain⟨ps,g1,g2⟩:=h1;have g1:pev S' x= .tup ps:=g1;split at h
   ·rename_i v hv;have g3:ps[i]?=some (enV U v.t v.x):=by rw[g2,List.getElem?_map,hv];rfl
    refine cN Mm F rfl h (by simp only[bF,g1,g3,omS]) ⟨⟨en_wk hU _ _,aBZ (oY hU _ _)⟩,aE _ _⟩
   ·cases h
  ·cases h
 |load t a=>
  simp only[opT]at h;obtain⟨x,M',v,own,p',h1,h2,h3,h4,h5⟩:=ldT_ok hU hT h (aT F a).1 Mm;refine⟨c,x,S,M',v,own,S',p',h1,?_,leC.refl c,h3,F,h4,h5,aA8 h2⟩;have:iE P p S' ⟨dst,.load t a,ty,pos,aft,gd'⟩ take=some (v,own,p'):=by
   simp only[iE];unfold nG at h2;exact h2
  simp only[pop,aK,this,omS]
 |slice t x lo hi mx=>
  simp only[opT]at h;obtain⟨y,w,own,h1,h2,h3⟩:=slT_ok hT F (p:=p) h (aT F x).1;have h2:fB P p t (pev S' x) (lo.map (pev S')) (hi.map (pev S')) (mx.map (pev S'))=some (w,own):=h2;exact⟨c,y,S,M,w,own,S',p,h1,by simp only[pop,aK,iE,h2,omS],leC.refl c,h3,F,Mm,fun hw=>hw,nlR _⟩
 |alloc t=>
  simp only[opT]at h;obtain⟨c',x,M',v,p',h1,h2,h3,h4,h5,h6⟩:=alT_ok hU hT (S':=S') (o:=⟨dst,.alloc t,ty,pos,aft,gd'⟩) rfl h Mm;exact⟨c',x,S,M',v,false,S',p',h1,by simp only[pop,aK,h2,omS],h3,h4,aDf h3 F,h5,h6,jM h2⟩
 |box t x=>
  simp only[opT]at h;obtain⟨c',x,M',v,p',h1,h2,h3,h4,h5,h6⟩:=bxT_ok hU F (P:=P) (o:=⟨dst,.box t x,ty,pos,aft,gd'⟩) rfl h Mm;exact⟨c',x,S,M',v,false,S',p',h1,by simp only[pop,aK,h2,omS],h3,h4,aDf h3 F,h5,h6,jM h2⟩
 |buildSlice t len parts=>
  simp only[opT]at h;split at h
  ·rename_i e ht;cases hb:Nat.ble (len*szT U e) 1000000 with
   |false=>rw[hb]at h;cases h
   |true=>
    rw[hb]at h;simp only[cdt]at h;split at h
    ·rename_i l hl;obtain⟨w,h1,h2⟩:=sJ hU hT F (p:=p) (o:=⟨dst,.buildSlice t len parts,ty,pos,aft,gd'⟩) rfl ht hb hl;exact⟨c,_,S,M,w,true,S',p,h,by simp only[pop,aK,h1,omS],leC.refl c,h2,F,Mm,fun hw=>hw,nlR _⟩
    ·cases h
  ·cases h
 |makeSlice t l k=>
  simp only[opT]at h;obtain⟨c',x,M',v,own,p',h1,h2,h3,h4,h5,h6⟩:=msT_ok hU hT F (o:=⟨dst,.makeSlice t l k,ty,pos,aft,gd'⟩) rfl h Mm;exact⟨c',x,S,M',v,own,S',p',h1,by simp only[pop,aK,h2,omS],h3,h4,aDf h3 F,h5,h6,jM h2⟩
 |store t a x=>
  simp only[opT]at h;obtain⟨M',p',h1,h2,h3,h4⟩:=stT_ok hU hT h (aT F a).1 (aT F x) Mm;have h2:iD P p t (pev S' a) (pev S' x) (iF S' x)=some p':=h2;exact⟨c,_,_,M',.und,false,mW S' x,p',h1,by simp only[pop,aK,peff,h2,omS],leC.refl c,⟨trivial,aE _ _⟩,kT F x,h3,h4,wG h2⟩
 |call cl=>
  simp only[opT]at h;split at h
  ·rename_i hcl;split at h
   ·rename_i t x ht hx;obtain⟨y,w,h1,h2,h3⟩:=lenK_ok hT Mm h (aT F x).1;have h2:aBP P t (pev S' x)=some w:=h2;exact cN Mm F (by simp only[aK,hcl]) h1 (by simp only[bF,hcl,ht,hx,h2,omS]) h3
   ·cases h
  ·rename_i hcl;split at h
   ·rename_i x y hx;obtain⟨z,w,h1,h2,h3⟩:=mmT_ok (P:=P) (ts:=cl.argTypes) (ty:=ty) h (aT F x).1 (aT F y).1;have h2:gD P false cl.argTypes ty [pev S' x,pev S' y]=some w:=h2;exact cN Mm F (by simp only[aK,hcl]) h1 (by simp only[bF,hcl,hx,mpC,List.map_nil,h2,omS]) h3
   ·cases h
  ·rename_i hcl;split at h
   ·rename_i x y hx;obtain⟨z,w,h1,h2,h3⟩:=mmT_ok (P:=P) (ts:=cl.argTypes) (ty:=ty) h (aT F x).1 (aT F y).1;have h2:gD P true cl.argTypes ty [pev S' x,pev S' y]=some w:=h2;exact cN Mm F (by simp only[aK,hcl]) h1 (by simp only[bF,hcl,hx,mpC,List.map_nil,h2,omS]) h3
   ·cases h
  ·rename_i hcl;split at h
   ·rename_i s x hx;obtain⟨y,v,own,h1,h2,h3⟩:=apT_ok hU hT F h;exact⟨c,y,_,M,v,own,mW S' s,p,h1,by simp only[pop,aK,hcl,peff,hx,h2,omS],leC.refl c,h3,kT F s,Mm,fun hw=>hw,nlR _⟩
   ·cases h
  ·rename_i f hcl;obtain⟨x,S2,M',v,own,p',g,args,h1,h2,h3,h4,h5,h6,h7,h8⟩:=callK_ok hU hc F hcl h Mm;exact⟨c,x,S2,M',v,own,_,p',h1,by simp only[pop,aK,hcl,peff,h2,h3,omS],leC.refl c,h4,h5,h6,h7,by rw[h8];exact nlR _⟩
  ·cases h
 |_=>cases h
end
end Go.TV
