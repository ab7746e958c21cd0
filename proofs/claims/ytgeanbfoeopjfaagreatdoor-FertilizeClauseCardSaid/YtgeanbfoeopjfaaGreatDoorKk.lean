import Derived.Test.YtgeanbfoeopjfaaGreatDoorKj
set_option linter.unusedVariables false
set_option linter.unusedSimpArgs false
set_option linter.constructorNameAsVariable false
namespace Go.TV
open Go.AI Go.PI
section
variable{P:Program}{U:iG}{T:TP U.D}{c c0:Cx}{β:Type}{r:β}{q p:PSt}{M:TM U.D}
theorem splice{α:Type}(l s:List α)(o o' n m:Nat)(h1:o'+m≤n)(h2:o+n≤l.length):
    l.take (o+o')++s++l.drop (o+o'+m)=l.take o++(((l.drop o).take n).take o'++s++((l.drop o).take n).drop (o'+m))++l.drop (o+n):=by
 have e1:l.take (o+o')=l.take o++((l.drop o).take n).take o':=by
  rw[List.take_add,List.take_take,Nat.min_eq_left (by omega)]
 have e2:l.drop (o+o'+m)=((l.drop o).take n).drop (o'+m)++l.drop (o+n):=by
  rw[List.drop_take,List.drop_drop];have:l.drop (o+n)=(l.drop (o+(o'+m))).drop (n-(o'+m)):=by rw[List.drop_drop];congr 1;omega
  rw[this,List.take_append_drop,Nat.add_assoc]
 rw[e1,e2];simp only[apA]
theorem aDW{ts:List Ty}{cs s:List PV}{o n:Nat}(h:zOK U ts cs)(hs:zOK U ((ts.drop o).take n) s)(hl:s.length=n)(hle:o+n≤cs.length):zOK U ts (cs.take o++s++cs.drop (o+n)):=fun j z hj=>by
 have hlt:(cs.take o).length=o:=by rw[List.length_take];omega
 rw[apA]at hj;by_cases h1:j<o
 ·rw[List.getElem?_append_left (by omega),List.getElem?_take,if_pos h1]at hj
  exact h j z hj
 ·rw[List.getElem?_append_right (by omega),hlt]at hj
  by_cases h2:j-o<n
  ·rw[List.getElem?_append_left (by omega)]at hj
   obtain⟨e,g1,g2⟩:=hs _ z hj;rw[List.getElem?_take,if_pos h2,List.getElem?_drop]at g1;exact⟨e,by rw[←g1];congr 1;omega,g2⟩
  ·rw[List.getElem?_append_right (by omega),List.getElem?_drop]at hj
   have:o+n+(j-o-s.length)=j:=by omega
   rw[this]at hj;exact h j z hj
variable(hU:eR U)(hT:sS P U T)
include hU
theorem aEE{l:List (V U)}{i:Nat}{v w:V U}(h:l[i]?=some v)(ht:w.t=v.t):
    nY (l.set i w)=(nY l).take (cI U ((l.map fun v=>v.t).take i))++(enV U w.t w.x).cells++(nY l).drop (cI U ((l.map fun v=>v.t).take i)+szT U v.t):=by
 induction l generalizing i with
 |nil=>simp at h
 |cons x l ih=>
  cases i with
  |zero=>
   simp only[gcZ,ojE]at h;subst h;rw[List.set_cons_zero,dN,dN,List.take_zero,cI,List.take_zero,nlA,Nat.zero_add,List.drop_left' (eP hU _ _)]
  |succ i=>
   rw[gcS]at h;rw[List.set_cons_succ,dN,dN,ih h,mpC,List.take_succ_cons,cI,Nat.add_assoc];have hl:=eP hU x.t x.x;rw[←hl,List.take_length_add_append,List.drop_length_add_append];simp only[apA]
theorem aFB{path:List Nat}: ∀{v w c' old:V U} {o:Nat} {cs s:List PV},setP U path v w=some c'→aCQ U path v=some (old,o)→SR v.t v.x cs→SR w.t w.x s→
    c'.t=v.t∧w.t=old.t∧SR c'.t c'.x (cs.take o++s++cs.drop (o+szT U w.t)):=by
 induction path with
 |nil=>
  intro v w c' old o cs s h hp r rs;simp only[aCQ,ojE,pjE]at hp;obtain⟨rfl,rfl⟩:=hp;unfold setP at h;cases hb:v.t.beq w.t with
  |false=>rw[hb]at h;cases h
  |true=>
   rw[hb]at h;simp only[cdt,ojE]at h;subst h;have:=Ty.beq_eq hb;refine⟨this.symm,this.symm,?_⟩;rw[List.take_zero,nlA,Nat.zero_add,List.drop_eq_nil_of_le (by rw[r.len hU,this];exact nlR _),apN]
   exact rs
 |cons i path ih=>
  intro v w c' old o cs s h hp r rs;obtain⟨vt,vx⟩:=v;unfold setP at h;split at h
  ·rename_i n x heq;cases heq;split at h
   ·rename_i y hy;split at h
    ·rename_i y' hy';split at h
     ·rename_i z hz;cases h;unfold aCQ at hp;rw[show fldT U ⟨.rc n,x⟩ i=some y from hy]at hp
      simp only at hp;split at hp
      ·rename_i r' hr';simp only[ojE,pjE]at hp;obtain⟨rfl,rfl⟩:=hp;have hr'':aCQ U path y=some (r'.1,r'.2):=by rw[hr']
       have hpart:=r.fld hU hy;obtain⟨g1,g2,g3⟩:=ih hy' hr'' hpart rs;obtain⟨g4,g5⟩:=mW hU hr'' hpart;have hun:=hU.un_of n _ z hz;have hcl:cs.length=U.sz n:=r.len hU;have hpl:=hpart.len hU;rw[List.length_take,List.length_drop,hcl]at hpl;have hsp:=lC hU y.t;have hle:mR U n i+szT U y.t≤cs.length:=by omega
       refine⟨rfl,g2,?_⟩;show SR (.rc n) z (cs.take (mR U n i+r'.2)++s++cs.drop (mR U n i+r'.2+szT U w.t));rw[splice cs s (mR U n i) r'.2 (szT U y.t) (szT U w.t) (by rw[g2];exact g5) hle]
       refine⟨?_,?_⟩
       ·rw[jM,jM,sU,sX,r.wk,g3.wk];show _=U.en n z;rw[hU.en n z,hun];have:=aEE hU hy g1;rw[hU.ty n x]at this;show _=nY _;rw[this];show(U.en n x).take _++_++(U.en n x).drop _=_;rw[hU.en n x];rfl
       ·refine aDW r.z ?_ (by rw[g3.len hU,g1]) hle
        have h5:(((eO U (.rc n)).drop (mR U n i)).take (szT U y.t))=eO U y.t:=sA hU (aCX hU hy);have h6:eO U y'.t=eO U y.t:=by rw[g1]
        rw[h5,←h6];exact g3.z
      ·cases hp
     ·cases h
    ·cases h
   ·cases h
  ·cases h
omit hU in
theorem fl_fst(x:PV)(b:Bool):(fl x b).1=match x with| .nil=> .emp|x=>x:=by cases x<;>rfl
omit hU in
theorem fl_wk(x:PV)(b:Bool):wk (fl x b).1=wk x:=by cases x<;>rfl
omit hU in
theorem mX(x:PV)(b:Bool):(fl x b).1≠ .nil:=by cases x<;>simp[fl]
omit hU in
theorem SR.fl{t:Ty}{x:Den U.D t}{cs:List PV}(h:SR t x cs)(b:Bool):SR t x ((cs.map fun c=>fl c b).map (·.1)):=by
 refine⟨?_,fun j z hj=>?_⟩
 ·rw[←h.wk,fW,fW,List.map_map,List.map_map];exact List.map_congr_left fun c _=>fl_wk c b
 ·rw[List.map_map,List.getElem?_map,mjE]at hj;obtain⟨y,hy,e⟩:=hj;have hy':y= .sl z []:=by
   have e:(PI.fl y b).1= .sl z []:=e;rw[fl_fst]at e;split at e
   ·cases e
   ·exact e
  exact h.z j z (by rw[hy,hy'])
omit hU in
theorem rts_fl{rs:Rts}{t:Ty}{x:Den U.D t}{pv:PV}{ow:Bool}(h:rtR rs pv ow)(hv:VR U t x pv):rtB rs (pv.cells.map fun c=>fl c ow):=fun o s hi=>by
 rcases h o s hi with⟨h1,h2⟩|⟨rfl,h1,h2,h3⟩
 ·exact⟨.emp,by rw[List.getElem?_map,h2];rfl,fun _=>rfl⟩
 ·have hc:pv.cells=[pv]:=hQ fun ds e=>by rw[e]at h1;cases h1
  rw[hc];cases hn:kK pv with
  |true=>
   have:pv= .nil:=by cases pv<;>first|rfl|cases hn
   subst this;exact⟨.emp,rfl,fun _=>rfl⟩
  |false=>
   rw[hn,Bool.or_false]at h2;subst h2;refine⟨pv,?_,h3⟩;have:fl pv true=(pv,true):=by cases pv<;>first|rfl|cases hn
   simp[this]
theorem stT_ok(hT:sS P U T){t:TypeId}{a:SV U.D}{x:X U}{p0 p1:PV}{ow:Bool}{K:TM U.D→Option β}(h:stT U T.T M t a x K=some r)(ra:svR U c a p0)(rx:slR U c x (p1,ow))(Mm:MR U q c0 c M p):
    ∃M' p',K M'=some r∧iV P p t p0 p1 ow=some p'∧MR U q c0 c M' p'∧(WR U c M p→WR U c M' p'):=by
 unfold stT at h;split at h
 ·
  rename_i k off path;obtain⟨e,id,he,hid,rfl⟩:=ra;have hlt:=Mm.lt k e id he hid;split at h
  ·rename_i cont rs hf;obtain⟨e',he',id',cs,hid',hget,hcs,hrt⟩:=Mm.bx k _ hf;rw[he]at he';cases he';rw[hid]at hid';cases hid';split at h
   ·rename_i cv;split at h
    ·rename_i ty w o hty hp;cases hb:w.t.beq ty&&Nat.beq o off with
     |false=>rw[hb]at h;cases h
     |true=>
      rw[hb]at h;simp only[cdt]at h;simp only[bjE,cG,djE]at hb;obtain⟨hwt,rfl⟩:=hb;have:=Ty.beq_eq hwt;split at h
      ·rename_i v hv;split at h
       ·rename_i c' hc';obtain⟨hvt,hvr⟩:=fV hU hv rx.1;obtain⟨h1,h2,h3⟩:=hcs;have hsr:SR cv.t cv.x (cs.map (·.1)):=⟨h1,h2⟩;have hs:=VR.sr hvr;obtain⟨g1,g2,g3⟩:=aFB hU hc' hp hsr (hs.fl ow);obtain⟨g4,g5⟩:=mW hU hp hsr;have hcl:cs.length=szT U cv.t:=by have:=hsr.len hU;rwa [List.length_map]at this
        have hsz:iT P t=some (szT U ty):=hT.sz t ty hty;have hn:p1.cells.length=szT U ty:=by rw[hs.len hU,hvt]
        have hle:o+szT U ty≤cs.length:=by rw[hcl,←this];exact g5
        have c1:(Nat.beq p1.cells.length (szT U ty)&&Nat.ble (o+szT U ty) cs.length&&p1.cells.all PV.one)=true:=by
         rw[hs.one hU,hn,Nat.beq_refl,Bool.true_and,bnA,Nat.ble_eq];exact hle
        refine⟨_,p.upd id (.box (cs.take o++p1.cells.map (fun c=>fl c ow)++cs.drop (o+szT U ty))),h,by simp only[iV,hget,hsz,c1,cdt],Mm.upd hf he hid ?_⟩
        refine⟨id,_,hid,by rw[fK hlt,if_pos rfl],⟨?_,?_,?_⟩,?_⟩
        ·rw[←g3.wk,hvt];simp only[List.map_append,List.map_take,List.map_drop]
        ·rw[hvt]at g3;have:=g3.z;simp only[List.map_append,List.map_take,List.map_drop];exact this
        ·intro y hy;rcases List.mem_append.1 hy with hy|hy
         ·rcases List.mem_append.1 hy with hy|hy
          ·exact h3 y (List.mem_of_mem_take hy)
          ·obtain⟨z,_,rfl⟩:=List.mem_map.1 hy;exact mX z ow
         ·exact h3 y (List.mem_of_mem_drop hy)
        ·intro i s hi;have htl:(cs.take o).length=o:=by rw[List.length_take];omega
         rcases List.mem_append.1 hi with hi|hi
         ·obtain⟨j,e1,e2⟩:=memsh hi;simp only at e1;subst e1;obtain⟨y,hy,hys⟩:=rts_fl rx.2 hvr j s e2;refine⟨y,?_,hys⟩;have hj:j<p1.cells.length:=by
           rcases Nat.lt_or_ge j p1.cells.length with h|h
           ·exact h
           ·rw[List.getElem?_eq_none (by rw[List.length_map];exact h)]at hy;cases hy
          rw[apA,List.getElem?_append_right (by omega),htl,Nat.add_sub_cancel,List.getElem?_append_left (by rw[List.length_map];exact hj)]
          exact hy
         ·obtain⟨e1,e2⟩:=memex hi;obtain⟨y,hy,hys⟩:=hrt i s e1;refine⟨y,?_,hys⟩;simp only at e2;rw[apA];by_cases h4:i<o
          ·rw[List.getElem?_append_left (by omega),List.getElem?_take,if_pos h4];exact hy
          ·have h5:o+szT U ty≤i:=by omega
           rw[List.getElem?_append_right (by omega),htl,List.getElem?_append_right (by rw[List.length_map];omega),List.length_map,hn,List.getElem?_drop]
           have:o+szT U ty+(i-o-szT U ty)=i:=by omega
           rw[this];exact hy
       ·cases h
      ·cases h
    ·cases h
   ·
    split at h
    ·rename_i f caps hx;cases hb:T.T.fn t&&Nat.beq off 0&&stT.isF U cont with
     |false=>rw[hb]at h;cases h
     |true=>
      rw[hb]at h;simp only[cdt]at h;simp only[bjE,cG,djE]at hb;obtain⟨⟨hfn,rfl⟩,hF⟩:=hb;obtain⟨_,hsz,_⟩:=hT.fn t hfn;have hx1:svR U c (.cl f caps) p1:=by have:=rx.1;rw[hx]at this;exact this
      obtain⟨ps,hps,hcap⟩:=hx1;have hcs1: ∃y,cs=[y]:=by
       cases cont with
       |cl f' caps'=>obtain⟨pv,b,e1,_⟩:=hcs;exact⟨_,e1⟩
       |nf=>obtain⟨b,e1⟩:=hcs;exact⟨_,e1⟩
       |_=>cases hF
      obtain⟨y,rfl⟩:=hcs1;subst hps;refine⟨_,p.upd id (.box [(.fn f [] ps,ow)]),h,?_,Mm.upd hf he hid ?_⟩
      ·simp only[iV,hget,hsz];rfl
      ·exact⟨id,_,hid,by rw[fK hlt,if_pos rfl],⟨_,_,rfl,ps,rfl,hcap⟩,fun o s hi=>by cases hi⟩
    ·cases h
  ·cases h
 ·
  rename_i k i off path;obtain⟨e,id,he,hid,hi0,hi1,rfl⟩:=ra;have hlt:=Mm.lt k e id he hid;split at h
  ·rename_i et l hf;obtain⟨e',he',hn,hz,hrow⟩:=Mm.bx k _ hf;rw[he]at he';cases he';rcases hrow with⟨hno,_⟩|⟨id',hid',hget⟩
   ·rw[hid]at hno;cases hno
   ·rw[hid]at hid';cases hid';obtain⟨y,hy,h8⟩:=gW h;clear h;have h:=h8;clear h8;obtain⟨_,hy1,hylt⟩:=oU hy;split at h
    ·rename_i ty w o hty hp;cases hb:w.t.beq ty&&Nat.beq o off with
     |false=>rw[hb]at h;cases h
     |true=>
      rw[hb]at h;simp only[cdt]at h;simp only[bjE,cG,djE]at hb;obtain⟨hwt,rfl⟩:=hb;have:=Ty.beq_eq hwt;split at h
      ·rename_i v hv;split at h
       ·rename_i c' hc';split at h
        ·rename_i z hz';obtain⟨hvt,hvr⟩:=fV hU hv rx.1;have hs:=VR.sr hvr;have hsr:=SR.self hU et y;have hs2:SR v.t v.x (enV U v.t v.x).cells:=SR.self hU v.t v.x;obtain⟨g1,g2,g3⟩:=aFB hU hc' hp hsr hs2;obtain⟨g4,g5⟩:=mW hU hp hsr;have ec:=jF hz';have hsz:iT P t=some (szT U ty):=hT.sz t ty hty;have hpn:p1.cells.length=szT U ty:=by rw[hs.len hU,hvt]
         have hfl:((l.map (enV U et)).flatMap PV.cells).length=l.length*szT U et:=by
          have:=cX (z:=szT U et) (es:=l.map (enV U et)) (fun e' he'=>by obtain⟨a,_,rfl⟩:=List.mem_map.1 he';exact eP hU _ _)
          rw[List.length_map]at this;exact this
         have hmul:i.toNat*szT U et+szT U et≤l.length*szT U et:=by rw[←Nat.succ_mul];exact Nat.mul_le_mul_right _ hylt
         have hoz:o+szT U ty≤szT U et:=by rw[←this];exact g5
         have c1:(Nat.beq p1.cells.length (szT U ty)&&Nat.ble (i.toNat*e.z+o+szT U ty) ((l.map (enV U et)).flatMap PV.cells).length&&p1.cells.all PV.one)=true:=by
          rw[hs.one hU,hpn,Nat.beq_refl,Bool.true_and,bnA,Nat.ble_eq,hfl,hz];omega
         refine⟨_,p.upd id (.row e.z (mE et) (((l.map (enV U et)).flatMap PV.cells).take (i.toNat*e.z+o)++PI.wks p1.cells++((l.map (enV U et)).flatMap PV.cells).drop (i.toNat*e.z+o+szT U ty))),h,by simp only[iV,hget,hsz,c1,cdt],Mm.upd hf he hid ?_⟩
         refine⟨by rw[List.length_set];exact hn,hz,.inr ⟨id,hid,?_⟩⟩
         rw[fK hlt,if_pos rfl];congr 2;have hz2:(enV U et z).cells=(enV U et y).cells.take o++PI.wks p1.cells++(enV U et y).cells.drop (o+szT U ty):=by
          have h6:=g3.wk;have e6:(⟨c'.t,c'.x⟩:TV U.D)=⟨et,z⟩:=ec;have h7:(enV U (⟨c'.t,c'.x⟩:TV U.D).t (⟨c'.t,c'.x⟩:TV U.D).x).cells=(enV U et z).cells:=by rw[e6]
          rw[←h7,←h6];simp only[jM,sU,sX,hvt];rw[aCR (rB hU et y),hs.wk];congr 2;exact aCR (rB hU v.t v.x)
         have hfs:((l.set i.toNat z).map (enV U et)).flatMap PV.cells=aEc (eA (l.map (enV U et))) (i.toNat*szT U et) (enV U et z).cells:=by
          rw[List.map_set];exact aCY (fun e' he'=>by obtain⟨a,_,rfl⟩:=List.mem_map.1 he';exact eP hU _ _) (by rw[List.length_map];exact hylt) (eP hU _ _)
         rw[hfs,aFY _ _ _ (by rw[eP hU];show _≤((l.map (enV U et)).flatMap PV.cells).length;rw[hfl];exact hmul),eP hU,hz2,hz]
         show((l.map (enV U et)).flatMap PV.cells).take (i.toNat*szT U et+o)++_++((l.map (enV U et)).flatMap PV.cells).drop (i.toNat*szT U et+o+szT U ty)=_;rw[splice _ _ (i.toNat*szT U et) o (szT U et) (szT U ty) hoz (by rw[hfl];exact hmul),aB3 hU hy1]
         rfl
        ·cases h
       ·cases h
      ·cases h
    ·cases h
  ·cases h
 ·cases h
end
end Go.TV
namespace Go.TV
open Go.AI Go.PI
section
variable{P:Program}{U:iG}{T:TP U.D}{c c0:Cx}{β:Type}{r:β}{q p:PSt}{M:TM U.D}
def nN(c:Cx)(k:Nat)(e:Ce):Cx:=fun j=>if j=k then some e else c j
theorem fF{k:Nat}{e:Ce}(h:c k=none):leC c (nN c k e):=fun j e' hj=>by
 unfold nN;by_cases e1:j=k
 ·subst e1;rw[h]at hj;cases hj
 ·rw[if_neg e1];exact hj
theorem aGF{p:PSt}{o:kW}{id:Nat}(h:id<p.next):(p.new o).get id=p.get id:=by
 rw[fL,if_neg (by omega)]
theorem MR.new(Mm:MR U q c0 c M p){k:Nat}(hk:100≤k)(hf:bF M.bx k=none){o:kW}{b:BC U.D}{n z:Nat}(hr:bcR U (nN c k ⟨some p.next,n,z⟩) (p.new o) ⟨some p.next,n,z⟩ b):
    MR U q c0 (nN c k ⟨some p.next,n,z⟩) ⟨(k,b)::M.bx,M.wr⟩ (p.new o)∧(WR U c M p→WR U (nN c k ⟨some p.next,n,z⟩) ⟨(k,b)::M.bx,M.wr⟩ (p.new o)):=by
 have hc:=Mm.dom k hf;refine⟨⟨fun j h=>?_,fun j y h=>?_,fun j e id h1 h2=>?_,fun j j' e e' id h1 h2 h3 h4=>?_,Nat.le_succ_of_le Mm.next,fun j e h1 h2=>?_,fun j e id h1 h2 h3=>?_,fun id hi ho=>?_,Mm.dirty,fun id hi=>?_⟩,fun hw id hi j e h1 h2=>?_⟩
 ·rw[cO]at h;by_cases e1:j=k
  ·rw[if_pos e1]at h;cases h
  ·rw[if_neg e1]at h;unfold nN;rw[if_neg e1];exact Mm.dom j h
 ·rw[cO]at h;by_cases e1:j=k
  ·rw[if_pos e1]at h;simp only[ojE]at h;subst h;exact⟨_,by unfold nN;rw[if_pos e1],hr⟩
  ·rw[if_neg e1]at h;obtain⟨e,g1,g2⟩:=Mm.bx j y h;exact⟨e,fF hc j e g1,nL (bcR_le (fF hc) g2) fun id hid=>aGF (Mm.lt j e id g1 hid)⟩
 ·unfold nN at h1;by_cases e1:j=k
  ·rw[if_pos e1]at h1;cases h1;cases h2;exact Nat.lt_succ_self _
  ·rw[if_neg e1]at h1;exact Nat.lt_succ_of_lt (Mm.lt j e id h1 h2)
 ·unfold nN at h1 h2;by_cases e1:j=k<;>by_cases e2:j'=k
  ·rw[e1,e2]
  ·rw[if_pos e1]at h1;rw[if_neg e2]at h2;cases h1;cases h3;have:=Mm.lt j' e' _ h2 h4;omega
  ·rw[if_neg e1]at h1;rw[if_pos e2]at h2;cases h2;cases h4;have:=Mm.lt j e _ h1 h3;omega
  ·rw[if_neg e1]at h1;rw[if_neg e2]at h2;exact Mm.inj j j' e e' id h1 h2 h3 h4
 ·unfold nN at h1;by_cases e1:j=k
  ·omega
  ·rw[if_neg e1]at h1;exact Mm.bor j e h1 h2
 ·unfold nN at h1;by_cases e1:j=k
  ·rw[if_pos e1]at h1;cases h1;cases h3;exact Mm.next
  ·rw[if_neg e1]at h1;exact Mm.loc j e id h1 h2 h3
 ·rw[aGF (Nat.lt_of_lt_of_le hi Mm.next)];exact Mm.old id hi ho
 ·obtain⟨g1,g2⟩:=Mm.wr id hi;exact⟨Nat.lt_succ_of_lt g1,g2⟩
 ·unfold nN at h1;by_cases e1:j=k
  ·rw[if_pos e1]at h1;cases h1;cases h2;have:=(Mm.wr _ hi).1;omega
  ·rw[if_neg e1]at h1;exact hw id hi j e h1 h2
theorem MR.new0(Mm:MR U q c0 c M p){k:Nat}(hk:100≤k)(hf:bF M.bx k=none){b:BC U.D}{n z:Nat}(hr:bcR U (nN c k ⟨none,n,z⟩) p ⟨none,n,z⟩ b):
    MR U q c0 (nN c k ⟨none,n,z⟩) ⟨(k,b)::M.bx,M.wr⟩ p∧(WR U c M p→WR U (nN c k ⟨none,n,z⟩) ⟨(k,b)::M.bx,M.wr⟩ p):=by
 have hc:=Mm.dom k hf;have un: ∀{j:Nat} {e:Ce} {id:Nat},nN c k ⟨none,n,z⟩ j=some e→e.id=some id→c j=some e:=by
  intro j e id h1 h2;unfold nN at h1;by_cases e1:j=k
  ·rw[if_pos e1]at h1;cases h1;cases h2
  ·rw[if_neg e1]at h1;exact h1
 refine⟨⟨fun j h=>?_,fun j y h=>?_,fun j e id h1 h2=>Mm.lt j e id (un h1 h2) h2,fun j j' e e' id h1 h2 h3 h4=>Mm.inj j j' e e' id (un h1 h3) (un h2 h4) h3 h4,Mm.next,fun j e h1 h2=>?_,fun j e id h1 h2 h3=>Mm.loc j e id (un h1 h3) h2 h3,Mm.old,Mm.dirty,Mm.wr⟩,fun hw id hi j e h1 h2=>hw id hi j e (un h1 h2) h2⟩
 ·rw[cO]at h;by_cases e1:j=k
  ·rw[if_pos e1]at h;cases h
  ·rw[if_neg e1]at h;unfold nN;rw[if_neg e1];exact Mm.dom j h
 ·rw[cO]at h;by_cases e1:j=k
  ·rw[if_pos e1]at h;simp only[ojE]at h;subst h;exact⟨_,by unfold nN;rw[if_pos e1],hr⟩
  ·rw[if_neg e1]at h;obtain⟨e,g1,g2⟩:=Mm.bx j y h;exact⟨e,fF hc j e g1,bcR_le (fF hc) g2⟩
 ·unfold nN at h1;by_cases e1:j=k
  ·omega
  ·rw[if_neg e1]at h1;exact Mm.bor j e h1 h2
theorem MR.gone(Mm:MR U q c0 c M p){k:Nat}{b:BC U.D}(hb:bF M.bx k=some b)(w:List Nat):MR U q c0 c ⟨rK M.bx k .gone,w⟩ p:=by
 refine⟨fun j h=>?_,fun j y h=>?_,Mm.lt,Mm.inj,Mm.next,Mm.bor,Mm.loc,Mm.old,Mm.dirty,Mm.wr⟩
 ·simp only[eG]at h;by_cases hj:j=k
  ·rw[if_pos hj,hb]at h;cases h
  ·rw[if_neg hj]at h;exact Mm.dom j h
 ·simp only[eG]at h;by_cases hj:j=k
  ·subst hj;rw[if_pos rfl,hb]at h;simp only[omS,ojE]at h;subst h;obtain⟨e,h1,_⟩:=Mm.bx j b hb;exact⟨e,h1,trivial⟩
  ·rw[if_neg hj]at h;exact Mm.bx j y h
variable(hU:eR U)(hT:sS P U T)
theorem jA{k:Nat}{b:BC U.D}{K:TM U.D→Option β}(h:newT U M k b K=some r):bF M.bx k=none∧K ⟨(k,b)::M.bx,M.wr⟩=some r:=by
 unfold newT at h;split at h
 ·rename_i e;exact⟨e,h⟩
 ·cases h
include hU hT
theorem alT_ok{S':PS}{o:Oper}{d:Option Tmp}{t:TypeId}{K:X U→TM U.D→Option β}(ho:o.op= .alloc t)(h:alT U T.T M d t K=some r)(Mm:MR U q c0 c M p):
    ∃c' x M' v p',K x M'=some r∧cA P p S' o=some (v,false,p')∧leC c c'∧slR U c' x (v,false)∧MR U q c0 c' M' p'∧(WR U c M p→WR U c' M' p'):=by
 unfold alT at h;split at h
 ·rename_i d;split at h
  ·rename_i ty hty;obtain⟨hf,hk⟩:=jA h;have hz:=hT.zc t ty hty;have hc:=Mm.dom _ hf;have hsr:=aFd hU ty;obtain⟨g1,g2⟩:=Mm.new (o:= .box ((zcT U ty).map fun c=>fl c false)) (n:=0) (z:=0) (b:= .bx (.val ⟨ty,kZ U ty⟩) (uA U ty)) (Nat.le_add_right 100 d) hf ⟨p.next,_,rfl,by rw[fL,if_pos rfl],⟨(hsr.fl false).wk,(hsr.fl false).z,fun y hy=>by
          obtain⟨z,_,rfl⟩:=List.mem_map.1 hy;exact mX z false⟩,fun i s hi=>⟨.emp,by rw[List.getElem?_map,aBN hU ty i s hi];rfl,fun _=>rfl⟩⟩
   exact⟨_,_,_,.ptr p.next 0,_,hk,by simp only[cA,ho,hz],fF hc,⟨⟨_,_,by unfold nN;rw[if_pos rfl],rfl,rfl⟩,aG _ _⟩,g1,g2⟩
  ·cases hfn:T.T.fn t with
   |false=>rw[hfn]at h;cases h
   |true=>
    rw[hfn]at h;obtain⟨hf,hk⟩:=jA h;obtain⟨_,_,hz⟩:=hT.fn t hfn;have hc:=Mm.dom _ hf;obtain⟨g1,g2⟩:=Mm.new (o:= .box [(.v .nilFunc,false)]) (n:=0) (z:=0) (b:= .bx .nf []) (Nat.le_add_right 100 d) hf ⟨p.next,_,rfl,by rw[fL,if_pos rfl],⟨_,rfl⟩,fun i s hi=>by cases hi⟩
    exact⟨_,_,_,.ptr p.next 0,_,hk,by simp only[cA,ho,hz];rfl,fF hc,⟨⟨_,_,by unfold nN;rw[if_pos rfl],rfl,rfl⟩,aG _ _⟩,g1,g2⟩
 ·cases h
omit hT in
theorem bxT_ok{S:TS U.D}{S':PS}(F:frR U c S S'){o:Oper}{d:Option Tmp}{t:TypeId}{x:Operand}{K:X U→TM U.D→Option β}(ho:o.op= .box t x)(h:bxT U T.T M d t (evT U S x) K=some r)(Mm:MR U q c0 c M p):
    ∃c' x M' v p',K x M'=some r∧cA P p S' o=some (v,false,p')∧leC c c'∧slR U c' x (v,false)∧MR U q c0 c' M' p'∧(WR U c M p→WR U c' M' p'):=by
 have rx:=aX F x;unfold bxT at h;split at h
 ·rename_i d;split at h
  ·rename_i ty hty;split at h
   ·rename_i v hv;obtain⟨hf,hk⟩:=jA h;obtain⟨hvt,hvr⟩:=fV hU hv rx.1;have hsr:=VR.sr hvr;have hc:=Mm.dom _ hf;have hrt:=(lN rx).2;obtain⟨g1,g2⟩:=Mm.new (o:= .box ((pev S' x).cells.map fun c=>fl c false)) (n:=0) (z:=0) (b:= .bx (.val v) (oE U (evT U S x)).2) (Nat.le_add_right 100 d) hf ⟨p.next,_,rfl,by rw[fL,if_pos rfl],⟨(hsr.fl false).wk,(hsr.fl false).z,fun y hy=>by
            obtain⟨z,_,rfl⟩:=List.mem_map.1 hy;exact mX z false⟩,rts_fl hrt hvr⟩
    exact⟨_,_,_,.ptr p.next 0,_,hk,by simp only[cA,ho,hsr.one hU,cdt],fF hc,⟨⟨_,_,by unfold nN;rw[if_pos rfl],rfl,rfl⟩,aG _ _⟩,g1,g2⟩
   ·cases h
  ·split at h
   ·rename_i f caps hx;obtain⟨hf,hk⟩:=jA h;have h1:=rx.1;rw[hx]at h1;obtain⟨ps,hps,hcap⟩:=h1;have hc:=Mm.dom _ hf;obtain⟨g1,g2⟩:=Mm.new (o:= .box [(.fn f [] ps,false)]) (n:=0) (z:=0) (b:= .bx (.cl f caps) []) (Nat.le_add_right 100 d) hf ⟨p.next,_,rfl,by rw[fL,if_pos rfl],⟨_,_,rfl,ps,rfl,aBo (fF hc) hcap⟩,fun i s hi=>by cases hi⟩
    have hps:pev S' x= .fn f [] ps:=hps;exact⟨_,_,_,.ptr p.next 0,_,hk,by simp only[cA,ho,hps];rfl,fF hc,⟨⟨_,_,by unfold nN;rw[if_pos rfl],rfl,rfl⟩,aG _ _⟩,g1,g2⟩
   ·cases h
 ·cases h
omit hT in
theorem aB2(e:Ty): ∀n,dW (wks (zcT U e)) n=((zT (kZ U e) n).map (enV U e)).flatMap PV.cells
 |0=>rfl
 |n+1=>by rw[dW,zT,mpC,fmC,aB2 e n,aFc hU]
omit hU hT in
theorem tJ{α:Type}(x:α): ∀n,(zT x n).length=n
 |0=>rfl
 |n+1=>by rw[zT,lcS,tJ x n]
theorem msT_ok{S:TS U.D}{S':PS}(F:frR U c S S'){o:Oper}{d:Option Tmp}{t:TypeId}{l k:Operand}{K:X U→TM U.D→Option β}(ho:o.op= .makeSlice t l k)(h:msT U T.T M d t (isZ l) T.el (evT U S l).1 (evT U S k).1 K=some r)(Mm:MR U q c0 c M p):
    ∃c' x M' v own p',K x M'=some r∧cA P p S' o=some (v,own,p')∧leC c c'∧slR U c' x (v,own)∧MR U q c0 c' M' p'∧(WR U c M p→WR U c' M' p'):=by
 have rl:=(aX F l).1;have rk:=(aX F k).1;unfold msT at h;split at h
 ·rename_i et eid n m hty hel hl hk;rw[hl]at rl;rw[hk]at rk;have el:pev S' l= .v (.int .i64 n):=eM rl;have ek:pev S' k= .v (.int .i64 m):=eM rk;clear rl rk hl hk;obtain⟨n',hn'⟩: ∃n':Int,n'=n:=⟨n,rfl⟩;subst hn';obtain⟨m',hm'⟩: ∃m':Int,m'=m:=⟨m,rfl⟩;subst hm';obtain⟨hc,h⟩:=bU h;simp only[bjE,djE]at hc;obtain⟨⟨⟨hc1,hc2⟩,hc3⟩,hc4⟩:=hc;obtain⟨eid',hu,hte,hel'⟩:=hT.un t _ hty;rw[hel]at hel';cases hel';obtain⟨info,z,hi,hsz,hby,hb1,hz,hzs,hzc,hzp⟩:=hT.inf eid et hte;have hag:=hT.ag eid et hte;have hps:=lC hU et;have c0: ∀(n' m':Int),0≤n'→n'≤m'→m'*(T.T.by' eid:Int)≤1073741824→m'≤1073741824→(decide (0≤n')&&decide (n'≤m')&&decide (m'*(info.bytes:Int)≤1073741824)&&decide (m'≤1073741824)&&z.cells.toList.all aC&&Nat.beq z.cells.size info.size&&Nat.ble 1 info.size&&(mE et||Nat.beq info.size 1))=true:=by
   intro n' m' hc1 hc2 hc3 hc4;rw[hzs,hsz,hby,hzp,Nat.beq_refl,(by rw[Nat.ble_eq];exact hps:Nat.ble 1 (szT U et)=true),decide_eq_true hc1,decide_eq_true hc2,decide_eq_true hc3,decide_eq_true hc4]
   cases et<;>rfl
  have c1:=c0 n' m' hc1 hc2 hc3 hc4;have hpal:cA P p S' o=bif decide (n'=0)then some (.sl info.size [],true,p)else bif decide (n'=m')then some (.rs p.next 0 n'.toNat,false,p.new (.row info.size (mE et) (dW (wks (ofVs z.cells.toList)) n'.toNat)))else none:=by
   simp only[cA,ho,hu,el,ek,hi,hag,hz,c1,cdt]
  have hnil:VR U (.sl et) [] (.sl (szT U et) []):=⟨rfl,fun j z' hj=>by
   cases j with
   |zero=>simp only[PV.cells,gcZ,ojE,PV.sl.injEq]at hj;exact⟨et,rfl,hj.1.symm⟩
   |succ j=>simp[PV.cells]at hj⟩
  cases hzl:isZ l with
  |true=>
   rw[hzl]at h;obtain⟨hn,h⟩:=bU h;have hn:=of_decide_eq_true hn;refine⟨c,_,_,.sl (szT U et) [],true,p,h,?_,leC.refl c,⟨hnil,?_⟩,Mm,fun hw=>hw⟩
   ·rw[hpal,decide_eq_true hn,cdt,hsz]
   ·intro i s hi;simp only[List.mem_singleton,pjE]at hi;exact .inr ⟨hi.1,rfl,rfl,fun e=>by rw[hi.2]at e;cases e⟩
  |false=>
   rw[hzl]at h;obtain⟨hn,h⟩:=bU h;have hn:=of_decide_eq_true hn;cases d with
   |none=>cases h
   |some d=>
    obtain⟨hf,hk⟩:=jA h;have hcn:=Mm.dom _ hf;by_cases h0:n'=0
    ·have h00:n'.toNat=0:=by omega
     obtain⟨g1,g2⟩:=Mm.new0 (b:= .row et (zT (kZ U et) n'.toNat)) (n:=0) (z:=szT U et) (Nat.le_add_right 100 d) hf ⟨by rw[tJ,h00],rfl,.inl ⟨rfl,by rw[h00];rfl⟩⟩
     refine⟨_,_,_,.sl (szT U et) [],true,p,hk,by rw[hpal,decide_eq_true h0,cdt,hsz],fF hcn,⟨⟨_,by unfold nN;rw[if_pos rfl],.inl ⟨rfl,rfl,.inl rfl⟩⟩,aG _ _⟩,g1,g2⟩
    ·obtain⟨g1,g2⟩:=Mm.new (o:= .row (szT U et) (mE et) (dW (wks (ofVs z.cells.toList)) n'.toNat)) (b:= .row et (zT (kZ U et) n'.toNat)) (n:=n'.toNat) (z:=szT U et) (Nat.le_add_right 100 d) hf ⟨by rw[tJ],rfl,.inr ⟨p.next,rfl,by rw[fL,if_pos rfl,hzc,aB2 hU]⟩⟩
     refine⟨_,_,_,.rs p.next 0 n'.toNat,false,_,hk,by rw[hpal,decide_eq_false h0,cdf,decide_eq_true hn,cdt,hsz],fF hcn,⟨⟨_,by unfold nN;rw[if_pos rfl],.inr ⟨_,rfl,by
      have k1:(0:Int)≤n':=hc1;have k2: ¬(n':Int)=0:=h0;simp only;omega,rfl⟩⟩,aG _ _⟩,g1,g2⟩
 ·cases h
omit hT in
theorem jU{n:Nat}: ∀(l:List (U.D n)),kT (U.sz n) l.length ((l.map (enV U (.rc n))).flatMap PV.cells)=l.map (enV U (.rc n))
 |[]=>rfl
 |x::l=>by
  rw[lcS,kT,mpC,fmC];have hl:(enV U (.rc n) x).cells.length=U.sz n:=eP hU (.rc n) x;rw[List.take_left' hl,List.drop_left' hl,jU l];rfl
omit hU hT in
theorem aC0{t:Ty}(h:mE t=false): ∀(l:List (Den U.D t)),(l.map (enV U t)).flatMap PV.cells=l.map (enV U t)
 |[]=>rfl
 |x::l=>by
  rw[mpC,fmC,aC0 h l];have:(enV U t x).cells=[enV U t x]:=by
   cases t with
   |rc n=>cases h
   |sl t=>exact hJ (bV _ _)
   |_=>rfl
  rw[this];rfl
omit hU hT in
theorem aCU{p:PSt}{x:PV×Bool}(h: ∀id off len,x.1≠ .rs id off len):frz p x=some (x,p):=by
 obtain⟨pv,b⟩:=x;cases pv with
 |rs id off len=>exact(h id off len rfl).elim
 |_=>rfl
omit hU hT in
theorem aAc{S0:TS U.D}{S':PS}{t:Nat}(F:frR U c S0 S'):frR U c S0 (S'.set t (S'.at t)):=fun k=>by
 rw[kA];by_cases e:k=t
 ·rw[if_pos e,←e];exact F k
 ·rw[if_neg e];exact F k
omit hT in
theorem aGI{S:TS U.D}{S':PS}(F:frR U c S S'){t:Nat}{R:TS U.D×TM U.D}(h:frT U S M t=some R)(Mm:MR U q c0 c M p):
    ∃S'' p',eW p S' t=some (S'',p')∧frR U c R.1 S''∧MR U q c0 c R.2 p'∧(WR U c M p→WR U c R.2 p'):=by
 have hs:=F t;have same: ∀{x:SV U.D} {r:Rts},nX S t=(x,r)→(∀id off len,(S'.at t).1≠ .rs id off len)→R=((t,(x,r))::S,M)→
      ∃S'' p',eW p S' t=some (S'',p')∧frR U c R.1 S''∧MR U q c0 c R.2 p'∧(WR U c M p→WR U c R.2 p'):=by
  intro x r hx hne hR;subst hR;refine⟨S'.set t (S'.at t),p,by simp only[eW,aCU hne],?_,Mm,fun hw=>hw⟩
  exact aAc (aCV F (show slR U c (x,r) (S'.at t) by rw[←hx];exact hs))
 unfold frT at h;split at h
 ·rename_i k rr hx;split at h
  ·rename_i e l hf;simp only[ojE]at h;subst h;have h1:=hs.1;rw[hx]at h1;obtain⟨ce,hce,h1⟩:=h1;obtain⟨ce',hce',hn,hz,hrow⟩:=Mm.bx k _ hf;rw[hce]at hce';cases hce';rcases h1 with⟨hid,hn0,hp⟩|⟨id,hid,hn1,hp⟩
   ·have hl:l=[]:=List.length_eq_zero_iff.1 (by omega)
    subst hl;refine⟨S'.set t (S'.at t),p,by rw[eW,aCU (by rcases hp with hp|hp<;>(rw[hp];intro _ _ _ e;cases e))],?_,Mm.gone hf _,fun hw i hi j e' g1 g2=>by
     show(Nat.beq k j||bM j M.wr)=true;rw[hw i hi j e' g1 g2,Bool.or_true]⟩
    refine kP F ⟨?_,aG _ _⟩;show VR U (.sl e) [] (S'.at t).1;rcases hp with hp|hp
    ·rw[hp,hz];exact⟨rfl,fun j z' hj=>by
      cases j with
      |zero=>simp only[PV.cells,gcZ,ojE,PV.sl.injEq]at hj;exact⟨e,rfl,hj.1.symm⟩
      |succ j=>simp[PV.cells]at hj⟩
    ·rw[hp];exact vC e [] (z:=szT U e) (es:=[]) rfl rfl
   ·rcases hrow with⟨hno,_⟩|⟨id',hid',hget⟩
    ·rw[hid]at hno;cases hno
    ·rw[hid]at hid';cases hid';have hfl:((l.map (enV U e)).flatMap PV.cells).length=l.length*szT U e:=by
      have:=cX (z:=szT U e) (es:=l.map (enV U e)) (fun e' he'=>by obtain⟨a,_,rfl⟩:=List.mem_map.1 he';exact eP hU _ _)
      rw[List.length_map]at this;exact this
     have hpur:((l.map (enV U e)).flatMap PV.cells).all PV.pur=true:=by
      rw[List.all_eq_true];intro x hx;obtain⟨y,hy,hx⟩:=List.mem_flatMap.1 hx;obtain⟨a,_,rfl⟩:=List.mem_map.1 hy;exact gd_pur (List.all_eq_true.1 (rB hU e a) x hx)
     have hps:=lC hU e;have c1:(Nat.ble (0+ce.n*ce.z) ((l.map (enV U e)).flatMap PV.cells).length&&Nat.ble 1 ce.z&&(mE e||Nat.beq ce.z 1)&&((l.map (enV U e)).flatMap PV.cells).all PV.pur)=true:=by
      rw[hfl,hpur,hz,hn,Nat.zero_add,(by rw[Nat.ble_eq];exact nlR _:Nat.ble (l.length*szT U e) (l.length*szT U e)=true),(by rw[Nat.ble_eq];exact hps:Nat.ble 1 (szT U e)=true)]
      cases e<;>rfl
     have hval:(bif mE e then kT ce.z ce.n ((((l.map (enV U e)).flatMap PV.cells).drop 0).take (ce.n*ce.z))else((((l.map (enV U e)).flatMap PV.cells).drop 0).take (ce.n*ce.z)))=l.map (enV U e):=by
      rw[List.drop_zero,List.take_of_length_le (by rw[hfl,hn,hz];exact nlR _)]
      cases hr:mE e with
      |true=>
       cases e with
       |rc n=>rw[cdt,hz,hn];exact jU hU l
       |_=>cases hr
      |false=>rw[cdf];exact aC0 hr l
     have hat:S'.at t=(.rs id 0 ce.n,(S'.at t).2):=by rw[←hp]
     obtain⟨m1,m2⟩:=Mm.upd (o:= .gone) (b':= .gone) hf hce hid trivial;refine⟨S'.set t (cQ ce.z (l.map (enV U e)),false),p.upd id .gone,?_,?_,m1,m2⟩
     ·rw[eW,hat];simp only[frz,hget,c1,cdt,hval]
     ·exact kP F ⟨vC _ _ hz rfl,aG _ _⟩
  ·cases h
 ·rename_i v rr hx;simp only[ojE]at h;refine same hx ?_ h.symm;intro id off len e;have h1:=hs.1;rw[hx]at h1;have h2:VR U v.t v.x (S'.at t).1:=h1;have h3:=h2.wk;rw[e]at h3;obtain⟨vt,vx⟩:=v;cases vt with
  |sl t=>have:=bV (szT U t) (List.map (enV U t) vx);simp only[enV]at h3;rw[←h3]at this;cases this
  |_=>cases h3
 ·rename_i rr hx;simp only[ojE]at h;refine same hx ?_ h.symm;intro id off len e;have h1:=hs.1;rw[hx]at h1;have h2:(S'.at t).1= .nil:=h1;rw[h2]at e;cases e
 ·rename_i f caps rr hx;simp only[ojE]at h;refine same hx ?_ h.symm;intro id off len e;have h1:=hs.1;rw[hx]at h1;obtain⟨ps,h2,_⟩:=h1;rw[h2]at e;cases e
 ·cases h
end
end Go.TV
namespace Go.TV
open Go.AI Go.PI
section
variable{P:Program}{U:iG}{T:TP U.D}{c c0:Cx}{β:Type}{r:β}{q p:PSt}{M:TM U.D}
theorem tS{S':PS}{x:Operand}(h:(iX S' x||kK (pev S' x))=true):iX S' x=true:=by
 cases x with
 |tmp t=>simpa [iX,pev,Bool.or_assoc]using h
 |const v=>
  cases v with
  |slice b l k=>
   cases b with
   |none=>rfl
   |some b=>simp[iX,pev,ofV,kK]at h
  |_=>simp[iX,pev,ofV,kK]at h
 |global g=>simp[iX,pev,kK]at h
 |func f=>simp[iX,pev,kK]at h
variable(hU:eR U)(hT:sS P U T)
include hU hT
theorem apT_ok{S:TS U.D}{S':PS}(F:frR U c S S'){cl:Call}{s x:Operand}{K:X U→Option β}(h:apT U T.T T.el cl.argTypes.toList (evT U S s) (evT U S x).1 K=some r):
    ∃y v own,K y=some r∧mP P S' cl s x=some (v,own,oT S' s)∧slR U c y (v,own):=by
 have rs:=aX F s;have rx:=(aX F x).1;unfold apT at h;split at h
 ·rename_i t t1 hts;split at h
  ·rename_i et eid e1 hty hel hty1;split at h
   ·rename_i a l b w hs hx;split at h
    ·rename_i l' w' hl hw;obtain⟨hst,hsv⟩:=fV hU hs rs.1;obtain⟨hxt,hxv⟩:=fV hU hx rx;have e2:=jF hl;have e3:=jF hw;have hsv:VR U (.sl et) l' (pev S' s):=by
      have:VR U (⟨a,l⟩:TV U.D).t (⟨a,l⟩:TV U.D).x (pev S' s):=hsv;rw[e2]at this;exact this
     have hxv:VR U (.sl et) w' (pev S' x):=by
      have:VR U (⟨b,w⟩:TV U.D).t (⟨b,w⟩:TV U.D).x (pev S' x):=hxv;rw[e3]at this;exact this
     obtain⟨eid',hu,hte,hel'⟩:=hT.un t _ hty;rw[hel]at hel';cases hel';obtain⟨eid1,hu1,_⟩:=hT.un t1 _ hty1;obtain⟨info,z,hi,hsz,hby,hb1,hz,hzs,hzc,hzp⟩:=hT.inf eid et hte;obtain⟨g1,g2⟩:=pG hsv;obtain⟨k1,k2⟩:=pG hxv;have c1:(Nat.ble 1 info.size&&Nat.ble 1 info.bytes&&Nat.beq z.cells.size info.size)=true:=by
      rw[hzs,Nat.beq_refl,hsz,(by rw[Nat.ble_eq];exact lC hU et:Nat.ble 1 (szT U et)=true),(by rw[Nat.ble_eq];exact hb1:Nat.ble 1 info.bytes=true)];rfl
     have hna:isAgg (pev S' s)=false:=lB (v:=⟨.sl et,l'⟩) hsv rfl;have hpa:mP P S' cl s x=(match w'.map (enV U et)with
              |[]=>some (pev S' s,iX S' s,oT S' s)
              |xs=>bif iX S' s&&Nat.ble (((l'.map (enV U et)).length+(w'.map (enV U et)).length)*info.bytes) 1073741824 then some (cQ info.size (l'.map (enV U et)++w'.map (enV U et)),true,oT S' s)else none):=by
      have e4:kS info.size (pev S' s)=some (l'.map (enV U et)):=by rw[hsz];exact g1
      have e5:mL info.size (.slice eid1) (pev S' x)=some (w'.map (enV U et)):=by rw[hsz];exact k1
      simp only[mP,hts,hu,hu1,hi,e4,e5,hz,c1,cdt];rfl
     cases hm:aGt 0 (evT U S s).2 with
     |true=>
      rw[hm]at h;obtain⟨hc,h⟩:=bU h;obtain⟨st,hst2⟩:=lK.1 hm;have how:iX S' s=true:=by
       rcases rs.2 0 st hst2 with⟨h1,_⟩|⟨_,_,h1,_⟩
       ·rw[hna]at h1;cases h1
       ·exact tS h1
      cases w' with
      |nil=>
       refine⟨_,pev S' s,iX S' s,h,by rw[hpa];rfl,?_,rs.2⟩
       show VR U (.sl et) (l'++ []) (pev S' s);rw[apN];exact hsv
      |cons w0 w'=>
       refine⟨_,cQ info.size (l'.map (enV U et)++(w0::w').map (enV U et)),true,h,?_,vC _ _ hsz (by rw[←List.map_append]),?_⟩
       ·rw[hpa,how];simp only[mpC,List.length_map,lcS,hby];have hc':Nat.ble ((l'.length+(w'.length+1))*T.T.by' eid) 1073741824=true:=hc
        rw[hc'];rfl
       ·intro o s' hi';have hg:=bV info.size (l'.map (enV U et)++(w0::w').map (enV U et));rcases rs.2 o s' hi' with⟨h1,_⟩|⟨h1,_⟩
        ·rw[hna]at h1;cases h1
        ·refine .inr ⟨h1,?_,rfl,fun _=>aCS hg⟩
         cases hc:cQ info.size (l'.map (enV U et)++(w0::w').map (enV U et))<;>first|rfl|(rw[hc]at hg;cases hg)
     |false=>
      rw[hm]at h;obtain⟨hc,h⟩:=bU h;cases w' with
      |nil=>exact⟨_,pev S' s,iX S' s,h,by rw[hpa];rfl,hsv,aG _ _⟩
      |cons w0 w'=>cases hc
    ·cases h
   ·cases h
  ·cases h
 ·cases h
theorem ap1T_ok{S:TS U.D}{S':PS}(F:frR U c S S'){ts:List TypeId}{t1 t2:TypeId}{s zz n x:Operand}{K:V U→V U→Option β}(h:ap1T U T.T T.el ts t1 t2 (evT U S s) (evT U S zz).1 (evT U S n).1 (evT U S x).1 K=some r):
    ∃y w v,K y w=some r∧pappV P ts t1 t2 (pev S' s) (iX S' s) (pev S' zz) (pev S' n) (pev S' x)=some v∧slR U c (.val y,[(0,true)]) (v,true)∧svR U c (.ep w) (pinL v):=by
 have rs:=aX F s;have rz:=(aX F zz).1;have rn:=(aX F n).1;have rx:=(aX F x).1;unfold ap1T at h;split at h
 ·rename_i t tz;split at h
  ·rename_i et eid e1 hty hel hty1;split at h
   ·rename_i a l b y kk k v hs hz hn hx;split at h
    ·rename_i l' y0 w' hl hy hw;rw[hn]at rn;cases hb:aGt 0 (evT U S s).2&&Nat.beq t1 t&&Nat.beq t2 eid with
     |false=>rw[hb]at h;cases h
     |true=>
      rw[hb]at h;simp only[bjE,cG,djE]at hb;obtain⟨⟨hm,rfl⟩,rfl⟩:=hb;obtain⟨hc,h⟩:=bU h;simp only[bjE,djE]at hc;obtain⟨hst,hsv⟩:=fV hU hs rs.1;obtain⟨hzt,hzv⟩:=fV hU hz rz;obtain⟨hxt,hxv⟩:=fV hU hx rx;have e2:=jF hl;have e3:=jF hy;have e4:=jF hw;have hsv:VR U (.sl et) l' (pev S' s):=by
       have:VR U (⟨a,l⟩:TV U.D).t (⟨a,l⟩:TV U.D).x (pev S' s):=hsv;rw[e2]at this;exact this
      have hzv:VR U (.sl et) [y0] (pev S' zz):=by
       have:VR U (⟨b,y⟩:TV U.D).t (⟨b,y⟩:TV U.D).x (pev S' zz):=hzv;rw[e3]at this;exact this
      have hxv:VR U et w' (pev S' x):=by
       have:VR U (⟨v.t,v.x⟩:TV U.D).t (⟨v.t,v.x⟩:TV U.D).x (pev S' x):=hxv;rw[e4]at this;exact this
      obtain⟨eid',hu,hte,hel'⟩:=hT.un t1 _ hty;rw[hel]at hel';cases hel';obtain⟨eid1,hu1,_⟩:=hT.un tz _ hty1;obtain⟨info,z,hi,hsz,hby,hb1,hz',hzs,hzc,hzp⟩:=hT.inf t2 et hte;obtain⟨g1,g2⟩:=pG hsv;obtain⟨k1,_⟩:=pG hzv;have hna:isAgg (pev S' s)=false:=lB (v:=⟨.sl et,l'⟩) hsv rfl;obtain⟨st,hst2⟩:=lK.1 hm;have how:iX S' s=true:=by
       rcases rs.2 0 st hst2 with⟨h1,_⟩|⟨_,_,h1,_⟩
       ·rw[hna]at h1;cases h1
       ·exact tS h1
      have e5:kS info.size (pev S' s)=some (l'.map (enV U et)):=by rw[hsz];exact g1
      have e6:mL info.size (.slice eid1) (pev S' zz)=some [enV U et y0]:=by rw[hsz];exact k1
      have e7:pev S' n= .v (.int kk k):=eM rn;have hlen:((l'.map (enV U et)).length+1)*info.bytes=(l'.length+1)*T.T.by' t2:=by rw[List.length_map,hby]
      have hlen2:(k:Int)=((l'.map (enV U et)).length:Int):=by rw[List.length_map];exact hc.2
      have c1:(Nat.ble 1 info.size&&Nat.ble 1 info.bytes&&Nat.beq z.cells.size info.size&&iX S' s&&Nat.ble (((l'.map (enV U et)).length+1)*info.bytes) 1073741824&&Nat.beq t1 t1&&Nat.beq t2 t2&&decide ((k:Int)=((l'.map (enV U et)).length:Int))&&PI.shape (mE et) info.size (pev S' x))=true:=by
       rw[hlen,hc.1,decide_eq_true hlen2,hzs,hsz,lD hU hxv,how,(by rw[Nat.ble_eq];exact lC hU et:Nat.ble 1 (szT U et)=true),(by rw[Nat.ble_eq];exact hb1:Nat.ble 1 info.bytes=true)]
       simp only[Nat.beq_refl,Bool.and_self]
      have hne:l'.map (enV U et)++ [wk (pev S' x)]≠ []:=by simp
      have hmk:PV.sl info.size (l'.map (enV U et)++ [wk (pev S' x)])=cQ info.size (l'.map (enV U et)++ [wk (pev S' x)]):=by
       cases hh:l'.map (enV U et)++ [wk (pev S' x)]with
       |nil=>exact(hne hh).elim
       |cons a b=>rfl
      refine⟨_,_,cQ info.size (l'.map (enV U et)++ [wk (pev S' x)]),h,?_,⟨vC _ _ hsz (by rw[List.map_append,hxv.wk];rfl),?_⟩,?_⟩
      ·simp only[pappV,hu,hu1,hi,hT.ag _ _ hte,e5,e6,hz',e7];rw[c1,←hmk];rfl
      ·intro o s' hi';simp only[List.mem_singleton,pjE]at hi';have hg:=bV info.size (l'.map (enV U et)++ [wk (pev S' x)]);refine .inr ⟨hi'.1,?_,rfl,fun _=>aCS hg⟩
       cases hc:cQ info.size (l'.map (enV U et)++ [wk (pev S' x)])<;>first|rfl|(rw[hc]at hg;cases hg)
      ·rw[←hmk];refine⟨_,_,0,wk (pev S' x),rfl,by simp,?_⟩
       rw[hxv.wk,List.drop_zero];exact List.take_of_length_le (Nat.le_of_eq (eP hU et w'))
    ·cases h
   ·cases h
  ·cases h
 ·cases h
end
end Go.TV
namespace Go.TV
open Go.AI Go.PI
section
variable{P:Program}{U:iG}{T:TP U.D}{c c0:Cx}{β:Type}{r:β}{q p:PSt}{M:TM U.D}
structure aDM(U:iG)(s:Sig)(d:List (V U))(p:PSt)(cc:Cx)(args:List (PV×Bool))(S0:TS U.D)(M0:TM U.D):Prop where
 start:unT' U (cutOf s) d=some (S0,M0)
 len:args.length=s.ps.length
 args: ∀i y,args[i]?=some y→slR U cc (nX S0 i) y
 bx: ∀j b,bF M0.bx j=some b→∃e,cc j=some e∧bcR U cc p e b
 dom: ∀j,s.bx.length≤j→cc j=none
 lt: ∀j e id,cc j=some e→e.id=some id→id<p.next
 inj: ∀k k' e e' id,cc k=some e→cc k'=some e'→e.id=some id→e'.id=some id→k=k'
 wr: ∀id,id∈p.wr→id<p.next
structure CallOut(U:iG)(s:Sig)(out:List (V U))(p:PSt)(cc:Cx)(pv:PV)(own:Bool)(p':PSt):Prop where
 res:slR U cc (resV U s.own (out.take s.rs.length)) (pv,own)
 out: ∃m,eT U s.bx s.bo (out.drop s.rs.length)=some m∧∀j x,m[j]?=some x→∃e,cc j=some e∧bcR U cc p' e x
 next:p'.next=p.next
 get: ∀id,id<p.next→(∀j e,cc j=some e→e.id≠some id)→p'.get id=p.get id
 get2: ∀id,id<p.next→id∉p'.dirty→p'.get id=p.get id
 dirty: ∀id,id∈p'.dirty→id∈p.dirty∨∃j e,cc j=some e∧e.id=some id
 dirty2: ∀id,id∈p.dirty→id∈p'.dirty
 wr: ∀id,id∈p'.wr→id∈p.wr∨∃j e,cc j=some e∧e.id=some id
def eS(U:iG)(T:TP U.D)(tc:qQ U.D)(pc:gD):Prop:=
 ∀inst s d out,T.sig inst=some s→tc inst d=some out→∀p cc args S0 M0,aDM U s d p cc args S0 M0→∃pv own p',pc s.f args p=some (pv,own,p')∧CallOut U s out p cc pv own p'
def kU(c:Cx)(bk:List Nat):Cx:=fun j=>if j<bk.length then c (jR bk j)else none
theorem oR: ∀(l:List Nat) (i:Nat),i<l.length→l[i]?=some (jR l i)
 |x::l,0,_=>rfl
 |x::l,i+1,h=>by rw[gcS];exact oR l i (by simpa using h)
 |[],i,h=>by simp at h
theorem mY: ∀{a b:List Nat},zX a b=true→a=b
 |[],[],_=>rfl
 |x::a,y::b,h=>by
  simp only[zX,bjE,cG,djE]at h;rw[h.1,mY h.2]
 |[],_::_,h=>by cases h
 |_::_,[],h=>by cases h
theorem eJ{i:Nat}: ∀{l:List Nat},bM i l=true↔i∈l
 |[]=>by simp[bM]
 |x::l=>by
  simp only[bM,Bool.or_eq_true,cG,djE,eJ (l:=l),List.mem_cons];exact or_congr eq_comm Iff.rfl
theorem pI: ∀{l:List Nat},aGq l=true→l.Nodup
 |[],_=>List.nodup_nil
 |x::l,h=>by
  simp only[aGq,bjE,Bool.not_eq_true']at h;refine List.nodup_cons.2 ⟨fun hm=>?_,pI h.2⟩
  rw[eJ.2 hm]at h;cases h.1
theorem nth_inj{bk:List Nat}(h:bk.Nodup){i j:Nat}(hi:i<bk.length)(hj:j<bk.length)(e:jR bk i=jR bk j):i=j:=by
 have h1:=oR bk i hi;have h2:=oR bk j hj;rw[←e,←h1]at h2;exact((List.getElem?_inj hj h).1 h2).symm
theorem aBp{bk:List Nat}: ∀{caps:List Nat} {ps:List PV},qK caps bk.length=true→(zY c (mapN (jR bk) caps) ps↔zY (kU c bk) caps ps)
 |[],[],_=>Iff.rfl
 |k::ks,x::ps,h=>by
  simp only[qK,bjE,gL,djE]at h;simp only[mapN,zY,kU,if_pos h.1];exact and_congr Iff.rfl (aBp h.2)
 |[],_::_,_=>Iff.rfl
 |_::_,[],_=>Iff.rfl
theorem aDb{bk:List Nat}: ∀{caps:List Nat} {ps:List PV},zY (kU c bk) caps ps→zY c (mapN (jR bk) caps) ps
 |[],[],_=>trivial
 |k::ks,x::ps,⟨⟨e,id,h1,h2,h3⟩,h4⟩=>by
  unfold kU at h1;split at h1
  ·exact⟨⟨e,id,h1,h2,h3⟩,aDb h4⟩
  ·cases h1
 |[],_::_,h=>h.elim
 |_::_,[],h=>h.elim
theorem aHM{bk:List Nat}{s:SV U.D}{cs:List (PV×Bool)}(h:qE U (kU c bk) s cs):qE U c (renS U bk s) cs:=by
 cases s with
 |cl f caps=>obtain⟨p,b,e,ps,h1,h2⟩:=h;exact⟨p,b,e,ps,h1,aDb h2⟩
 |_=>exact h
theorem VR_wk{t:Ty}{x:Den U.D t}{p:PV}(hU:eR U)(h:VR U t x p):VR U t x (wk p):=by
 refine⟨by rw[h.wk,en_wk hU],?_⟩
 rw[h.wk];exact aFe (rB hU t x)
def argR(U:iG)(c:Cx)(take:Bool):List (X U)→List (PV×Bool)→Prop
 |[],[]=>True
 |x::xs,y::ys=>(∃pv ow,svR U c x.1 pv∧rtR x.2 pv ow∧y=(wk pv,take&&ow&& !isE pv)∧(take=false→x.2=[])∧(kK pv=true→ow=true))∧argR U c take xs ys
 |_,_=>False
theorem qH{take:Bool}: ∀{xs xs':List (X U)} {ys ys':List (PV×Bool)},argR U c take xs ys→argR U c take xs' ys'→argR U c take (xs++xs') (ys++ys')
 |[],_,[],_,_,h=>h
 |x::xs,_,y::ys,_,h,h'=>⟨h.1,qH h.2 h'⟩
 |[],_,_::_,_,h,_=>h.elim
 |_::_,_,[],_,h,_=>h.elim
theorem aCs{take:Bool}: ∀{args:List Operand} {S:TS U.D} {S':PS},frR U c S S'→frR U c (aEd U take S args).2 (iH take S' args).2∧argR U c take (aEd U take S args).1 (iH take S' args).1
 |[],S,S',F=>⟨F,trivial⟩
 |x::xs,S,S',F=>by
  have F1:frR U c (bif take then qX U S x else S) (bif take then oT S' x else S'):=by
   cases take with
   |true=>exact lS F x
   |false=>exact F
  obtain⟨h1,h2⟩:=aCs (args:=xs) F1;have:=aX F x;refine⟨h1,⟨pev S' x,iX S' x,this.1,?_,rfl,fun e=>by rw[e];rfl,fun h=>tS (by rw[h,Bool.or_true])⟩,h2⟩
  cases take with
  |true=>exact this.2
  |false=>exact aG _ _
theorem aHN{take:Bool}: ∀{caps:List Nat} {ps:List PV},zY c caps ps→argR U c take (caps.map fun k=>(SV.lc k 0 [],[])) (mS ps)
 |[],[],_=>trivial
 |k::ks,x::ps,⟨⟨e,id,h1,h2,h3⟩,h4⟩=>by
  refine⟨⟨x,false,⟨e,id,h1,h2,h3⟩,aG _ _,by rw[Bool.and_false,Bool.false_and],fun _=>rfl,fun h=>by rw[h3]at h;cases h⟩,aHN h4⟩
 |[],_::_,h=>h.elim
 |_::_,[],h=>h.elim
theorem rZ{S:TS U.D}{i k:Nat}{x:X U}(h:k≠i):nX ((i,x)::S) k=nX S k:=by rw[lQ,if_neg h]
theorem mH: ∀{rs:Rts},nQ rs=true→(0,true)∈rs
 |x::rs,h=>by
  obtain⟨a,b⟩:=x;simp only[nQ,Bool.or_eq_true,bjE,cG,djE]at h;rcases h with⟨rfl,rfl⟩|h
  ·exact mhE ..
  ·exact mtE _ (mH h)
theorem wM(hU:eR U){bk:List Nat}{take:Bool}: ∀{ps:List (Sh×Bool)} {xs:List (X U)} {ys:List (PV×Bool)} {d:List (V U)} (i0:Nat) (rest:List (V U)),iD U bk ps xs=some d→argR U c take xs ys→
    ys.length=ps.length∧∃S0,unS U (cutOf.psL ps i0) (d++rest)=some (S0,rest)∧∀i y,ys[i]?=some y→slR U (kU c bk) (nX S0 (i0+i)) y
 |[],[],[],d,i0,rest,h,_=>by
  simp only[iD,ojE]at h;subst h;exact⟨rfl,[],rfl,fun i y hy=>by simp at hy⟩
 |(s,own)::ps,x::xs,y::ys,d,i0,rest,h,⟨⟨pv,ow,r1,r2,hy0,r3,r4⟩,hr⟩=>by
  subst hy0;have fin: ∀(sv:SV U.D) (dv dl:List (V U)),iD U bk ps xs=some dl→d=dv++dl→unV U s (dv++(dl++rest))=some (sv,dl++rest)→svR U (kU c bk) sv (wk pv)→(own=true→nQ x.2=true∧isAgg pv=false)→
        ((wk pv,take&&ow&& !isE pv)::ys).length=((s,own)::ps).length∧∃S0,unS U (cutOf.psL ((s,own)::ps) i0) (d++rest)=some (S0,rest)∧∀i y,((wk pv,take&&ow&& !isE pv)::ys)[i]?=some y→slR U (kU c bk) (nX S0 (i0+i)) y:=by
   intro sv dv dl hm hd hu hs ho;obtain⟨g1,S0,g2,g3⟩:=wM hU (i0+1) rest hm hr;refine⟨by rw[lcS,lcS,g1],(i0,(sv,ownR own))::S0,?_,?_⟩
   ·rw[hd,apA];simp only[cutOf.psL,unS,hu,g2]
   ·intro i y hy;cases i with
    |zero=>
     simp only[gcZ,ojE]at hy;subst hy;rw[lQ,if_pos (Nat.add_zero _)];refine⟨hs,?_⟩;cases own with
     |false=>exact aG _ _
     |true=>
      obtain⟨h1,h2⟩:=ho rfl;have hm:=mH h1;intro o st hi;simp only[ownR,List.mem_singleton,pjE]at hi;have htk:take=true:=by
       cases take with
       |true=>rfl
       |false=>rw[r3 rfl]at hm;cases hm
      rcases r2 _ _ hm with⟨h3,_⟩|⟨_,_,h3,h4⟩
      ·rw[h2]at h3;cases h3
      ·have how:ow=true:=by
        cases hh:kK pv with
        |true=>exact r4 hh
        |false=>rw[hh,Bool.or_false]at h3;exact h3
       refine .inr ⟨hi.1,?_,?_,fun _=>?_⟩
       ·cases pv with
        |agg cs=>cases h2
        |sl z es=>cases es<;>rfl
        |_=>rfl
       ·rw[htk,how,h4 rfl];rfl
       ·cases pv with
        |sl z es=>cases es<;>rfl
        |_=>rfl
    |succ i=>
     rw[gcS]at hy;have:=g3 i y hy;rw[rZ (by omega),show i0+(i+1)=i0+1+i by omega]
     exact this
  obtain⟨sx,rx⟩:=x;cases s with
  |val t=>
   simp only[iD]at h;split at h
   ·rename_i v l hv hl;cases hb: !own||(nQ rx&& !mE t)with
    |false=>rw[hb]at h;cases h
    |true=>
     rw[hb]at h;simp only[cdt,ojE]at h;obtain⟨h1,h2⟩:=fV hU hv r1;refine fin (.val v) [v] l hl h.symm ?_ (VR_wk hU h2) ?_
     ·simp only[sgA,unV,h1,Ty.beq_rfl,cdt]
     ·intro ho;rw[ho]at hb;simp only[bnT,Bool.false_or,bjE,Bool.not_eq_true']at hb;exact⟨hb.1,lB h2 (by rw[h1];exact hb.2)⟩
   ·cases h
  |lc j off path=>
   cases sx with
   |lc k off' path'=>
    simp only[iD]at h;cases hb: !own&&Nat.blt j bk.length&&Nat.beq k (jR bk j)&&Nat.beq off off'&&zX path path' with
    |false=>rw[hb]at h;cases h
    |true=>
     rw[hb]at h;simp only[cdt]at h;simp only[bjE,gL,cG,djE,Bool.not_eq_true']at hb;obtain⟨⟨⟨⟨h0,h1⟩,h2⟩,h3⟩,h4⟩:=hb;obtain⟨e,id,g1,g2,g3⟩:=r1;refine fin (.lc j off path) [] d h rfl rfl ⟨e,id,?_,g2,by rw[g3,h3];rfl⟩ (fun ho=>by rw[h0]at ho;cases ho)
     unfold kU;rw[if_pos h1,←h2];exact g1
   |_=>cases h
  |cl f caps=>
   cases sx with
   |cl f' caps'=>
    simp only[iD]at h;cases hb: !own&&Nat.beq f f'&&qK caps bk.length&&zX (mapN (jR bk) caps) caps' with
    |false=>rw[hb]at h;cases h
    |true=>
     rw[hb]at h;simp only[cdt]at h;simp only[bjE,cG,djE,Bool.not_eq_true']at hb;obtain⟨⟨⟨h0,h1⟩,h2⟩,h3⟩:=hb;obtain⟨qs,g1,g2⟩:=r1;refine fin (.cl f caps) [] d h rfl rfl ⟨qs,by rw[g1,h1];rfl,(aBp h2).1 (by rw[mY h3];exact g2)⟩ (fun ho=>by rw[h0]at ho;cases ho)
   |_=>cases h
  |rw j=>
   cases sx with
   |rw k=>
    simp only[iD]at h;cases hb: !own&&Nat.blt j bk.length&&Nat.beq k (jR bk j)with
    |false=>rw[hb]at h;cases h
    |true=>
     rw[hb]at h;simp only[cdt]at h;simp only[bjE,gL,cG,djE,Bool.not_eq_true']at hb;obtain⟨⟨h0,h1⟩,h2⟩:=hb;obtain⟨e,g1,g2⟩:=r1;refine fin (.rw j) [] d h rfl rfl ⟨e,?_,?_⟩ (fun ho=>by rw[h0]at ho;cases ho)
     ·unfold kU;rw[if_pos h1,←h2];exact g1
     ·rcases g2 with⟨k1,k2,rfl|rfl⟩|⟨id,k1,k2,rfl⟩
      ·exact .inl ⟨k1,k2,.inr rfl⟩
      ·exact .inl ⟨k1,k2,.inr rfl⟩
      ·exact .inr ⟨id,k1,k2,rfl⟩
   |_=>cases h
  |_=>cases h
 |[],_::_,_,d,i0,rest,h,_=>by cases h
 |(s,o)::_,[],_,d,i0,rest,h,_=>by cases s<;>cases h
 |_,[],_::_,d,i0,rest,h,hr=>hr.elim
 |_,_::_,[],d,i0,rest,h,hr=>hr.elim
end
end Go.TV
namespace Go.TV
open Go.AI Go.PI
section
variable{P:Program}{U:iG}{T:TP U.D}{c c0:Cx}{β:Type}{r:β}{q p:PSt}{M:TM U.D}
theorem aGx{x:Nat×Bool}: ∀{rs:Rts},leR.memW x rs=true→∃s,(x.1,s)∈rs∧(x.2=true→s=true)
 |y::ys,h=>by
  simp only[leR.memW,Bool.or_eq_true,bjE,cG,djE,Bool.not_eq_true']at h;rcases h with⟨h1,h2⟩|h
  ·refine⟨y.2,by rw[h1];exact mhE ..,fun e=>?_⟩
   rcases h2 with h2|h2
   ·rw[e]at h2;cases h2
   ·exact h2
  ·obtain⟨s,h1,h2⟩:=aGx h;exact⟨s,mtE _ h1,h2⟩
theorem aGw: ∀{rs rs':Rts},leR rs rs'=true→∀o s,(o,s)∈rs→∃s',(o,s')∈rs'∧(s=true→s'=true)
 |x::rs,rs',h,o,s,hm=>by
  simp only[leR,bjE]at h;rcases List.mem_cons.1 hm with rfl|hm
  ·exact aGx h.1
  ·exact aGw h.2 o s hm
theorem aB0{rs rs':Rts}{cs:List (PV×Bool)}(h:leR rs rs'=true)(hb:rtB rs' cs):rtB rs cs:=fun o s hm=>by
 obtain⟨s',h1,h2⟩:=aGw h o s hm;obtain⟨x,h3,h4⟩:=hb o s' h1;exact⟨x,h3,fun e=>h4 (h2 e)⟩
theorem rtR_le{rs rs':Rts}{pv:PV}{ow:Bool}(h:leR rs rs'=true)(hb:rtR rs' pv ow):rtR rs pv ow:=fun o s hm=>by
 obtain⟨s',h1,h2⟩:=aGw h o s hm;rcases hb o s' h1 with h3|⟨h3,h4,h5,h6⟩
 ·exact .inl h3
 ·exact .inr ⟨h3,h4,h5,fun e=>h6 (h2 e)⟩
theorem pK{bk:List Nat}(Mm:MR U q c0 c M p): ∀{l:List (Sh×Rts)} {j:Nat} {e:List (V U)} (rest:List (V U)),wK U bk M l j=some e→j+l.length≤bk.length→
    ∃M0,unB U (cutOf.bxL l j) (e++rest)=some (M0,rest)∧(∀i b,bF M0 i=some b→∃ce,kU c bk i=some ce∧bcR U (kU c bk) p ce b)∧(∀i,i<l.length→bF M.bx (jR bk (j+i))≠none)
 |[],j,e,rest,h,_=>by
  simp only[wK,ojE]at h;subst h;exact⟨[],rfl,fun i b h=>(by cases h),fun i h=>(by simp at h)⟩
 |(s,rr)::l,j,e,rest,h,hj=>by
  simp only[lcS]at hj;unfold wK at h;split at h
  ·rename_i cont rs d hf hd;cases hb:leR rr rs with
   |false=>rw[hb]at h;cases h
   |true=>
    rw[hb]at h;simp only[cdt]at h;obtain⟨M0,g1,g2,g3⟩:=pK Mm rest hd (by omega)
    obtain⟨ce,hce,id,cs,hid,hget,hcs,hrt⟩:=Mm.bx _ _ hf;have hcc:kU c bk j=some ce:=by unfold kU;rw[if_pos (by omega)];exact hce
    have hne: ∀i,i<((s,rr)::l).length→bF M.bx (jR bk (j+i))≠none:=by
     intro i hi;cases i with
     |zero=>rw[Nat.add_zero,hf];exact fun e=>by cases e
     |succ i=>have:=g3 i (by simpa using hi);rwa [show j+(i+1)=j+1+i by omega]
    split at h
    ·rename_i t v;cases hv:v.t.beq t with
     |false=>rw[hv]at h;cases h
     |true=>
      rw[hv]at h;simp only[cdt,ojE]at h;subst h;refine⟨(j,.bx (.val v) rr)::M0,?_,?_,hne⟩
      ·simp only[cutOf.bxL,cnA,unB,unV,hv,cdt,g1]
      ·intro i b hb';rw[cO]at hb';by_cases e1:i=j
       ·rw[if_pos e1]at hb';simp only[ojE]at hb';subst hb';subst e1;exact⟨ce,hcc,id,cs,hid,hget,hcs,aB0 hb hrt⟩
       ·rw[if_neg e1]at hb';exact g2 i b hb'
    ·rename_i f caps f' caps';cases hv:Nat.beq f f'&&qK caps bk.length&&zX (mapN (jR bk) caps) caps' with
     |false=>rw[hv]at h;cases h
     |true=>
      rw[hv]at h;simp only[cdt,ojE]at h;subst h;simp only[bjE,cG,djE]at hv;obtain⟨⟨rfl,h2⟩,h3⟩:=hv;obtain⟨pv,bb,e1,ps,e2,e3⟩:=hcs;refine⟨(j,.bx (.cl f caps) rr)::M0,?_,?_,hne⟩
      ·simp only[cutOf.bxL,unB,unV,g1]
      ·intro i b hb';rw[cO]at hb';by_cases e4:i=j
       ·rw[if_pos e4]at hb';simp only[ojE]at hb';subst hb';subst e4;exact⟨ce,hcc,id,cs,hid,hget,⟨pv,bb,e1,ps,e2,(aBp h2).1 (by rw[mY h3];exact e3)⟩,aB0 hb hrt⟩
       ·rw[if_neg e4]at hb';exact g2 i b hb'
    ·cases h
  ·rename_i et x d hf hd;obtain⟨M0,g1,g2,g3⟩:=pK Mm rest hd (by omega)
   obtain⟨ce,hce,hrow⟩:=Mm.bx _ _ hf;have hcc:kU c bk j=some ce:=by unfold kU;rw[if_pos (by omega)];exact hce
   split at h
   ·rename_i t;cases hv:et.beq t with
    |false=>rw[hv]at h;cases h
    |true=>
     rw[hv]at h;simp only[cdt,ojE]at h;subst h;have:=Ty.beq_eq hv;subst this;refine⟨(j,.row et x)::M0,?_,?_,?_⟩
     ·simp only[cutOf.bxL,cnA,unB,hv,cdt,g1]
     ·intro i b hb';rw[cO]at hb';by_cases e1:i=j
      ·rw[if_pos e1]at hb';simp only[ojE]at hb';subst hb';subst e1;exact⟨ce,hcc,hrow⟩
      ·rw[if_neg e1]at hb';exact g2 i b hb'
     ·intro i hi;cases i with
      |zero=>rw[Nat.add_zero,hf];exact fun e=>by cases e
      |succ i=>have:=g3 i (by simpa using hi);rwa [show j+(i+1)=j+1+i by omega]
   ·cases h
  ·cases h
theorem aS: ∀{ts:List Ty} {l:List (V U)} {r:DenL U.D ts},dE ts l=some r→tvL ts r=l
 |[],[],r,h=>rfl
 |t::ts,v::vs,r,h=>by
  unfold dE at h;split at h
  ·rename_i x r' h1 h2;simp only[ojE]at h;subst h;rw[tvL,aS h2];have:=jF h1;simp only;rw[←this]
  ·cases h
 |[],_::_,r,h=>by cases h
 |_::_,[],r,h=>by cases h
theorem obL_some{ts:List Ty}{a:Option (List (V U))}{K:DenL U.D ts→Option β}(h:obL ts a K=some r): ∃l x,a=some l∧tvL ts x=l∧K x=some r:=by
 unfold obL at h;split at h
 ·rename_i l;split at h
  ·rename_i x hx;exact⟨l,x,rfl,aS hx,h⟩
  ·cases h
 ·cases h
theorem lH: ∀{l:List (Sh×Rts)} {rs:List Rts} {d:List (V U)} {m:List (BC U.D)},eT U l rs d=some m→m.length=l.length
 |[],[],[],m,h=>by simp only[eT,ojE]at h;subst h;rfl
 |(.val t,rr)::l,r::rs,v::d,m,h=>by
  simp only[eT]at h;split at h
  ·rename_i m' hm;cases h;simp only[lcS,lH hm]
  ·cases h
 |(.cl f caps,rr)::l,r::rs,d,m,h=>by
  simp only[eT]at h;split at h
  ·rename_i m' hm;cases h;simp only[lcS,lH hm]
  ·cases h
 |[],_::_,_,_,h=>by simp[eT]at h
 |[],[],_::_,_,h=>by simp[eT]at h
 |(s,rr)::l,[],d,m,h=>by cases s<;>simp[eT]at h
 |(.val t,rr)::l,r::rs,[],m,h=>by simp[eT]at h
 |(.tup _,_)::_,_::_,_,_,h=>by simp[eT]at h
 |(.nl,_)::_,_::_,_,_,h=>by simp[eT]at h
 |(.lc _ _ _,_)::_,_::_,_,_,h=>by simp[eT]at h
 |(.ep _,_)::_,_::_,_,_,h=>by simp[eT]at h
 |(.rw _,_)::_,_::_,_,_,h=>by simp[eT]at h
 |(.nf,_)::_,_::_,_,_,h=>by simp[eT]at h
 |(.row t,rr)::l,r::rs,⟨.sl e,x⟩::d,m,h=>by
  simp only[eT]at h;split at h
  ·rename_i m' hm;cases h;simp only[lcS,lH hm]
  ·cases h
 |(.row t,rr)::l,r::rs,[],m,h=>by simp[eT]at h
 |(.row t,rr)::l,r::rs,⟨.int _,x⟩::d,m,h=>by simp[eT]at h
 |(.row t,rr)::l,r::rs,⟨.bool,x⟩::d,m,h=>by simp[eT]at h
 |(.row t,rr)::l,r::rs,⟨.str,x⟩::d,m,h=>by simp[eT]at h
 |(.row t,rr)::l,r::rs,⟨.rc _,x⟩::d,m,h=>by simp[eT]at h
theorem sB{bk:List Nat}(hn:bk.Nodup): ∀(m:List (BC U.D)) (j0:Nat) (B:List (Nat×BC U.D)),(∀j,j<m.length→bF B (jR bk (j0+j))≠none)→j0+m.length≤bk.length→∀k,
    (∃j x,m[j]?=some x∧jR bk (j0+j)=k∧bF (putB U bk m j0 B) k=some (renB U bk x))∨((∀j,j<m.length→jR bk (j0+j)≠k)∧bF (putB U bk m j0 B) k=bF B k)
 |[],j0,B,_,_,k=> .inr ⟨fun j h=>by simp at h,rfl⟩
 |x::m,j0,B,hB,hl,k=>by
  simp only[lcS]at hl;have h0:bF B (jR bk j0)≠none:=by have:=hB 0 (by simp);rwa [Nat.add_zero]at this
  have hB': ∀j,j<m.length→bF (rK B (jR bk j0) (renB U bk x)) (jR bk (j0+1+j))≠none:=by
   intro j hj;have:=hB (j+1) (by simpa using hj)
   rw[show j0+(j+1)=j0+1+j by omega]at this
   rw[eG];split
   ·cases hh:bF B (jR bk j0)with
    |none=>exact(h0 hh).elim
    |some b=>exact fun e=>by cases e
   ·exact this
  rcases sB hn m (j0+1) (rK B (jR bk j0) (renB U bk x)) hB' (by omega) k with⟨j,y,h1,h2,h3⟩|⟨h1,h2⟩
  ·exact .inl ⟨j+1,y,by rw[gcS];exact h1,by rw[←h2];congr 1;omega,h3⟩
  ·by_cases hk:jR bk j0=k
   ·refine .inl ⟨0,x,rfl,by rw[Nat.add_zero];exact hk,?_⟩
    rw[putB,h2,eG,if_pos hk.symm];cases hh:bF B (jR bk j0)with
    |none=>exact(h0 hh).elim
    |some b=>rfl
   ·refine .inr ⟨fun j hj=>?_,?_⟩
    ·cases j with
     |zero=>rw[Nat.add_zero];exact hk
     |succ j=>have:=h1 j (by simpa using hj);rwa [show j0+(j+1)=j0+1+j by omega]
    ·rw[putB,h2,eG,if_neg (fun e=>hk e.symm)]
theorem bcR_cc{bk:List Nat}{e:Ce}{x:BC U.D}(h:bcR U (kU c bk) p e x):bcR U c p e (renB U bk x):=by
 cases x with
 |bx s r=>
  obtain⟨id,cs,h1,h2,h3,h4⟩:=h;exact⟨id,cs,h1,h2,aHM h3,h4⟩
 |row t l=>exact h
 |gone=>trivial
theorem MR.call(Mm:MR U q c0 c M p){bk:List Nat}(hn:bk.Nodup){m:List (BC U.D)}(hm:m.length=bk.length)(hne: ∀i,i<bk.length→bF M.bx (jR bk i)≠none){p':PSt}
    (hb: ∀j x,m[j]?=some x→∃e,kU c bk j=some e∧bcR U (kU c bk) p' e x) (hnx:p'.next=p.next)
    (hg: ∀id,id<p.next→(∀j e,kU c bk j=some e→e.id≠some id)→p'.get id=p.get id)
    (hg2: ∀id,id<p.next→id∉p'.dirty→p'.get id=p.get id)
    (hd: ∀id,id∈p'.dirty→id∈p.dirty∨∃j e,kU c bk j=some e∧e.id=some id) (hd2: ∀id,id∈p.dirty→id∈p'.dirty)
    (hw: ∀id,id∈p'.wr→id∈p.wr∨∃j e,kU c bk j=some e∧e.id=some id):
    MR U q c0 c ⟨putB U bk m 0 M.bx,bk++M.wr⟩ p'∧(WR U c M p→WR U c ⟨putB U bk m 0 M.bx,bk++M.wr⟩ p'):=by
 have hput:=sB hn m 0 M.bx (fun j hj=>by rw[Nat.zero_add];exact hne j (by omega)) (by omega)
 simp only[Nat.zero_add]at hput;have cck: ∀{j e},kU c bk j=some e→j<bk.length∧c (jR bk j)=some e:=by
  intro j e h;unfold kU at h;split at h
  ·rename_i hj;exact⟨hj,h⟩
  ·cases h
 have bor: ∀{j e id},kU c bk j=some e→e.id=some id→id<q.next→∃k e,c0 k=some e∧e.id=some id:=by
  intro j e id h1 h2 h3;obtain⟨_,h4⟩:=cck h1;have hk:jR bk j<100:=by
   rcases Nat.lt_or_ge (jR bk j) 100 with h|h
   ·exact h
   ·have:=Mm.loc _ e id h4 h h2;omega
  exact⟨_,e,Mm.bor _ e h4 hk,h2⟩
 refine⟨⟨fun k h=>?_,fun k b h=>?_,fun k e id h1 h2=>by rw[hnx];exact Mm.lt k e id h1 h2,Mm.inj,by rw[hnx];exact Mm.next,Mm.bor,Mm.loc,fun id hi ho=>?_,fun id hi hlt=>?_,fun id hi=>?_⟩,fun hW id hi k e h1 h2=>?_⟩
 ·simp only at h;rcases hput k with⟨j,x,h1,h2,h3⟩|⟨h1,h2⟩
  ·rw[h3]at h;cases h
  ·rw[h2]at h;exact Mm.dom k h
 ·simp only at h;rcases hput k with⟨j,x,h1,h2,h3⟩|⟨h1,h2⟩
  ·rw[h3]at h;cases h;obtain⟨e,g1,g2⟩:=hb j x h1;obtain⟨_,g3⟩:=cck g1;exact⟨e,by rw[←h2];exact g3,bcR_cc g2⟩
  ·rw[h2]at h;obtain⟨e,g1,g2⟩:=Mm.bx k b h;refine⟨e,g1,nL g2 fun id hid=>hg id (Mm.lt k e id g1 hid) fun j e' h3 h4=>?_⟩
   obtain⟨g3,g4⟩:=cck h3;exact h1 j (by omega) (Mm.inj _ _ e' e id g4 g1 h4 hid)
 ·rw[hg2 id (Nat.lt_of_lt_of_le hi Mm.next) ho]
  exact Mm.old id hi fun h=>ho (hd2 id h)
 ·rcases hd id hi with h|⟨j,e,h1,h2⟩
  ·exact Mm.dirty id h hlt
  ·exact bor h1 h2 hlt
 ·rcases hw id hi with h|⟨j,e,h1,h2⟩
  ·rw[hnx];exact Mm.wr id h
  ·rw[hnx];exact⟨Mm.lt _ e id (cck h1).2 h2,fun hlt=>bor h1 h2 hlt⟩
 ·have happ: ∀{l l':List Nat},bM k (l++l')=(bM k l||bM k l'):=by
   intro l l';rw[Bool.eq_iff_iff,Bool.or_eq_true,eJ,eJ,eJ,List.mem_append]
  show bM k (bk++M.wr)=true;rw[happ,Bool.or_eq_true];rcases hw id hi with h|⟨j,e',h3,h4⟩
  ·exact .inr (hW id h k e h1 h2)
  ·obtain⟨h5,h6⟩:=cck h3;have:=Mm.inj _ _ e e' id h1 h6 h2 h4;left;rw[eJ,this];exact List.mem_of_getElem? (oR bk j h5)
theorem slR_cc{bk:List Nat}{own:Bool}{l:List (V U)}{y:PV×Bool}(h:slR U (kU c bk) (resV U own l) y):slR U c (resV U own l) y:=by
 unfold resV at h⊢;split at h<;>exact h
theorem callK_ok(hU:eR U){tc:qQ U.D}{pc:gD}(hc:eS U T tc pc){take:Bool}{inst:Nat}{bk:List Nat}{S:TS U.D}{S':PS}(F:frR U c S S'){cl:Call}{f:Operand}{K:X U→TS U.D→TM U.D→Option β}
    (hcl:cl.callee= .value f) (h:callK U T tc take inst bk S M (evT U S f).1 cl.args.toList K=some r) (Mm:MR U q c0 c M p):
    ∃x S2 M' v own p' g args,K x S2 M'=some r∧kF take S' cl=some (g,args)∧pc g args p=some (v,own,p')∧slR U c x (v,own)∧frR U c S2 (iH take S' cl.args.toList).2∧MR U q c0 c M' p'∧(WR U c M p→WR U c M' p')∧p'.next=p.next:=by
 have rf:=(aX F f).1;unfold callK at h;split at h
 ·rename_i g caps s hf hs;rw[hf]at rf;obtain⟨ps,e1,e2⟩:=rf;have e1:pev S' f= .fn g [] ps:=e1;split at h
  ·rename_i d e hd he;cases hb:Nat.beq g s.f&&aGq bk&&Nat.beq bk.length s.bx.length with
   |false=>rw[hb]at h;cases h
   |true=>
    rw[hb]at h;simp only[cdt]at h;simp only[bjE,cG,djE]at hb;obtain⟨⟨hg,hnd⟩,hlen⟩:=hb;have hnd:=pI hnd;obtain⟨out,x,h1,h2,h⟩:=obL_some h;split at h
    ·rename_i m hm;obtain⟨g1,g2⟩:=aCs (take:=take) (args:=cl.args.toList) F;have g3:=qH g2 (aHN (take:=take) e2);obtain⟨k1,S0,k2,k3⟩:=wM hU 0 e hd g3;obtain⟨M0,k4,k5,k6⟩:=pK Mm [] he (by omega)
     rw[apN]at k4;have hin:aDM U s (d++e) p (kU c bk) ((iH take S' cl.args.toList).1++mS ps) S0 ⟨M0,[]⟩:=by
      refine⟨?_,k1,fun i y hy=>?_,k5,fun j hj=>?_,fun j e id h1 h2=>?_,fun k k' e e' id h1 h2 h3 h4=>?_,fun id hi=>(Mm.wr id hi).1⟩
      ·simp only[unT',cutOf,k2,k4]
      ·have:=k3 i y hy;rwa [Nat.zero_add]at this
      ·unfold kU;rw[if_neg (by omega)]
      ·unfold kU at h1;split at h1
       ·exact Mm.lt _ e id h1 h2
       ·cases h1
      ·unfold kU at h1 h2;split at h1
       ·rename_i hk;split at h2
        ·rename_i hk';exact nth_inj hnd hk hk' (Mm.inj _ _ e e' id h1 h2 h3 h4)
        ·cases h2
       ·cases h1
     obtain⟨pv,own,p',j1,j2⟩:=hc inst s _ out hs h1 p (kU c bk) _ S0 _ hin;rw[h2]at hm h;obtain⟨m',j3,j4⟩:=j2.out;rw[hm]at j3;cases j3;obtain⟨j5,j6⟩:=Mm.call hnd (m:=m) (by rw[lH hm,hlen]) (fun i hi=>by have:=k6 i (by omega);rwa [Nat.zero_add]at this) j4 j2.next j2.get j2.get2 j2.dirty j2.dirty2 j2.wr
     refine⟨_,_,_,pv,own,p',s.f,_,h,?_,j1,slR_cc j2.res,g1,j5,j6,j2.next⟩
     simp only[kF,hcl,e1,hg,mS,nlA]
    ·cases h
  ·cases h
 ·cases h
end
end Go.TV
namespace Go.TV
open Go.AI Go.PI
section
variable{P:Program}{U:iG}{T:TP U.D}{c c0:Cx}{β:Type}{r:β}{q p:PSt}{M:TM U.D}
def Post(P:Program)(U:iG)(pc:gD)(sq take:Bool)(o:Oper)(S':PS)(p q:PSt)(c0 c:Cx)(M:TM U.D)(K:X U→TS U.D→TM U.D→Option β)(r:β):Prop:=
 ∃c' x S2 M2 v own S2' p',K x S2 M2=some r∧pop P pc sq o take S' p=some (v,own,S2',p')∧leC c c'∧slR U c' x (v,own)∧frR U c' S2 S2'∧MR U q c0 c' M2 p'∧(WR U c M p→WR U c' M2 p')∧p.next≤p'.next
theorem aD9{take:Bool}{p p':PSt}{t:TypeId}{a v:PV}{own:Bool}(h:oZ P take p t a=some (v,own,p')):p.next≤p'.next:=by
 have hm:(dM p a).1.next=p.next:=by
  unfold dM;split
  ·split
   ·split<;>rfl
   ·rfl
  ·rfl
 unfold oZ at h;split at h
 ·rename_i w _;cases hb:take&&aE5 w with
  |true=>rw[hb]at h;simp only[cdt,ojE,pjE]at h;rw[←h.2.2,hm];exact nlR _
  |false=>rw[hb]at h;simp only[cdf,ojE,pjE]at h;rw[←h.2.2];exact nlR _
 ·cases h
theorem aAh{p p':PSt}{t:TypeId}{a x:PV}{own:Bool}(h:iV P p t a x own=some p'):p.next≤p'.next:=by
 unfold iV at h;simp only[Bool.cond_eq_ite]at h
 repeat' split at h
 all_goals first|(cases h;done)|(simp only[ojE]at h;rw[←h];exact nlR _)
theorem kG{p p':PSt}{S':PS}{o:Oper}{v:PV}{own:Bool}(h:cA P p S' o=some (v,own,p')):p.next≤p'.next:=by
 unfold cA at h;simp only[Bool.cond_eq_ite]at h
 repeat' split at h
 all_goals first|(cases h;done)|(simp only[ojE,pjE]at h;rw[←h.2.2];first|exact nlR _|exact Nat.le_succ _)
theorem aDi{K:Nat→Option β}{m:Int}: ∀{f j0:Nat},arI K m j0 f=some r→∃j,j0≤j∧j<j0+f∧m=(j:Int)∧K j=some r
 |0,_,h=>by cases h
 |f+1,j0,h=>by
  unfold arI at h;by_cases e:m=(j0:Int)
  ·rw[decide_eq_true e]at h;exact⟨j0,nlR _,by omega,e,h⟩
  ·rw[decide_eq_false e]at h;obtain⟨j,h1,h2,h3,h4⟩:=aDi h;exact⟨j,by omega,by omega,h3,h4⟩
theorem vI(te:Ty): ∀j:Nat,cI U (List.replicate j te)=j*szT U te
 |0=>by simp[cI]
 |j+1=>by
  rw[List.replicate_succ,Nat.succ_mul];simp only[cI];rw[vI te j];omega
theorem lenK_ok(hT:sS P U T)(Mm:MR U q c0 c M p){t:TypeId}{x:SV U.D}{v:PV}{K:X U→Option β}(h:lenK U M (T.T.ty t) x K=some r)(ra:svR U c x v):
    ∃y w,K y=some r∧aE4 P t v=some w∧slR U c y (w,false):=by
 unfold lenK at h;split at h
 ·rename_i k;split at h
  ·rename_i e e' l ht hf;cases he:e.beq e' with
   |false=>rw[he]at h;cases h
   |true=>
    rw[he]at h;have:=Ty.beq_eq he;subst this;obtain⟨ce,g1,g2⟩:=ra;obtain⟨ce',g1',hn,hz,_⟩:=Mm.bx _ _ hf;rw[g1]at g1';cases g1';obtain⟨eid,hu,_⟩:=hT.un t _ ht;refine⟨_,i64 (l.length:Int),h,?_,dR _ _,aG _ _⟩;rcases g2 with⟨_,hn0,rfl|rfl⟩|⟨id,_,_,rfl⟩
    ·simp only[aE4,hu,lnN];rw[←hn,hn0]
    ·simp only[aE4,hu];rw[←hn,hn0];rfl
    ·simp only[aE4,hu];rw[hn]
  ·cases h
 ·exact lenT_ok hT h ra
variable{pc:gD}{sq take:Bool}{o:Oper}{S:TS U.D}{S':PS}{K:X U→TS U.D→TM U.D→Option β}
theorem vW(Mm:MR U q c0 c M p)(hk:aW o= .pure){x:X U}{S2:TS U.D}{v:PV}{own:Bool}{S2':PS}(h:K x S2 M=some r)(hp:bP P take S' o=some (v,own,S2'))(hx:slR U c x (v,own))(hF:frR U c S2 S2'):Post P U pc sq take o S' p q c0 c M K r:=
 ⟨c,x,S2,M,v,own,S2',p,h,by simp only[pop,hk,vV,hp,omS],leC.refl c,hx,hF,Mm,fun hw=>hw,nlR _⟩
theorem dF(Mm:MR U q c0 c M p)(F:frR U c S S')(hk:aW o= .pure){x:X U}{v:PV}(h:K x S M=some r)(hp:bP P take S' o=some (v,false,S'))(hx:slR U c x (v,false)):Post P U pc sq take o S' p q c0 c M K r:=
 vW Mm hk h hp hx F
theorem aC9(F:frR U c S S'): ∀{l:List Operand} {ks:List Nat},aHO U S l=some ks→zY c ks (wks (l.map (pev S')))
 |[],ks,h=>by simp only[aHO,ojE]at h;subst h;trivial
 |x::l,ks,h=>by
  unfold aHO at h;split at h
  ·rename_i k ks' hx hl;simp only[ojE]at h;subst h;have h1:=(aX F x).1;rw[hx]at h1;obtain⟨e,id,g1,g2,g3⟩:=h1;have g3:pev S' x= .ptr id 0:=g3;refine⟨⟨e,id,g1,g2,by rw[g3];rfl⟩,aC9 F hl⟩
  ·cases h
variable(hU:eR U)(hT:sS P U T)
include hU hT
theorem opT_ok{tc:qQ U.D}(hc:eS U T tc pc)(F:frR U c S S')(Mm:MR U q c0 c M p){inst:Nat}{bk:List Nat}(h:opT U T tc sq take inst bk o S M K=some r):Post P U pc sq take o S' p q c0 c M K r:=by
 obtain⟨dst,op,ty,pos,aft,gd'⟩:=o;have mv: ∀(x:Operand),(bif take then K (evT U S x) (qX U S x) M else K (oE U (evT U S x)) S M)=some r→(op= .move x∨op= .assign x)→Post P U pc sq take ⟨dst,op,ty,pos,aft,gd'⟩ S' p q c0 c M K r:=by
  intro x h ho;cases take with
  |true=>
   refine vW Mm ?_ h (v:=pev S' x) (own:=iX S' x) (S2':=oT S' x) ?_ (aX F x) (lS F x)
   ·rcases ho with rfl|rfl<;>rfl
   ·rcases ho with rfl|rfl<;>rfl
  |false=>
   refine dF Mm F ?_ h (v:=pev S' x) ?_ (lN (aX F x))
   ·rcases ho with rfl|rfl<;>rfl
   ·rcases ho with rfl|rfl<;>rfl
 cases op with
 |move x=>exact mv x h (.inl rfl)
 |assign x=>exact mv x h (.inr rfl)
 |pick w a b=>
  simp only[opT]at h;split at h
  ·rename_i wb hw;have h1:=(aX F w).1;rw[hw]at h1;have h1:=of_bool h1;have h1:pev S' w= .v (.bool wb):=h1;obtain⟨x,h2,h3⟩:=pickT_ok h (aX F a) (aX F b);refine dF Mm F rfl h2 ?_ h3;simp only[bP,h1];cases wb<;>rfl
  ·cases h
 |build t parts=>
  simp only[opT]at h;split at h
  ·rename_i n ht;split at h
   ·rename_i l hl;obtain⟨x,hx,h⟩:=gW h;obtain⟨w,h1,h2⟩:=build_ok hU hT F ht hl hx;exact dF Mm F rfl h (by simp only[bP,h1,omS]) h2
   ·cases h
  ·cases h
 |nilCheck x=>
  simp only[opT]at h;have h1:=(aX F x).1;split at h
  ·rename_i k off path hx;rw[hx]at h1;have h2:=h1;obtain⟨e,id,g1,g2,g3⟩:=h1;have g3:pev S' x= .ptr id off:=g3;exact dF Mm F rfl h (v:= .ptr id off) (by simp only[bP,g3]) ⟨⟨e,id,g1,g2,rfl⟩,aG _ _⟩
  ·rename_i v hx;rw[hx]at h1;obtain⟨es,i,off,e,g1,g2,g3⟩:=h1;have g1:pev S' x= .pin es i off:=g1;exact dF Mm F rfl h (v:= .pin es i off) (by simp only[bP,g1]) ⟨⟨es,i,off,e,rfl,g2,g3⟩,aG _ _⟩
  ·rename_i k i off path hx;rw[hx]at h1;obtain⟨e,id,g1,g2,g3,g4,g5⟩:=h1;have g5:pev S' x= .ptr id (i.toNat*e.z+off):=g5;exact dF Mm F rfl h (v:= .ptr id (i.toNat*e.z+off)) (by simp only[bP,g5]) ⟨⟨e,id,g1,g2,g3,g4,rfl⟩,aG _ _⟩
  ·cases h
 |binOp op t x y t'=>
  simp only[opT]at h;obtain⟨v,w,h1,h2,h3⟩:=binT_ok hU hT (x:=x) (y:=y) h (zrV_ok hU (aX F x).1) (zrV_ok hU (aX F y).1);have h2:oD P op t x y (pev S' x) (pev S' y)=some w:=h2;exact dF Mm F rfl h1 (by simp only[bP,h2,omS]) ⟨h3,aG _ _⟩
 |unOp op t x=>
  simp only[opT]at h;obtain⟨v,w,h1,h2,h3⟩:=unT_ok (P:=P) h (aX F x).1;have h2:pun P op (pev S' x)=some w:=h2;exact dF Mm F rfl h1 (by simp only[bP,h2,omS]) ⟨h3,aG _ _⟩
 |convert s d x=>
  simp only[opT]at h;obtain⟨v,w,h1,h2,h3⟩:=convT_ok hT h (aX F x).1;rcases h3 with h3|⟨hs,h3,h4⟩
  ·have h3:qV P s d (pev S' x)=some w:=h3;exact dF Mm F rfl h1 (by simp only[bP,h3,omS]) ⟨h2,aG _ _⟩
  ·have h3:qV P s d (pev S' x)=none:=h3;have h4:rW P s d (pev S' x)=some w:=h4;refine⟨c,_,S,M,w,false,S',p,h1,?_,leC.refl c,⟨h2,aG _ _⟩,F,Mm,fun hw=>hw,nlR _⟩
   rw[hs];simp only[pop,aW,vV,bP,h3,Option.map_none,cdt,h4,omS]
 |makeFunc fn first captured=>
  simp only[opT]at h;split at h
  ·rename_i f ks h1 h2;refine dF Mm F rfl h (v:= .fn f (wks (first.toList.map (pev S'))) (wks (captured.toList.map (pev S')))) rfl ⟨⟨_,?_,aC9 F h2⟩,aG _ _⟩
   rw[h1];rfl
  ·cases h
 |fieldAddr s x f=>
  simp only[opT]at h;have h1:=(aX F x).1;split at h
  ·rename_i n k off path ht hx;rw[hx]at h1;obtain⟨e,id,g1,g2,g3⟩:=h1;have g3:pev S' x= .ptr id off:=g3;cases hf:Nat.blt f (U.fs n).length with
   |false=>rw[hf]at h;cases h
   |true=>
    rw[hf]at h;rw[gL,djE]at hf;have:=(hP hU hT ht hf).1 id off;exact dF Mm F rfl h (by simp only[bP,g3,this,omS]) ⟨⟨e,id,g1,g2,rfl⟩,aG _ _⟩
  ·rename_i n v ht hx;rw[hx]at h1;cases hb:v.t.beq (.rc n)with
   |false=>rw[hb]at h;cases h
   |true=>
    rw[hb]at h;simp only[cdt]at h;split at h
    ·rename_i w hw;obtain⟨q1,h2,h3⟩:=xI hU hT ht hb hw h1;have h2:dC P s (pev S' x) f=some q1:=h2;exact dF Mm F rfl h (by simp only[bP,h2,omS]) ⟨h3,aG _ _⟩
    ·cases h
  ·rename_i n k i off path ht hx;rw[hx]at h1;obtain⟨e,id,g1,g2,g3,g4,g5⟩:=h1;have g5:pev S' x= .ptr id (i.toNat*e.z+off):=g5;cases hf:Nat.blt f (U.fs n).length with
   |false=>rw[hf]at h;cases h
   |true=>
    rw[hf]at h;rw[gL,djE]at hf;have:=(hP hU hT ht hf).1 id (i.toNat*e.z+off);exact dF Mm F rfl h (v:= .ptr id (i.toNat*e.z+off+mR U n f)) (by simp only[bP,g5,this,omS]) ⟨⟨e,id,g1,g2,g3,g4,by simp only[Nat.add_assoc]⟩,aG _ _⟩
  ·cases h
 |field t x f=>
  simp only[opT]at h;have h1:=aX F x;split at h
  ·rename_i n v rs ht hx;rw[hx]at h1;cases hb:v.t.beq (.rc n)with
   |false=>rw[hb]at h;cases h
   |true=>
    rw[hb]at h;simp only[cdt]at h;split at h
    ·rename_i w hw;obtain⟨q1,h2,h3⟩:=field_ok hU hT ht hb hw h1;exact dF Mm F rfl h (by simp only[bP,h2,omS]) h3
    ·cases h
  ·cases h
 |indexAddr t x i=>
  simp only[opT]at h;have h1:=(aX F x).1;have h2:=(aX F i).1;split at h
  ·rename_i e e' l k n ht hx hi;rw[hx]at h1;rw[hi]at h2;have h2:pev S' i= .v (.int k n):=eM h2;cases he:e.beq e' with
   |false=>rw[he]at h;cases h
   |true=>
    rw[he]at h;obtain⟨y,hy,h⟩:=gW h;obtain⟨q1,g1,g2⟩:=wR hU hT (k:=k) ht he hy h1;have g1:dP P t (pev S' x) (.v (.int k n))=some q1:=g1;exact dF Mm F rfl h (by simp only[bP,h2,g1,omS]) ⟨g2,aG _ _⟩
  ·rename_i e kk k n ht hx hi;rw[hx]at h1;rw[hi]at h2;have h2:pev S' i= .v (.int k n):=eM h2;split at h
   ·rename_i e' l hf;cases he:e.beq e' with
    |false=>rw[he]at h;cases h
    |true=>
     rw[he]at h;have:=Ty.beq_eq he;subst this;obtain⟨hin,h⟩:=bU h;obtain⟨ce,g1,g2⟩:=h1;obtain⟨ce',g1',hn,hz,_⟩:=Mm.bx _ _ hf;rw[g1]at g1';cases g1';obtain⟨eid,hu,hte,_⟩:=hT.un t _ ht;simp only[bC,bjE,djE]at hin;rcases g2 with⟨_,hn0,_⟩|⟨id,g3,g4,g5⟩
     ·have b1:(0:Int)≤n:=hin.1;have b2:(n:Int)<(l.length:Int):=hin.2;omega
     ·have g5:pev S' x= .rs id 0 ce.n:=g5;have hin':bC n ce.n=true:=by rw[hn];simp only[bC,bjE,djE];exact hin
      refine dF Mm F rfl h (v:= .ptr id (0+Int.toNat n*szT U e)) ?_ ⟨⟨ce,id,g1,g3,hin.1,by rw[hn];exact hin.2,by rw[hz,Nat.zero_add,Nat.add_zero]⟩,aG _ _⟩
      simp only[bP,h2,g5,dP,hu,hT.sz _ _ hte,hin',cdt,omS]
   ·cases h
  ·rename_i n kk off pp k m ht hx hi;rw[hx]at h1;rw[hi]at h2;have h2:pev S' i= .v (.int k m):=eM h2;cases ha:T.T.arr t with
   |false=>rw[ha]at h;cases h
   |true=>
    rw[ha]at h;obtain⟨j,_,hj,hm,h⟩:=aDi h;obtain⟨len,e,te,hu,hz,hf⟩:=hT.arr t n ht ha;obtain⟨ce,id,g1,g2,g3⟩:=h1;have g3:pev S' x= .ptr id off:=g3;rw[hf,List.length_replicate,Nat.zero_add]at hj;have hin:bC m len=true:=by rw[hm];simp only[bC,bjE,djE];omega
    have ho:mR U n j=j*szT U te:=by rw[mR,hf,List.take_replicate,Nat.min_eq_left (by omega)];exact vI _ _
    refine dF Mm F rfl h (v:= .ptr id (off+Int.toNat m*szT U te)) ?_ ⟨⟨ce,id,g1,g2,by rw[ho,hm];rfl⟩,aG _ _⟩
    simp only[bP,h2,g3,dP,hu,hz,hin,cdt,omS]
  ·cases h
 |index t x i=>
  simp only[opT]at h;have h1:=(aX F x).1;have h2:=(aX F i).1;split at h
  ·rename_i s k n ht hx hi;rw[hx]at h1;rw[hi]at h2;have h2:pev S' i= .v (.int k n):=eM h2;obtain⟨b,hb,h⟩:=gW h;have g1:=index_ok hT (k:=k) ht hb h1;have g1:rV P t (pev S' x) (.v (.int k n))=some (.v (.int .u8 (b.toNat:Int))):=g1;exact dF Mm F rfl h (by simp only[bP,h2,g1,omS]) ⟨dR _ _,aG _ _⟩
  ·cases h
 |extract x i=>
  simp only[opT]at h;have h1:=(aX F x).1;split at h
  ·rename_i l hx;rw[hx]at h1;obtain⟨ps,g1,g2⟩:=h1;have g1:pev S' x= .tup ps:=g1;split at h
   ·rename_i v hv;have g3:ps[i]?=some (enV U v.t v.x):=by rw[g2,List.getElem?_map,hv];rfl
    refine dF Mm F rfl h (by simp only[bP,g1,g3,omS]) ⟨⟨en_wk hU _ _,aFe (rB hU _ _)⟩,aG _ _⟩
   ·cases h
  ·cases h
 |load t a=>
  simp only[opT]at h;obtain⟨x,M',v,own,p',h1,h2,h3,h4,h5⟩:=ldT_ok hU hT h (aX F a).1 Mm;refine⟨c,x,S,M',v,own,S',p',h1,?_,leC.refl c,h3,F,h4,h5,aD9 h2⟩;have:iW P p S' ⟨dst,.load t a,ty,pos,aft,gd'⟩ take=some (v,own,p'):=by
   simp only[iW];unfold oZ at h2;exact h2
  simp only[pop,aW,this,omS]
 |slice t x lo hi mx=>
  simp only[opT]at h;obtain⟨y,w,own,h1,h2,h3⟩:=slT_ok hT F (p:=p) h (aX F x).1;have h2:fQ P p t (pev S' x) (lo.map (pev S')) (hi.map (pev S')) (mx.map (pev S'))=some (w,own):=h2;exact⟨c,y,S,M,w,own,S',p,h1,by simp only[pop,aW,iW,h2,omS],leC.refl c,h3,F,Mm,fun hw=>hw,nlR _⟩
 |alloc t=>
  simp only[opT]at h;obtain⟨c',x,M',v,p',h1,h2,h3,h4,h5,h6⟩:=alT_ok hU hT (S':=S') (o:=⟨dst,.alloc t,ty,pos,aft,gd'⟩) rfl h Mm;exact⟨c',x,S,M',v,false,S',p',h1,by simp only[pop,aW,h2,omS],h3,h4,aGJ h3 F,h5,h6,kG h2⟩
 |box t x=>
  simp only[opT]at h;obtain⟨c',x,M',v,p',h1,h2,h3,h4,h5,h6⟩:=bxT_ok hU F (P:=P) (o:=⟨dst,.box t x,ty,pos,aft,gd'⟩) rfl h Mm;exact⟨c',x,S,M',v,false,S',p',h1,by simp only[pop,aW,h2,omS],h3,h4,aGJ h3 F,h5,h6,kG h2⟩
 |buildSlice t len parts=>
  simp only[opT]at h;split at h
  ·rename_i e ht;cases hb:Nat.ble (len*szT U e) 1000000 with
   |false=>rw[hb]at h;cases h
   |true=>
    rw[hb]at h;simp only[cdt]at h;split at h
    ·rename_i l hl;obtain⟨w,h1,h2⟩:=uV hU hT F (p:=p) (o:=⟨dst,.buildSlice t len parts,ty,pos,aft,gd'⟩) rfl ht hb hl;exact⟨c,_,S,M,w,true,S',p,h,by simp only[pop,aW,h1,omS],leC.refl c,h2,F,Mm,fun hw=>hw,nlR _⟩
    ·cases h
  ·cases h
 |makeSlice t l k=>
  simp only[opT]at h;obtain⟨c',x,M',v,own,p',h1,h2,h3,h4,h5,h6⟩:=msT_ok hU hT F (o:=⟨dst,.makeSlice t l k,ty,pos,aft,gd'⟩) rfl h Mm;exact⟨c',x,S,M',v,own,S',p',h1,by simp only[pop,aW,h2,omS],h3,h4,aGJ h3 F,h5,h6,kG h2⟩
 |store t a x=>
  simp only[opT]at h;obtain⟨M',p',h1,h2,h3,h4⟩:=stT_ok hU hT h (aX F a).1 (aX F x) Mm;have h2:iV P p t (pev S' a) (pev S' x) (iX S' x)=some p':=h2;exact⟨c,_,_,M',.und,false,oT S' x,p',h1,by simp only[pop,aW,peff,h2,omS],leC.refl c,⟨trivial,aG _ _⟩,lS F x,h3,h4,aAh h2⟩
 |call cl=>
  simp only[opT]at h;split at h
  ·rename_i hcl;split at h
   ·rename_i t x ht hx;obtain⟨y,w,h1,h2,h3⟩:=lenK_ok hT Mm h (aX F x).1;have h2:aE4 P t (pev S' x)=some w:=h2;exact dF Mm F (by simp only[aW,hcl]) h1 (by simp only[bP,hcl,ht,hx,h2,omS]) h3
   ·cases h
  ·rename_i hcl;split at h
   ·rename_i x y hx;obtain⟨z,w,h1,h2,h3⟩:=mmT_ok (P:=P) (ts:=cl.argTypes) (ty:=ty) h (aX F x).1 (aX F y).1;have h2:gT P false cl.argTypes ty [pev S' x,pev S' y]=some w:=h2;exact dF Mm F (by simp only[aW,hcl]) h1 (by simp only[bP,hcl,hx,mpC,List.map_nil,h2,omS]) h3
   ·cases h
  ·rename_i hcl;split at h
   ·rename_i x y hx;obtain⟨z,w,h1,h2,h3⟩:=mmT_ok (P:=P) (ts:=cl.argTypes) (ty:=ty) h (aX F x).1 (aX F y).1;have h2:gT P true cl.argTypes ty [pev S' x,pev S' y]=some w:=h2;exact dF Mm F (by simp only[aW,hcl]) h1 (by simp only[bP,hcl,hx,mpC,List.map_nil,h2,omS]) h3
   ·cases h
  ·rename_i hcl;split at h
   ·rename_i s x hx;obtain⟨y,v,own,h1,h2,h3⟩:=apT_ok hU hT F h;exact⟨c,y,_,M,v,own,oT S' s,p,h1,by simp only[pop,aW,hcl,peff,hx,h2,omS],leC.refl c,h3,lS F s,Mm,fun hw=>hw,nlR _⟩
   ·cases h
  ·rename_i f hcl;obtain⟨x,S2,M',v,own,p',g,args,h1,h2,h3,h4,h5,h6,h7,h8⟩:=callK_ok hU hc F hcl h Mm;exact⟨c,x,S2,M',v,own,_,p',h1,by simp only[pop,aW,hcl,peff,h2,h3,omS],leC.refl c,h4,h5,h6,h7,by rw[h8];exact nlR _⟩
  ·cases h
 |_=>cases h
end
end Go.TV
