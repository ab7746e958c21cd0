import Derived.Test.YtmebgielemmehaaGreatDoorKah
set_option linter.unusedVariables false
set_option linter.unusedSimpArgs false
set_option linter.constructorNameAsVariable false
set_option linter.defProp false
namespace Go.Proofs.Q
open Go.AI
set_option maxRecDepth 20000
def SP(k:Int):Value:= .int .i64 k
def aI7{x:Int}(h0: -9223372036854775808<=x)(h1:x<9223372036854775808):IntKind.i64.wrap x=x:=by
 have hb:(IntKind.i64.bits:Nat)=64:=rfl;unfold IntKind.wrap;simp[IntKind.bits,IntKind.signed];omega
def a4b(id:Nat)(x:Int):Aj Tryz.prog 35 1 #[(0,.int .i64 x)] id=some (.slice (some ⟨id,0,none⟩) 1 1,.cells [.int .i64 x] (cS 1)):=by kernel_rfl
def bsN(id:Nat):Aj Tryz.prog 33 1 #[(0,.slice none 0 0)] id=some (.slice (some ⟨id,0,none⟩) 1 1,.cells [.slice none 0 0] (cS 1)):=by kernel_rfl
def aLW:CK Tryz.prog 3 SP:=by
 refine⟨λk=>rfl,λb k=>?_,Or.inl ⟨_,Tryz.underlying3,λa b=>?_⟩,λk=>?_⟩
 .have: ∀(b:Bool) (k:Int),bX Tryz.prog (Instr.checkKey b 10000 3 (.int .i64 k))=some ():=λb k=>by kernel_rfl
  exact this b k
 .simp only[SP,Instr.sameNow,bO,aA];by_cases h:a=b<;>simp[h]
 .simp[SP,Instr.sameBits]
def Tz(l:List Nat)(i:Nat)(k:Int):Option Value:=if 0<=k/\k.toNat∈Ic.fst l i then some (.int .i64 (Ic.pos k.toNat (Ic.fst l i):Nat))else none
def R9{S:Slots}{H:St}{l:List Nat}(h:Lb H (S.at 3) l)(hl:l.length<=6)(hJ:Ic.JL l)(hv: ∀g,H.ver g=0):
    pP Tryz.prog (Ic.tailA Ic.cmB) S H λfl S' H'=>(fl= .normal∨fl= .ret)/\∃v,S'.at 2=v/\aEW H' v (Ic.grp l):=by
 obtain⟨a,k,hu,bi⟩:=h.ex;unfold Ic.cmB Tryz.f7;simp only[Option.getD_some,Ic.tailA,Ic.isR,(show Nat.beq 0 23=false from rfl),(show Nat.beq 1 23=false from rfl),(show Nat.beq 23 23=true from rfl),aJ,aI]
 simp only[sJ,CI,CH,Nat.reduceAdd,Nat.reduceMod,Nat.reduceDiv,Nat.reduceSub,Nat.reduceMul,Nat.reduceEqDiff,Nat.reduceBEq,Nat.reduceLeDiff,Int.reduceToNat,fU,nJ,wN,Value.cells,one,eA,aAZ,C6,st35,C4,C5,hu];refine aCw (λm S τ=> ∃i M:Nat,S.at 85= .slice a l.length k/\S.at 86= .int .i64 l.length/\S.at 87= .int .i64 i/\i<=l.length/\m=l.length-i/\S.at 11= .map (some M)/\H.next<=M/\M<τ.next/\
  MP SP τ M (Tz l i)/\Out H.next τ.next τ (S.at 10) (Ic.grpN l i)/\(∀j,j<H.next->τ.get j=H.get j)/\(∀g,τ.next<=g->τ.ver g=0)/\(∀g,g<H.next->τ.ver g=0)/\H.next<=τ.next) l.length ?_ ?_
 .simp only[sJ,CI,CH,Nat.reduceAdd,Nat.reduceMod,Nat.reduceDiv,Nat.reduceSub,Nat.reduceMul,Nat.reduceEqDiff,Nat.reduceBEq,Nat.reduceLeDiff,Int.reduceToNat,fU,nJ,wN,Value.cells,one,eA];refine⟨0,rfl,by omega,rfl,H.next+1,rfl,by omega,by omega,⟨[],by simp only[vW,St.get_put,bO];rfl,λk=>?_⟩,.inl ⟨rfl,rfl⟩,λj hj=>bH (by omega),λg _=>hv g,λg _=>hv g,by omega⟩
  unfold Tz;rw[bH (λh=>by have:=(Ic.mem_fst.1 h.2).1;omega)];rfl
 rintro _ S τ ⟨i,M,s85,s86,s87,hi,rfl,s11,hM,hM2,hmp,hO,hold,hvh,hvl,hnn⟩;by_cases bh:i<l.length
 .have hd:decide ((i:Int)<(l.length:Int))=true:=by simp;omega
  obtain⟨f,hf⟩: ∃f,l[i]?=some f:=⟨_,aV bh⟩;obtain⟨id,off,cs,m,rfl,g1,g2,g3,g4⟩:=bi (λe=>by subst e;simp at bh)
  have hrw:τ.row id=some (cs,m):=by
   unfold St.row;rw[hold id g1,g2];simp only[St.good,g3,aI]
  have bu:=g4 i f hf;have z2:(0:Int)<=(i:Int):=by omega
  have z3:(i:Int)<(l.length:Int):=by omega
  have hw:IntKind.i64.wrap ((i:Int)+1)=((i+1:Nat):Int):=by rw[aI7 (by omega) (by omega)];rfl
  obtain⟨ov,pi⟩: ∃ov,S.at 10=ov:=⟨_,rfl⟩;rw[pi]at hO;have hle:=(hJ i f hf).1;by_cases sj:f<i
  .obtain⟨q1,q2,q3⟩:=Ic.grpN_old hJ hf sj;have hk:Tz l i (f:Int)=some (.int .i64 ((Ic.pos f (Ic.fst l i):Nat):Int)):=by
    unfold Tz;rw[bI ⟨by omega,by simpa using q1⟩];simp
   have hlk:=λ(H':St) (e:H'.get M=τ.get M)=>(VW (P:=Tryz.prog) (t:=89) (k:= .int .i64 (f:Int)) (ok:=true) e).trans (IU aLW Tryz.underlying89 hmp hk true)
   have gb:Ic.pos f (Ic.fst l i)<(Ic.grpN l i).length:=by rw[Ic.grpN_len];exact(Ic.pos_lt q1).1
   generalize hnp:Ic.pos f (Ic.fst l i)=n at*
   let τx:St:=((((((τ.more 1).more 5).more 8).more 2).more 11).put (τ.next+23) (.cells [.int .i64 (i:Int)] (cS 1)))
   have pt: ∀j,j<τ.next->τx.get j=τ.get j:=λj hj=>by show(St.put _ _ _).get j=_;rw[St.get_put,bH (by omega)];rfl
   have hOx:Out H.next (τ.next+24) τx ov (Ic.grpN l i):=hO.mono (by omega) (λj _ _ hj _=>pt j hj) (λg _=>rfl)
   obtain⟨o,k',cs2,m2,s,rfl,o1,o2,o3,o4⟩:=hO.cell q3;obtain⟨o',k'',cs3,m3,s',e1,_,p2,p3,_,y,τ1,τ2,a1,a2,a3,a4⟩:=Out.put1 (P:=Tryz.prog) (t:=35) (b:=8) (x:=i) (id':=τ.next+24) (B':=τ.next+29) hOx (by omega) (by omega) (by omega) (by omega) (λg hg=>hvh g (by omega)) q3 (by have:=Ic.wth_le l i f;omega) (by kernel_rfl)
   cases e1;have hrx:τx.row o=τ.row o:=by simp only[St.row,pt o o1];rfl
   rw[hrx,o2]at p2;cases p2;rw[o3]at p3;cases p3;have zn:(0:Int)<=(n:Int):=by omega
   have zl:(n:Int)<((Ic.grpN l i).length:Int):=by omega
   simp only[sJ,CI,CH,Nat.reduceAdd,Nat.reduceMod,Nat.reduceDiv,Nat.reduceSub,Nat.reduceMul,Nat.reduceEqDiff,Nat.reduceBEq,Nat.reduceLeDiff,Int.reduceToNat,fU,nJ,wN,Value.cells,one,eA,aAZ,C6,st35,C4,C5,s85,s86,s87,s11,pi,hd,aVw z2 z3,hrw,bu,hlk,aCH zn zl,o2,o3,a4b];have hap:fS Tryz.prog τx (τ.next+24) ⟨.builtin .append, #[.tmp 113,.tmp 115], #[35,35]⟩ s (.slice (some ⟨τ.next+23,0,none⟩) 1 1)=some (y,τ1):=by
    refine(MH (u:= .slice 3) Tryz.underlying35 Tryz.underlying35 a3S rfl (n:=1) (xs:=[.int .i64 (i:Int)]) ?_ rfl (by omega) (by omega) rfl o4 (by omega)).trans a1
    have:τx.row (τ.next+23)=some ([.int .i64 (i:Int)],cS 1):=by
     show(St.put _ _ _).row _=_;simp only[vI,bO];rfl
    simp only[kO,this];rfl
   refine BM hap ?_;simp only[sJ,CI,CH,Nat.reduceAdd,Nat.reduceMod,Nat.reduceDiv,Nat.reduceSub,Nat.reduceMul,Nat.reduceEqDiff,Nat.reduceBEq,Nat.reduceLeDiff,Int.reduceToNat,fU,nJ,wN,Value.cells,one,eA,aAZ,C6,st35,C4,C5,s85,s86,s87,s11,pi,aCH zn zl];refine BM (st35.symm.trans a2) ?_;have jf:τ2.next=τ.next+27:=a4.next
   simp only[sJ,CI,CH,Nat.reduceAdd,Nat.reduceMod,Nat.reduceDiv,Nat.reduceSub,Nat.reduceMul,Nat.reduceEqDiff,Nat.reduceBEq,Nat.reduceLeDiff,Int.reduceToNat,fU,nJ,wN,Value.cells,one,eA,aAZ,C6,st35,C4,C5,s85,s86,s87,s11,pi,hw];have hgo:Tz l (i+1)=Tz l i:=by
    have e:Ic.fst l (i+1)=Ic.fst l i:=by rw[Ic.fst_succ,bH (λe=>by rw[hf]at e;cases e;omega)]
    funext k;unfold Tz;rw[e]
   obtain⟨es,h1,h2⟩:=hmp;have hm2:τ2.get M=τ.get M:=by
    rw[h1];exact a4.map M _ (by rw[pt M hM2,h1]) (by omega)
   exact⟨l.length-(i+1),by omega,i+1,rfl,by omega,rfl,M,rfl,hM,by omega,⟨es,hm2.trans h1,by rw[hgo];exact h2⟩,by rw[q2];exact a3.mono (by omega) (λ_ _ _ _ _=>rfl) (λ_ _=>rfl),
    λj hj=>(a4.old j hj).trans ((pt j (by omega)).trans (hold j hj)),λg hg=>(a4.vhi g (by omega)).trans (hvh g (by omega)),λg hg=>(a4.vlo g hg).trans (hvl g hg),by omega⟩
  .obtain rfl:f=i:=by omega
   have hk:Tz l f (f:Int)=none:=by
    unfold Tz;rw[bH (λh=>by have:=(Ic.mem_fst.1 (by simpa using h.2:f∈Ic.fst l f)).1;omega)]
   have hlk:=λ(H':St) (e:H'.get M=τ.get M)=>(VW (P:=Tryz.prog) (t:=89) (k:= .int .i64 (f:Int)) (ok:=true) e).trans (IV aLW Tryz.underlying89 hmp hk (z:= .int .i64 0) (by kernel_rfl) rfl true)
   obtain⟨oa,ok,rfl⟩:=hO.form;simp only[sJ,CI,CH,Nat.reduceAdd,Nat.reduceMod,Nat.reduceDiv,Nat.reduceSub,Nat.reduceMul,Nat.reduceEqDiff,Nat.reduceBEq,Nat.reduceLeDiff,Int.reduceToNat,fU,nJ,wN,Value.cells,one,eA,aAZ,C6,st35,C4,C5,s85,s86,s87,s11,pi,hd,aVw z2 z3,hrw,bu,hlk];refine R5 aLW Tryz.underlying89 hmp ?_ (k:=(f:Int)) rfl λes' hmp'=>?_
   .simp only[vW]
   simp only[sJ,CI,CH,Nat.reduceAdd,Nat.reduceMod,Nat.reduceDiv,Nat.reduceSub,Nat.reduceMul,Nat.reduceEqDiff,Nat.reduceBEq,Nat.reduceLeDiff,Int.reduceToNat,fU,nJ,wN,Value.cells,one,eA,aAZ,C6,st35,C4,C5,s85,s86,s87,s11,pi,bsN];have hlen:(Ic.grpN l f).length<=6:=by rw[Ic.grpN_len];have:=Ic.fst_le l f;omega
   let τy:St:=((((((((τ.more 1).more 5).more 8).more 2).more 3).more 4).put M (.map es')).more 4).put (τ.next+24) (.cells [.slice none 0 0] (cS 1))
   have hgy: ∀j,j<τ.next->j≠M->τy.get j=τ.get j:=λj hj hM'=>by
    show(St.put _ _ _).get j=_;rw[St.get_put,bH (by omega)]
    show(St.put _ _ _).get j=_;rw[St.get_put,bH hM'];rfl
   obtain⟨es,h1,h2⟩:=hmp;have hOy:Out H.next (τ.next+25) τy (.slice oa (Ic.grpN l f).length ok) (Ic.grpN l f):=hO.mono (by omega) (λj cs m hj hc=>hgy j hj (λe=>by subst e;rw[h1]at hc;cases hc)) (λg _=>rfl)
   obtain⟨v1,τ1,b1,b2,b3⟩:=hOy.more (b:=24) (id':=τ.next+25) (e1:=τ.next+26) (e2:=τ.next+27) (B':=τ.next+28) (by omega) (by omega) (by omega) (by omega) (λg hg=>hvh g (by omega)) (by omega) rfl rfl
   have hap1:fS Tryz.prog τy (τ.next+25) ⟨.builtin .append, #[.tmp 105,.tmp 106], #[33,33]⟩ (.slice oa (Ic.grpN l f).length ok) (.slice (some ⟨τ.next+24,0,none⟩) 1 1)=some (v1,τ1):=by
    refine(MH (u:= .slice 35) Tryz.underlying33 Tryz.underlying33 a14 rfl (n:=1) (xs:=[.slice none 0 0]) ?_ rfl (by omega) (by omega) rfl rfl (by omega)).trans b1
    have:τy.row (τ.next+24)=some ([.slice none 0 0],cS 1):=by
     show(St.put _ _ _).row _=_;simp only[vI,bO];rfl
    simp only[kO,this];rfl
   refine BM hap1 ?_;have hN:τ1.next=τ.next+27:=b3.next
   have hgl:(Ic.grpN l f++ [[]])[(Ic.grpN l f).length]?=some []:=by rw[List.getElem?_append_right (aS _),Nat.sub_self];rfl
   obtain⟨o,k',cs2,m2,s,rfl,o1,o2,o3,o4⟩:=b2.cell hgl;have zn:(0:Int)<=((Ic.grpN l f).length:Int):=by omega
   have zl:((Ic.grpN l f).length:Int)<((Ic.grpN l f++ [[]]).length:Int):=by simp;omega
   simp only[sJ,CI,CH,Nat.reduceAdd,Nat.reduceMod,Nat.reduceDiv,Nat.reduceSub,Nat.reduceMul,Nat.reduceEqDiff,Nat.reduceBEq,Nat.reduceLeDiff,Int.reduceToNat,fU,nJ,wN,Value.cells,one,eA,aAZ,C6,st35,C4,C5,s85,s86,s87,s11,pi,aCH zn zl,o2,o3,a4b]
   let τx:St:=((τ1.more 11).put (τ1.next+7) (.cells [.int .i64 (f:Int)] (cS 1)))
   have pt: ∀j,j<τ.next+28->τx.get j=τ1.get j:=λj hj=>by show(St.put _ _ _).get j=_;rw[St.get_put,bH (by omega)];rfl
   have hOx:Out H.next (τ.next+35) τx (.slice (some ⟨o,0,none⟩) (Ic.grpN l f++ [[]]).length k') (Ic.grpN l f++ [[]]):=b2.mono (by omega) (λj _ _ hj _=>pt j hj) (λg _=>rfl)
   have hvx: ∀g,τ.next+35<=g->τx.ver g=0:=λg hg=>(b3.vhi g (by omega)).trans (hvh g (by omega))
   obtain⟨o',k'',cs3,m3,s',e1,_,p2,p3,_,y,τ2,τ3,a1,a2,a3,a4⟩:=Out.put1 (P:=Tryz.prog) (t:=35) (b:=8) (x:=f) (id':=τ1.next+8) (B':=τ.next+40) hOx (by omega) (by omega) (by omega) (by omega) hvx hgl (by simp) (by kernel_rfl)
   cases e1;have hrx:τx.row o=τ1.row o:=by simp only[St.row,pt o o1];rfl
   rw[hrx,o2]at p2;cases p2;rw[o3]at p3;cases p3;have hap:fS Tryz.prog τx (τ1.next+8) ⟨.builtin .append, #[.tmp 113,.tmp 115], #[35,35]⟩ s (.slice (some ⟨τ1.next+7,0,none⟩) 1 1)=some (y,τ2):=by
    refine(MH (u:= .slice 3) Tryz.underlying35 Tryz.underlying35 a3S rfl (n:=1) (xs:=[.int .i64 (f:Int)]) ?_ rfl (by omega) (by omega) rfl o4 (by omega)).trans a1
    have:τx.row (τ1.next+7)=some ([.int .i64 (f:Int)],cS 1):=by
     show(St.put _ _ _).row _=_;simp only[vI,bO];rfl
    simp only[kO,this];rfl
   refine BM hap ?_;simp only[sJ,CI,CH,Nat.reduceAdd,Nat.reduceMod,Nat.reduceDiv,Nat.reduceSub,Nat.reduceMul,Nat.reduceEqDiff,Nat.reduceBEq,Nat.reduceLeDiff,Int.reduceToNat,fU,nJ,wN,Value.cells,one,eA,aAZ,C6,st35,C4,C5,s85,s86,s87,s11,pi,aCH zn zl];refine BM (st35.symm.trans a2) ?_;have jf:τ3.next=τ1.next+11:=a4.next
   simp only[sJ,CI,CH,Nat.reduceAdd,Nat.reduceMod,Nat.reduceDiv,Nat.reduceSub,Nat.reduceMul,Nat.reduceEqDiff,Nat.reduceBEq,Nat.reduceLeDiff,Int.reduceToNat,fU,nJ,wN,Value.cells,one,eA,aAZ,C6,st35,C4,C5,s85,s86,s87,s11,pi,hw];have gc:=Ic.grpN_new hJ hf;have fx:(Ic.grpN l f++ [[]]).set (Ic.grpN l f).length ([]++ [f])=Ic.grpN l (f+1):=by
    rw[gc,List.set_append_right _ _ (aS _),Nat.sub_self];rfl
   rw[fx]at a3;have hfs:Ic.fst l (f+1)=Ic.fst l f++ [f]:=by rw[Ic.fst_succ,bI hf]
   have hgo: ∀k,SC (Tz l f) (f:Int) (.int .i64 ((Ic.grpN l f).length:Int)) k=Tz l (f+1) k:=by
    intro k;unfold SC Tz;rw[hfs];by_cases hk:k=(f:Int)
    .subst hk;rw[bI rfl,bI ⟨by omega,by simp⟩]
     have:Ic.pos f (Ic.fst l f++ [f])=(Ic.fst l f).length:=Ic.pos_app_new (λh=>by have:=(Ic.mem_fst.1 h).1;omega)
     simp[this,Ic.grpN_len]
    .rw[bH hk];by_cases h0:0<=k/\k.toNat∈Ic.fst l f
     .rw[bI h0,bI ⟨h0.1,List.mem_append_left _ h0.2⟩,Ic.pos_app_old h0.2]
     .rw[bH h0,bH (λh=>h0 ⟨h.1,by
       rcases List.mem_append.1 h.2 with h3|h3
       .exact h3
       .exact absurd (by have:=List.mem_singleton.1 h3;omega) hk⟩)]
   obtain⟨es2,k1,k2⟩:=hmp';have hy:τy.get M=some (.map (sG SP es2)):=by
    show(St.put _ _ _).get M=_;rw[St.get_put,bH (by omega)];exact k1
   have hm3:τ3.get M=some (.map (sG SP es2)):=a4.map M _ ((pt M (by omega)).trans (b3.map M _ hy (by omega))) (by omega)
   exact⟨l.length-(f+1),by omega,f+1,rfl,by omega,rfl,M,rfl,hM,by omega,⟨es2,hm3,λk=>(k2 k).trans (hgo k)⟩,a3.mono (by omega) (λ_ _ _ _ _=>rfl) (λ_ _=>rfl),
    λj hj=>(a4.old j hj).trans ((pt j (by omega)).trans ((b3.old j hj).trans ((hgy j (by omega) (by omega)).trans (hold j hj)))),λg hg=>(a4.vhi g (by omega)).trans (hvx g (by omega)),
    λg hg=>(a4.vlo g hg).trans ((b3.vlo g hg).trans (hvl g hg)),by omega⟩
 .have hd:decide ((i:Int)<(l.length:Int))=false:=by simp;omega
  obtain rfl:i=l.length:=by omega
  simp only[sJ,CI,CH,Nat.reduceAdd,Nat.reduceMod,Nat.reduceDiv,Nat.reduceSub,Nat.reduceMul,Nat.reduceEqDiff,Nat.reduceBEq,Nat.reduceLeDiff,Int.reduceToNat,fU,nJ,wN,Value.cells,one,eA,aAZ,C6,st35,C4,C5,s85,s86,s87,s11,hd];exact⟨.inr trivial,Out.made (hO.mono (aS _) (λ_ _ _ _ _=>rfl) (λ_ _=>rfl)) λg hg=>Ic.grp_ne hg⟩
end Go.Proofs.Q
