import Derived.Test.YtmebgielemmehaaGreatDoorKag
import Derived.Test.YtmebgielemmehaaGreatDoorKs
set_option linter.unusedVariables false
set_option linter.unusedSimpArgs false
set_option linter.constructorNameAsVariable false
set_option linter.defProp false
namespace Go.AI
variable{P:Program}
def mP(gid v lim:Nat)(tip:Bool):mX:={wr:=true,tip:=tip,z:=1,grp:=some (gid,v),lim:=lim}
structure OwG(B:Nat)(τ:St)(id:Nat)(v:Value)(l:List Value)(gid:Nat):Prop where
 v:v= .slice (some ⟨id,0,none⟩) l.length (l.length+1)
 lt:id<B
 gl:gid<B
 row: ∃lim,lim<=l.length/\τ.get id=some (.cells l (mP gid (τ.ver gid) lim true))
def aMw{τ:St}{gid lim:Nat}{b:Bool}:τ.good (mP gid (τ.ver gid) lim b)=true:=by simp[St.good,mP,cQ]
def DD{τ:St}{id gid lim:Nat}{l:List Value}{b:Bool}(h:τ.get id=some (.cells l (mP gid (τ.ver gid) lim b))):τ.row id=some (l,mP gid (τ.ver gid) lim b):=by
 unfold St.row;rw[h];simp only[aMw,aI]
def OwG.mono{B B':Nat}{τ τ':St}{id gid:Nat}{v:Value}{l:List Value}(h:OwG B τ id v l gid)(hB:B<=B')(hg:τ'.get id=τ.get id)(hv:τ'.ver gid=τ.ver gid):OwG B' τ' id v l gid:=by
 obtain⟨lim,h1,h2⟩:=h.row;exact⟨h.v,by have:=h.lt;omega,by have:=h.gl;omega,lim,h1,by rw[hg,hv];exact h2⟩
def aCZ(l:List Value):cut l 0 (l.length*1)=some l:=by simp[cut,cQ]
def aGo{B:Nat}{τ:St}{id gid id' b:Nat}{v x:Value}{l:List Value}(h:OwG B τ id v l gid)(hb:(l.length+1)*b<=1073741824)(hid:id'≠id){B':Nat}(hB:B<=B')(cw:id'<B'):
    ∃v' τ',gX τ id' 1 b 1 [x] v=some (v',τ')/\OwG B' τ' id' v' (l++ [x]) gid/\τ'.next=τ.next/\τ'.vers=τ.vers/\∀j,j≠id->j≠id'->τ'.get j=τ.get j:=by
 obtain⟨lim,h1,h2⟩:=h.row;have hr:=DD h2;rw[h.v];unfold gX;simp only[hr,aCZ];rw[qX,Bool.cond_decide,bI hb];have e1:Nat.beq (l.length+1) l.length=false:=by rw[cQ];simp
 have e2:((mP gid (τ.ver gid) lim true).tip&&(mP gid (τ.ver gid) lim true).wr&&Nat.beq (mP gid (τ.ver gid) lim true).z 1&&Nat.beq (0+l.length*1) l.length&&(mP gid (τ.ver gid) lim true).grp.isSome)=true:=by
  simp[mP,cQ]
 simp only[e1,e2,aJ,aI];refine⟨_,_,rfl,⟨by simp,cw,by have:=h.gl;omega,l.length,by simp,?_⟩,rfl,rfl,λj h3 h4=>?_⟩
 .rw[St.get_put,bI rfl];rfl
 .rw[St.get_put,bH h4,St.get_put,bH h3]
def aGp{τ:St}{id' b:Nat}{x:Value}(hb:1*b<=1073741824)(hv:τ.ver id'=0){B':Nat}(cw:id'<B'):
    ∃v' τ',gX τ id' 1 b 1 [x] (.slice none 0 0)=some (v',τ')/\OwG B' τ' id' v' [x] id'/\τ'.next=τ.next/\τ'.vers=τ.vers/\∀j,j≠id'->τ'.get j=τ.get j:=by
 unfold gX;simp only;rw[qX,Bool.cond_decide,bI hb];refine⟨_,_,rfl,⟨rfl,cw,cw,0,by simp,?_⟩,rfl,rfl,λj h4=>?_⟩
 .rw[St.get_put,bI rfl,St.ver_put,hv];rfl
 .rw[St.get_put,bH h4]
def aJM{B:Nat}{τ:St}{o go n:Nat}{v y:Value}{cs:List Value}{t:TypeId}(h:OwG B τ o v cs go)(hn:n<cs.length)(ht:gC P t=some 1)(hy:y.cells= #[y])(h1:one y=true):
    ∃τ',gE P τ t (.pointer (some ⟨o,n,none⟩)) y=some τ'/\OwG B τ' o v (cs.set n y) go/\τ'.next=τ.next/\(∀j,j≠o->τ'.get j=τ.get j)/\∀g,g≠go->τ'.ver g=τ.ver g:=by
 obtain⟨lim,h2,h3⟩:=h.row;have hr:=DD h3;have hp:eA cs n [y]=cs.set n y:=rfl;have hc:((mP go (τ.ver go) lim true).wr&&Nat.beq y.cells.size 1&&Nat.ble (n+1) cs.length&&y.cells.toList.all one)=true:=by
  rw[hy];simp[mP,cQ,qX,h1];omega
 have hl:y.cells.toList=[y]:=by rw[hy]
 unfold gE;simp only[hr,ht,hc,aI];have hg:(mP go (τ.ver go) lim true).grp=some (go,τ.ver go):=rfl;simp only[hg,hl,hp];cases hk:(mP go (τ.ver go) lim true).tip&&Nat.ble (mP go (τ.ver go) lim true).lim n with
 |true=>
  simp only[aI];refine⟨_,rfl,⟨by rw[List.length_set];exact h.v,h.lt,h.gl,lim,by rw[List.length_set];exact h2,?_⟩,rfl,λj hj=>?_,λg _=>rfl⟩
  .rw[St.get_put,bI rfl];rfl
  .rw[St.get_put,bH hj]
 |false=>
  simp only[aJ];refine⟨_,rfl,⟨by rw[List.length_set];exact h.v,h.lt,h.gl,lim,by rw[List.length_set];exact h2,?_⟩,rfl,λj hj=>?_,λg hg=>?_⟩
  .rw[St.get_bump,St.get_put,bI rfl,St.ver_bump,bI rfl];rfl
  .rw[St.get_bump,St.get_put,bH hj]
  .rw[St.ver_bump,bH hg];rfl
def Inn(B:Nat)(τ:St)(s:Value)(g:List Nat)(id gid:Nat):Prop:=(g=[]/\s= .slice none 0 0)∨OwG B τ id s (qH g) gid
structure a2P(n0 B:Nat)(τ:St)(v:Value)(gs:List (List Nat))(o go:Nat)(cs:List Value)(fw ke:Nat->Nat):Prop where
 no:n0<=o
 ng:n0<=go
 ow:OwG B τ o v cs go
 len:cs.length=gs.length
 inn: ∀(j:Nat) (g:List Nat),gs[j]?=some g->∃s,cs[j]?=some s/\Inn B τ s g (fw j) (ke j)/\n0<=fw j/\n0<=ke j/\fw j<B/\ke j<B/\fw j≠o/\ke j≠go
 inj: ∀i j:Nat,i<gs.length->j<gs.length->fw i=fw j->i=j
def Out(n0 B:Nat)(τ:St)(v:Value)(gs:List (List Nat)):Prop:=(gs=[]/\v= .slice none 0 0)∨(gs≠ []/\∃o go cs fw ke,a2P n0 B τ v gs o go cs fw ke)
def Inn.mono{B B':Nat}{τ τ':St}{s:Value}{g:List Nat}{id gid:Nat}(h:Inn B τ s g id gid)(hB:B<=B')(hg:τ'.get id=τ.get id)(hv:τ'.ver gid=τ.ver gid):Inn B' τ' s g id gid:=by
 rcases h with h|h
 .exact .inl h
 .exact .inr (h.mono hB hg hv)
def Out.mono{n0 B B':Nat}{τ τ':St}{v:Value}{gs:List (List Nat)}(h:Out n0 B τ v gs)(hB:B<=B')(hg: ∀j cs m,j<B->τ.get j=some (.cells cs m)->τ'.get j=τ.get j)(hv: ∀g,g<B->τ'.ver g=τ.ver g):Out n0 B' τ' v gs:=by
 rcases h with h|⟨h0,o,go,cs,fw,ke,h⟩
 .exact .inl h
 .refine .inr ⟨h0,o,go,cs,fw,ke,h.no,h.ng,h.ow.mono hB (hg o _ _ h.ow.lt h.ow.row.choose_spec.2) (hv go h.ow.gl),h.len,λj g hj=>?_,h.inj⟩
  obtain⟨s,h1,h2,h3,h4,h5,h6,h7,h8⟩:=h.inn j g hj;exact⟨s,h1,h2.elim .inl (λh2=> .inr (h2.mono hB (hg _ _ _ h5 h2.row.choose_spec.2) (hv _ h6))),h3,h4,by omega,by omega,h7,h8⟩
structure Fm(n0 B:Nat)(τ τ':St):Prop where
 next:τ'.next=τ.next
 old: ∀j,j<n0->τ'.get j=τ.get j
 map: ∀j es,τ.get j=some (.map es)->j<B->τ'.get j=some (.map es)
 vlo: ∀g,g<n0->τ'.ver g=τ.ver g
 vhi: ∀g,B<=g->τ'.ver g=τ.ver g
def Out.more{n0 B B':Nat}{τ:St}{v:Value}{gs:List (List Nat)}{id' b e1 e2:Nat}(h:Out n0 B τ v gs)(hB:B<B')(hn:n0<=B)(hid:B<=id')(cw:id'+2<B')(hv: ∀g,B<=g->τ.ver g=0)(hb:(gs.length+1)*b<=1073741824)
    (he1:e1=id'+1) (he2:e2=id'+2):
    ∃v' τ',gX τ id' 1 b 1 [.slice none 0 0] v=some (v',τ')/\Out n0 B' τ' v' (gs++ [[]])/\Fm n0 B τ τ':=by
 rcases h with⟨rfl,rfl⟩|⟨h0,o,go,cs,fw,ke,h⟩
 .obtain⟨v',τ',g1,g2,g3,g4,g5⟩:=aGp (τ:=τ) (x:= .slice none 0 0) (by simpa using hb) (hv id' hid) (B':=B') (by omega)
  refine⟨v',τ',g1,.inr ⟨by simp,id',id',[.slice none 0 0],λ_=>e1,λ_=>e1,by omega,by omega,g2,rfl,λj g hj=>?_,λi j hi hj _=>by simp at hi hj;omega⟩,
   ⟨g3,λj hj=>g5 j (by omega),λj es hj bh=>by rw[g5 j (by omega),hj],λg _=>by simp only[St.ver,g4],λg _=>by simp only[St.ver,g4]⟩⟩
  cases j with
  |zero=>cases hj;exact⟨_,rfl,.inl ⟨rfl,rfl⟩,by omega,by omega,by omega,by omega,by omega,by omega⟩
  |succ j=>simp at hj
 .have bh:=h.ow.lt;obtain⟨v',τ',g1,g2,g3,g4,g5⟩:=aGo (x:= .slice none 0 0) (id':=id') (b:=b) h.ow (by rw[h.len];exact hb) (by omega) (B':=B') (by omega) (by omega)
  have pe: ∀g,τ'.ver g=τ.ver g:=λg=>by simp only[St.ver,g4]
  refine⟨v',τ',g1,.inr ⟨by simp,id',go,cs++ [.slice none 0 0],λk=>if k=gs.length then e1 else fw k,λk=>if k=gs.length then e1 else ke k,by omega,h.ng,g2,by simp[h.len],λj g hj=>?_,λi j hi hj=>?_⟩,
   ⟨g3,λj hj=>g5 j (by have:=h.no;omega) (by omega),λj es hj hlt2=>by
    rw[g5 j (λe=>by subst e;obtain⟨lim,_,h2⟩:=h.ow.row;rw[h2]at hj;cases hj) (by omega),hj],λg _=>pe g,λg _=>pe g⟩⟩
  .by_cases e:j=gs.length
   .subst e;rw[List.getElem?_append_right (aS _),Nat.sub_self]at hj;cases hj;refine⟨.slice none 0 0,by rw[<-h.len,List.getElem?_append_right (aS _),Nat.sub_self];rfl,.inl ⟨rfl,rfl⟩,?_⟩
    simp only[bO];have:=h.ow.gl;exact⟨by omega,by omega,by omega,by omega,by omega,by omega⟩
   .have lz:j<gs.length:=by
     rcases Nat.lt_or_ge j (gs++ [[]]).length with h1|h1
     .simp at h1;omega
     .rw[List.getElem?_eq_none h1]at hj;cases hj
    rw[List.getElem?_append_left lz]at hj;obtain⟨s,h1,h2,h3,h4,h5,h6,h7,h8⟩:=h.inn j g hj;refine⟨s,by rw[List.getElem?_append_left (by rw[h.len];exact lz)];exact h1,?_⟩
    simp only[bH e];exact⟨h2.mono (by omega) (g5 _ h7 (by omega)) (pe _),h3,h4,by omega,by omega,by omega,h8⟩
  .simp only[aZ,aM,aX]at hi hj;have hb1: ∀k,k<gs.length->fw k<B:=λk hk=>(h.inn k _ (aV hk)).choose_spec.2.2.2.2.1
   split
   .split
    .intro _;omega
    .intro e;have:=hb1 j (by omega);omega
   .split
    .intro e;have:=hb1 i (by omega);omega
    .exact h.inj i j (by omega) (by omega)
def Out.put1{n0 B B':Nat}{τ:St}{v:Value}{gs:List (List Nat)}{id' b n x:Nat}{g:List Nat}{t:TypeId}(h:Out n0 B τ v gs)(hB:B<B')(hn:n0<=B)(hid:B<=id')(cw:id'<B')(hv: ∀g,B<=g->τ.ver g=0)(hg:gs[n]?=some g)
    (hb:(g.length+1)*b<=1073741824) (ht:gC P t=some 1):
    ∃o k cs m s,v= .slice (some ⟨o,0,none⟩) gs.length k/\o<B/\τ.row o=some (cs,m)/\cs[n]?=some s/\eT s=true/\∃y τ1 τ2,gX τ id' 1 b 1 [.int .i64 (x:Int)] s=some (y,τ1)/\gE P τ1 t (.pointer (some ⟨o,n,none⟩)) y=some τ2/\
      Out n0 B' τ2 v (gs.set n (g++ [x]))/\Fm n0 B τ τ2:=by
 rcases h with⟨rfl,rfl⟩|⟨h0,o,go,cs,fw,ke,h⟩
 .simp at hg
 .have gb:n<gs.length:=by
   rcases Nat.lt_or_ge n gs.length with h1|h1
   .exact h1
   .rw[List.getElem?_eq_none h1]at hg;cases hg
  obtain⟨s,h1,h2,h3,h4,h5,h6,h7,h8⟩:=h.inn n g hg;have holt:=h.ow.lt;have hgl:=h.ow.gl;obtain⟨y,τ1,a1,gi,a2,a3,a4,a5,a6,a7,a8⟩: ∃y τ1,gX τ id' 1 b 1 [.int .i64 (x:Int)] s=some (y,τ1)/\∃gi,OwG B' τ1 id' y (qH (g++ [x])) gi/\τ1.next=τ.next/\τ1.vers=τ.vers/\(∀j,j≠fw n->j≠id'->τ1.get j=τ.get j)/\n0<=gi/\gi≠go/\∀j es,τ.get j=some (.map es)->j≠id'->τ1.get j=τ.get j:=by
   rcases h2 with⟨rfl,rfl⟩|h2
   .obtain⟨y,τ1,b1,b2,b3,b4,b5⟩:=aGp (τ:=τ) (x:= .int .i64 (x:Int)) (by simpa using hb) (hv id' hid) (B':=B') cw
    exact⟨y,τ1,b1,id',b2,b3,b4,λj _ hj=>b5 j hj,by omega,by omega,λj es _ hj=>b5 j hj⟩
   .obtain⟨y,τ1,b1,b2,b3,b4,b5⟩:=aGo (x:= .int .i64 (x:Int)) (id':=id') (b:=b) h2 (by simpa [qH]using hb) (by omega) (B':=B') (by omega) cw
    refine⟨y,τ1,b1,ke n,?_,b3,b4,b5,h4,h8,λj es he hj=>b5 j (λe=>by subst e;obtain⟨lim,_,q⟩:=h2.row;rw[q]at he;cases he) hj⟩
    have:qH (g++ [x])=qH g++ [.int .i64 (x:Int)]:=by simp[qH]
    rw[this];exact b2
  have hver1: ∀g,τ1.ver g=τ.ver g:=λg=>by simp only[St.ver,a4]
  have ow1:OwG B' τ1 o v cs go:=h.ow.mono (by omega) (a5 o (λe=>h7 e.symm) (by omega)) (hver1 _)
  have hy:y= .slice (some ⟨id',0,none⟩) (qH (g++ [x])).length ((qH (g++ [x])).length+1):=a2.v;obtain⟨τ2,c1,c2,c3,c4,c5⟩:=aJM (P:=P) (n:=n) (y:=y) (t:=t) ow1 (by rw[h.len];exact gb) ht (by rw[hy];rfl) (by rw[hy];rfl)
  obtain⟨lim,r1,r2⟩:=h.ow.row;have cr:eT s=true:=by
   rcases h2 with⟨_,rfl⟩|h2
   .rfl
   .rw[h2.v];rfl
  refine⟨o,_,cs,_,s,by rw[<-h.len];exact h.ow.v,holt,DD r2,h1,cr,y,τ1,τ2,a1,c1,.inr ⟨?_,o,go,cs.set n y,λk=>if k=n then id' else fw k,λk=>if k=n then gi else ke k,h.no,h.ng,c2,?_,λj g' hj=>?_,λi j hi hj=>?_⟩,?_⟩
  .intro e;rw[List.set_eq_nil_iff]at e;exact h0 e
  .rw[List.length_set,List.length_set,h.len]
  .by_cases e:j=n
   .subst e;rw[List.getElem?_set_self gb]at hj;cases hj;refine⟨y,by rw[List.getElem?_set_self (by rw[h.len];exact gb)],?_⟩
    simp only[bO];exact⟨.inr (a2.mono (aS _) (c4 id' (by omega)) (c5 gi a7)),by omega,a6,cw,a2.gl,by omega,a7⟩
   .rw[List.getElem?_set_ne (λe'=>e e'.symm)]at hj
    obtain⟨s',k1,k2,k3,k4,k5,k6,k7,k8⟩:=h.inn j g' hj;have hjl:j<gs.length:=by
     rcases Nat.lt_or_ge j gs.length with h1|h1
     .exact h1
     .rw[List.getElem?_eq_none h1]at hj;cases hj
    refine⟨s',by rw[List.getElem?_set_ne (λe'=>e e'.symm)];exact k1,?_⟩
    simp only[bH e];refine⟨k2.mono (by omega) ?_ ?_,k3,k4,by omega,by omega,k7,k8⟩
    .rw[c4 _ k7,a5 _ (λe'=>e (h.inj j n hjl gb e')) (by omega)]
    .rw[c5 _ k8,hver1]
  .rw[List.length_set]at hi hj;have hb1: ∀k,k<gs.length->fw k<B:=λk hk=>(h.inn k _ (aV hk)).choose_spec.2.2.2.2.1
   split
   .split
    .intro _;omega
    .intro e;have:=hb1 j hj;omega
   .split
    .intro e;have:=hb1 i hi;omega
    .exact h.inj i j hi hj
  .have nomap: ∀{j es l m},τ.get j=some (.map es)->τ.get j≠some (.cells l m):=λe1 e2=>by rw[e1]at e2;cases e2
   refine⟨c3.trans a3,λj hj=>?_,λj es hj bh=>?_,λg hg=>?_,λg hg=>?_⟩
   .rw[c4 j (by have:=h.no;omega),a5 j (by omega) (by omega)]
   .rw[c4 j (λe=>by subst e;exact nomap hj r2),a8 j es hj (by omega),hj]
   .rw[c5 g (by have:=h.ng;omega),hver1]
   .rw[c5 g (by omega),hver1]
def Out.cell{n0 B:Nat}{τ:St}{v:Value}{gs:List (List Nat)}{n:Nat}{g:List Nat}(h:Out n0 B τ v gs)(hg:gs[n]?=some g):
    ∃o k cs m s,v= .slice (some ⟨o,0,none⟩) gs.length k/\o<B/\τ.row o=some (cs,m)/\cs[n]?=some s/\eT s=true:=by
 rcases h with⟨rfl,rfl⟩|⟨h0,o,go,cs,fw,ke,h⟩
 .simp at hg
 .obtain⟨s,h1,h2,_⟩:=h.inn n g hg;obtain⟨lim,r1,r2⟩:=h.ow.row;refine⟨o,_,cs,_,s,by rw[<-h.len];exact h.ow.v,h.ow.lt,DD r2,h1,?_⟩
  rcases h2 with⟨_,rfl⟩|h2
  .rfl
  .rw[h2.v];rfl
def Out.form{n0 B:Nat}{τ:St}{v:Value}{gs:List (List Nat)}(h:Out n0 B τ v gs): ∃a k,v= .slice a gs.length k:=by
 rcases h with⟨rfl,rfl⟩|⟨h0,o,go,cs,fw,ke,h⟩
 .exact⟨none,0,rfl⟩
 .exact⟨_,_,by rw[<-h.len];exact h.ow.v⟩
def Out.made{n0 B:Nat}{τ:St}{v:Value}{gs:List (List Nat)}(h:Out n0 B τ v gs)(bn: ∀g∈gs,g≠ []):aEW τ v gs:=by
 rcases h with h|⟨h0,o,go,cs,fw,ke,h⟩
 .exact .inl h
 .obtain⟨lim,r1,r2⟩:=h.ow.row;refine .inr ⟨h0,o,_,cs,_,by rw[<-h.len];exact h.ow.v,DD r2,rfl,rfl,λj g hj=>?_⟩
  obtain⟨s,h1,h2,_⟩:=h.inn j g hj;rcases h2 with⟨rfl,_⟩|h2
  .exact absurd rfl (bn [] (List.mem_of_getElem? hj))
  .obtain⟨lim',r3,r4⟩:=h2.row;refine⟨fw j,(qH g).length+1,_,by rw[h1,h2.v];simp[qH],DD r4,rfl,rfl⟩
end Go.AI
namespace Go.Ic
open Go.AI Go.Proofs
def isR(n:Nat):Code->Bool
 | .region id _ _=>Nat.beq id n
 |_=>false
def preA:Code->List Code
 | .seq a b=>bif isR 23 a then []else a::preA b
 |_=>[]
def tailA:Code->Code
 | .seq a b=>bif isR 23 a then .seq a b else tailA b
 |c=>c
def headA(c:Code):Code:=G9 (preA c) .ret
noncomputable def cmB:Code:=Tryz.f7.body.getD .skip
noncomputable def cmH:Func:={Tryz.f7 with name:=Tryz.f99.name,body:=some (headA cmB),results:= #[.tmp 3],resultTypes:= #[35]}
noncomputable def cdA:Program:=aQe Tryz.prog 99 cmH
end Go.Ic
namespace Go.Proofs.Q
open Go.AI
set_option maxRecDepth 20000
def sz3:gC Tryz.prog 3=some 1:=by kernel_rfl
def ag3:jZ Tryz.prog 3=some false:=by kernel_rfl
def aAZ{H:St}{id off:Nat}:hY Tryz.prog H 3 (.pointer (some ⟨id,off,none⟩))=(H.row id).bind λr=>r.1[off]?:=by
 simp only[hY,ag3];cases H.row id<;>rfl
def a3S:Bv Tryz.prog 3=some (1,8,.int .i64 0):=by kernel_rfl
def aQd:gC Tryz.prog 35=some 1:=by kernel_rfl
def a2N:jZ Tryz.prog 35=some false:=by kernel_rfl
def C6{H:St}{id off:Nat}:hY Tryz.prog H 35 (.pointer (some ⟨id,off,none⟩))=(H.row id).bind λr=>r.1[off]?:=by
 simp only[hY,a2N];cases H.row id<;>rfl
def st35{H:St}{id off:Nat}{x:Value}:gE Tryz.prog H 35 (.pointer (some ⟨id,off,none⟩)) x=(H.row id).bind λr=>aOA H id off 1 x r.1 r.2:=aQi aQd
def a14:Bv Tryz.prog 35=some (1,24,.slice none 0 0):=by kernel_rfl
def aVw{id off len c:Nat}{k:IntKind}{n:Int}(h0:0<=n)(h1:n<(len:Int)):fF Tryz.prog 35 (.slice (some ⟨id,off,none⟩) len c) (.int k n)=some (.pointer (some ⟨id,off+n.toNat*1,none⟩)):=ia Tryz.underlying35 sz3 h0 h1
def aCH{id off len c:Nat}{k:IntKind}{n:Int}(h0:0<=n)(h1:n<(len:Int)):fF Tryz.prog 33 (.slice (some ⟨id,off,none⟩) len c) (.int k n)=some (.pointer (some ⟨id,off+n.toNat*1,none⟩)):=ia Tryz.underlying33 aQd h0 h1
def C4{n c:Nat}{a:Option Addr}:De Tryz.prog 35 (.slice a n c)=some (.int .i64 n):=by
 have hu:=Tryz.underlying35;simp[De,hu,goInt]
def C5{n c:Nat}{a:Option Addr}:De Tryz.prog 33 (.slice a n c)=some (.int .i64 n):=by
 have hu:=Tryz.underlying33;simp[De,hu,goInt]
end Go.Proofs.Q
namespace Go.AI
def sY{N:Type}(r:Option N)(K:N->Prop):Prop:= ∃v,r=some v/\K v
def JX{N:Type}{v:N}{K:N->Prop}:sY (some v) K↔K v:=by simp[sY]
def qN{N W:Type}{r:Option (N×W)}{ρ:N->W->Prop}:(∃v ob,r=some (v,ob)/\ρ v ob)↔sY r (λp=>ρ p.1 p.2):=by
 constructor
 .rintro⟨v,ob,h1,h2⟩;exact⟨(v,ob),h1,h2⟩
 .rintro⟨⟨v,ob⟩,h1,h2⟩;exact⟨v,ob,h1,h2⟩
section
variable{P:Program}{ops:Array Oper}{base i:Nat}{l:List Oper}{S:Slots}{H:St}{Q:Slots->St->Prop}{d:Option Tmp}{ty:TypeId}{pos:String}{af:Array Edge}
def nx(P:Program)(ops:Array Oper)(base:Nat)(l:List Oper)(i:Nat)(S:Slots)(d:Option Tmp)(H:St)(Q:Slots->St->Prop):Value->Prop:=λv=>dW P ops base l (i+1) (S.store d v) H Q
def aOG(P:Program)(ops:Array Oper)(base:Nat)(l:List Oper)(i:Nat)(S:Slots)(d:Option Tmp)(H:St)(Q:Slots->St->Prop):Value×AObj->Prop:=λp=>dW P ops base l (i+1) (S.store d p.1) (H.put (base+i) p.2) Q
def aXF(P:Program)(ops:Array Oper)(base:Nat)(l:List Oper)(i:Nat)(S:Slots)(d:Option Tmp)(Q:Slots->St->Prop):St->Prop:=λH1=>dW P ops base l (i+1) (S.store d undef) H1 Q
def a3L(P:Program)(ops:Array Oper)(base:Nat)(l:List Oper)(i:Nat)(S:Slots)(d:Option Tmp)(Q:Slots->St->Prop):Value×St->Prop:=λp=>dW P ops base l (i+1) (S.store d p.1) p.2 Q
def a3M(P:Program)(H:St)(K:Value->St->Prop):FuncId×Array Value->Prop:=λp=>aOx P p.1 p.2 H K
def a0S(R:Value->St->Prop)(H:St):List Value->Prop:=λvs=>R (kN vs) H
def aF4{v:Value}:nx P ops base l i S d H Q v↔dW P ops base l (i+1) (S.store d v) H Q:=Iff.rfl
def VA{v:Value}{ob:AObj}:aOG P ops base l i S d H Q (v,ob)↔dW P ops base l (i+1) (S.store d v) (H.put (base+i) ob) Q:=Iff.rfl
def Vw:aXF P ops base l i S d Q H↔dW P ops base l (i+1) (S.store d undef) H Q:=Iff.rfl
def Vy{v:Value}:a3L P ops base l i S d Q (v,H)↔dW P ops base l (i+1) (S.store d v) H Q:=Iff.rfl
def Vz{g:FuncId}{args:Array Value}{K:Value->St->Prop}:a3M P H K (g,args)↔aOx P g args H K:=Iff.rfl
def Vx{R:Value->St->Prop}{vs:List Value}:a0S R H vs↔R (kN vs) H:=Iff.rfl
def aMv(P:Program)(ops:Array Oper)(base:Nat)(o:Oper)(l:List Oper)(i:Nat)(S:Slots)(H:St)(Q:Slots->St->Prop):Bool->Prop
 |true=>dW P ops base (o::l) i S H Q
 |false=>dW P ops base l (i+1) (S.store o.dst undef) H Q
def LL{o:Oper}:aMv P ops base o l i S H Q true↔dW P ops base (o::l) i S H Q:=Iff.rfl
def LM{o:Oper}:aMv P ops base o l i S H Q false↔dW P ops base l (i+1) (S.store o.dst undef) H Q:=Iff.rfl
def OT{op:Op}{j:Nat}{b:Bool}:dW P ops base (⟨d,op,ty,pos,af,some (j,b)⟩::l) i S H Q↔aMv P ops base ⟨d,op,ty,pos,af,none⟩ l i S H Q (nJ ops S j b):=by
 have hw:wanted ops S ⟨d,op,ty,pos,af,some (j,b)⟩=nJ ops S j b:=rfl;unfold dW;simp only[gU,hw];cases h:nJ ops S j b with
 |true=>
  simp only[bO,LL,dW,gU,cB];exact Iff.rfl
 |false=>simp only[Bool.false_eq_true,bN,LM,dW]
def TF{x y z:Operand}:dW P ops base (⟨d,.pick x y z,ty,pos,af,none⟩::l) i S H Q↔sY (KG (ev S x) (ev S y) (ev S z)) (nx P ops base l i S d H Q):=aI3
def OW{t:TypeId}{ps:Array (Nat×Operand)}:dW P ops base (⟨d,.build t ps,ty,pos,af,none⟩::l) i S H Q↔sY (uT P t (ps.map λ(i,x)=>(i,ev S x))) (nx P ops base l i S d H Q):=aBc
def Az{x:Operand}:dW P ops base (⟨d,.nilCheck x,ty,pos,af,none⟩::l) i S H Q↔sY (yE (ev S x)) (nx P ops base l i S d H Q):=K7
def OX{op:BinOp}{t t':TypeId}{x y:Operand}:dW P ops base (⟨d,.binOp op t x y t',ty,pos,af,none⟩::l) i S H Q↔sY (gH P op t x y (ev S x) (ev S y)) (nx P ops base l i S d H Q):=aBd
def TE{op:UnOp}{t:TypeId}{x:Operand}:dW P ops base (⟨d,.unOp op t x,ty,pos,af,none⟩::l) i S H Q↔sY (a2K P op (ev S x)) (nx P ops base l i S d H Q):=aI2
def Dm{s t:TypeId}{x:Operand}:dW P ops base (⟨d,.convert s t x,ty,pos,af,none⟩::l) i S H Q↔sY (Ck P H s t (ev S x)) (nx P ops base l i S d H Q):=RU
def yP{t:TypeId}{x:Operand}{f:Nat}:dW P ops base (⟨d,.fieldAddr t x f,ty,pos,af,none⟩::l) i S H Q↔sY (jT P t (ev S x) f) (nx P ops base l i S d H Q):=GQ
def OU{t:TypeId}{x:Operand}{f:Nat}:dW P ops base (⟨d,.field t x f,ty,pos,af,none⟩::l) i S H Q↔sY (uS P t (ev S x) f) (nx P ops base l i S d H Q):=aBa
def yO{t:TypeId}{x y:Operand}:dW P ops base (⟨d,.indexAddr t x y,ty,pos,af,none⟩::l) i S H Q↔sY (fF P t (ev S x) (ev S y)) (nx P ops base l i S d H Q):=GO
def OS{t:TypeId}{x y:Operand}:dW P ops base (⟨d,.index t x y,ty,pos,af,none⟩::l) i S H Q↔sY (uR P t (ev S x) (ev S y)) (nx P ops base l i S d H Q):=aA9
def Dl{x:Operand}{k:Nat}:dW P ops base (⟨d,.extract x k,ty,pos,af,none⟩::l) i S H Q↔sY (Ci (ev S x) k) (nx P ops base l i S d H Q):=RT
def aFr{aQs:Array Operand}{ts:Array TypeId}:dW P ops base (⟨d,.call ⟨.builtin .len,aQs,ts⟩,ty,pos,af,none⟩::l) i S H Q↔sY (fV P (ev S) ⟨d,.call ⟨.builtin .len,aQs,ts⟩,ty,pos,af,none⟩ ⟨.builtin .len,aQs,ts⟩) (nx P ops base l i S d H Q):=aO8
def aFp{aQs:Array Operand}{ts:Array TypeId}:dW P ops base (⟨d,.call ⟨.builtin .min,aQs,ts⟩,ty,pos,af,none⟩::l) i S H Q↔sY (fV P (ev S) ⟨d,.call ⟨.builtin .min,aQs,ts⟩,ty,pos,af,none⟩ ⟨.builtin .min,aQs,ts⟩) (nx P ops base l i S d H Q):=aO6
def aFq{aQs:Array Operand}{ts:Array TypeId}:dW P ops base (⟨d,.call ⟨.builtin .max,aQs,ts⟩,ty,pos,af,none⟩::l) i S H Q↔sY (fV P (ev S) ⟨d,.call ⟨.builtin .max,aQs,ts⟩,ty,pos,af,none⟩ ⟨.builtin .max,aQs,ts⟩) (nx P ops base l i S d H Q):=aO7
def TG{t:TypeId}{x:Operand}:dW P ops base (⟨d,.load t x,ty,pos,af,none⟩::l) i S H Q↔sY (hY P H t (ev S x)) (nx P ops base l i S d H Q):=aI4
def GI{t:TypeId}{x y:Operand}{ok:Bool}:dW P ops base (⟨d,.lookup t x y ok,ty,pos,af,none⟩::l) i S H Q↔sY (jK P H t (ev S x) (ev S y) ok) (nx P ops base l i S d H Q):=TN
def OQ{t:TypeId}{x:Operand}{lo hi mx:Option Operand}:dW P ops base (⟨d,.slice t x lo hi mx,ty,pos,af,none⟩::l) i S H Q↔sY (oN P H t (ev S x) (lo.map (ev S)) (hi.map (ev S)) (mx.map (ev S))) (nx P ops base l i S d H Q):=aA8
def GL{t:TypeId}:dW P ops base (⟨d,.alloc t,ty,pos,af,none⟩::l) i S H Q↔sY (Ub P t (base+i)) (aOG P ops base l i S d H Q):=x_alloc'.trans qN
def aFs{t:TypeId}{x:Operand}:dW P ops base (⟨d,.box t x,ty,pos,af,none⟩::l) i S H Q↔sY (wN (ev S x) (base+i)) (aOG P ops base l i S d H Q):=x_box.trans qN
def vA{t:TypeId}{n:Nat}{ps:Array (Nat×Operand)}:dW P ops base (⟨d,.buildSlice t n ps,ty,pos,af,none⟩::l) i S H Q↔sY (Aj P t n (ps.map λ(i,x)=>(i,ev S x)) (base+i)) (aOG P ops base l i S d H Q):=x_buildSlice.trans qN
def yN{t:TypeId}{x y:Operand}:dW P ops base (⟨d,.makeSlice t x y,ty,pos,af,none⟩::l) i S H Q↔sY (aFx P t (ev S x) (ev S y) (base+i)) (aOG P ops base l i S d H Q):=x_makeSlice.trans qN
def Dk{t:TypeId}{x:Option Operand}:dW P ops base (⟨d,.makeMap t x,ty,pos,af,none⟩::l) i S H Q↔sY (eZ P (ev S) ⟨d,.makeMap t x,ty,pos,af,none⟩ (base+i)) (aOG P ops base l i S d H Q):=x_makeMap.trans qN
def OP{t:TypeId}{x y:Operand}:dW P ops base (⟨d,.store t x y,ty,pos,af,none⟩::l) i S H Q↔sY (gE P H t (ev S x) (ev S y)) (aXF P ops base l i S d Q):=aA7
def yM{t:TypeId}{x y z:Operand}:dW P ops base (⟨d,.mapUpdate t x y z,ty,pos,af,none⟩::l) i S H Q↔sY (eQ P H t (ev S x) (ev S y) (ev S z)) (aXF P ops base l i S d Q):=GN
def GJ{t:TypeId}{x y z:Operand}:dW P ops base (⟨d,.insert t x y z,ty,pos,af,none⟩::l) i S H Q↔sY (eQ P H t (ev S x) (ev S y) (ev S z)) (aXF P ops base l i S d Q):=TO
def GK{x y:Operand}{ts:Array TypeId}:dW P ops base (⟨d,.call ⟨.builtin .append, #[x,y],ts⟩,ty,pos,af,none⟩::l) i S H Q↔sY (fS P H (base+i) ⟨.builtin .append, #[x,y],ts⟩ (ev S x) (ev S y)) (a3L P ops base l i S d Q):=x_append.trans qN
def TH{f:Operand}{aQs:Array Operand}{ts:Array TypeId}:dW P ops base (⟨d,.call ⟨.value f,aQs,ts⟩,ty,pos,af,none⟩::l) i S H Q↔sY (gJ (ev S) ⟨.value f,aQs,ts⟩) (a3M P H (Da P ops base l (i+1) S d Q)):=k_call.trans qN
def aOP{rs:List ResultVar}{R:Value->St->Prop}:done P rs R .normal S H↔sY (cO P S H rs) (a0S R H):=Iff.rfl
def aOO{rs:List ResultVar}{R:Value->St->Prop}:done P rs R .ret S H↔sY (cO P S H rs) (a0S R H):=Iff.rfl
def cC{a b:Code}{K:Fl->Slots->St->Prop}:cH P (.bool true) a b S H K↔pP P a S H K:=by simp[cH]
def bU{a b:Code}{K:Fl->Slots->St->Prop}:cH P (.bool false) a b S H K↔pP P b S H K:=by simp[cH]
end
section
variable{P:Program}{ops:Array Oper}{ms:List Nat}{base i:Nat}{l:List (Nat×Oper)}{ps:List (Nat×(St->Prop))}{S:Slots}{H:St}{Q:Slots->St->Prop}{d:Option Tmp}{ty:TypeId}{pos:String}{af:Array Edge}
def aXH(γ:Nat->Slots->St->Prop)(m:Nat)(Q:Fl->Slots->St->Prop):Fl->Slots->St->Prop
 | .normal,S,H=> ∃m',m'<m/\γ m' S H
 |fl,S,H=>Q fl S H
def aTw{γ:Nat->Slots->St->Prop}{m:Nat}{K:Fl->Slots->St->Prop}:aXH γ m K .normal S H↔∃m',m'<m/\γ m' S H:=Iff.rfl
def aTx{γ:Nat->Slots->St->Prop}{m k:Nat}{K:Fl->Slots->St->Prop}:aXH γ m K (.exit k) S H↔K (.exit k) S H:=Iff.rfl
def aTv{γ:Nat->Slots->St->Prop}{m:Nat}{K:Fl->Slots->St->Prop}:aXH γ m K .ret S H↔K .ret S H:=Iff.rfl
def aCw{c:Code}{K:Fl->Slots->St->Prop}(γ:Nat->Slots->St->Prop)(m:Nat)(hI:γ m S H)(h: ∀m S H,γ m S H->pP P c S H (aXH γ m K)):pP P (.loop c) S H K:=by
 refine TW γ (λm S H hI=>TU (h m S H hI) ?_) m S H hI
 intro fl S' H' hq;cases fl<;>exact hq
def aMY(γ:Slots->St->Prop)(Q:Fl->Slots->St->Prop):Fl->Slots->St->Prop
 | .normal,S,H=>γ S H
 |fl,S,H=>Q fl S H
def aWi{γ:Slots->St->Prop}{K:Fl->Slots->St->Prop}:aMY γ K .normal S H↔γ S H:=Iff.rfl
def aWj{γ:Slots->St->Prop}{k:Nat}{K:Fl->Slots->St->Prop}:aMY γ K (.exit k) S H↔K (.exit k) S H:=Iff.rfl
def aWh{γ:Slots->St->Prop}{K:Fl->Slots->St->Prop}:aMY γ K .ret S H↔K .ret S H:=Iff.rfl
def aGy{cs:List Value}:cut cs 0 0=some []:=by simp[cut]
def aGw{a:Value}{cs:List Value}{off n:Nat}:cut (a::cs) (off+1) n=cut cs off n:=by simp[cut]
def aGx{a:Value}{cs:List Value}{n:Nat}:cut (a::cs) 0 (n+1)=(cut cs 0 n).map (a:: ·):=by
 simp only[cut,List.drop_zero,List.take_succ_cons,aM,cQ];by_cases h:(List.take n cs).length=n
 .simp only[h,bM,aI,aK]
 .have: ¬(List.take n cs).length+1=n+1:=by omega
  simp only[h,this,decide_false,aJ,Option.map_none]
def VX{Z:Operand->Value}{o:Oper}{x:Operand}{t:TypeId}:fV P Z o ⟨.builtin .len, #[x], #[t]⟩=De P t (Z x):=rfl
end
def CI:type_of%(
 And.intro (And.intro (And.intro (And.intro (And.intro (And.intro (And.intro (@Xw) (@QE)) (And.intro (@Xx) (@aGz))) (And.intro (And.intro (@QD) (@QF)) (And.intro (@Xy)
 (And.intro (@cC) (@bU))))) (And.intro (And.intro (And.intro (@Xv) (@a3t)) (And.intro (@a3u) (@a3s))) (And.intro (And.intro (@a4d) (@a4c)) (And.intro (@a4e) (And.intro (@aOP) (@aOO))))))
 (And.intro (And.intro (And.intro (And.intro (@Pt) (@Ps)) (And.intro (@HM) (@aWA))) (And.intro (And.intro (@aWz) (@aWy)) (And.intro (@aFu) (And.intro (@TL) (@GR)))))
 (And.intro (And.intro (And.intro (@TF) (@OW)) (And.intro (@Az) (And.intro (@OX) (@TE)))) (And.intro (And.intro (@Dm) (@AB)) (And.intro (@yP)
 (And.intro (@OU) (@yO))))))) (And.intro (And.intro (And.intro (And.intro (And.intro (@OS) (@Dl)) (And.intro (@aFr) (@aFp))) (And.intro (And.intro (@aFq) (@TG))
 (And.intro (@GI) (And.intro (@OQ) (@GL))))) (And.intro (And.intro (And.intro (@aFs) (@vA)) (And.intro (@yN) (And.intro (@Dk) (@OP)))) (And.intro
 (And.intro (@yM) (@GJ)) (And.intro (@GK) (And.intro (@TH) (@Eh)))))) (And.intro (And.intro (And.intro (And.intro (@WU) (@JY)) (And.intro (@Qp)
 (@KF))) (And.intro (And.intro (@KE) (@KD)) (And.intro (@XH) (And.intro (@AN) (@AO))))) (And.intro (And.intro (And.intro (@Dy) (@Dw)) (And.intro
 (@Dv) (And.intro (@G5) (@G4)))) (And.intro (And.intro (@G3) (@VI)) (And.intro (@VJ) (And.intro (@VK) (@VL)))))))) (And.intro (And.intro (And.intro (And.intro
 (And.intro (And.intro (@VM) (@VG)) (And.intro (@VP) (@VF))) (And.intro (And.intro (@VH) (@VO)) (And.intro (@aLs) (And.intro (@VE) (@aF8))))) (And.intro (And.intro (And.intro
 (@a3x) (@a3y)) (And.intro (@aSX) (@P9))) (And.intro (And.intro (@WT) (@not_false_eq_true)) (And.intro (@and_assoc) (And.intro (@true_and) (@and_true)))))) (And.intro (And.intro (And.intro
 (And.intro (@Nat.add_zero) (@Nat.zero_add)) (And.intro (@aD) (@Bool.false_eq_true))) (And.intro (And.intro (@bD) (@Bool.not_false)) (And.intro (@vI) (And.intro
 (@St.get_put) (@HK))))) (And.intro (And.intro (And.intro (@vW) (@sT)) (And.intro (@DU) (And.intro (@next_put) (@JG)))) (And.intro (And.intro (@Go.AI.good_row)
 (@St.good_put)) (And.intro (@bC) (And.intro (@beq_true) (@beq_false))))))) (And.intro (And.intro (And.intro (And.intro (And.intro (@Bool.not_eq_true') (@bE)) (And.intro
 (@V3) (@Pj))) (And.intro (And.intro (@Ph) (@bM)) (And.intro (@Nat.add_assoc) (And.intro (@Nat.add_left_cancel_iff) (@Nat.add_eq_left))))) (And.intro (And.intro (And.intro
 (@Nat.left_eq_add) (@aS)) (And.intro (@and_self) (And.intro (@OT) (@LL)))) (And.intro (And.intro (@LM) (@JX)) (And.intro (@aF4) (And.intro (@VA) (@Vw))))))
 (And.intro (And.intro (And.intro (And.intro (@Vy) (@Vz)) (And.intro (@Vx) (@mU))) (And.intro (And.intro (@VX) (@aTw)) (And.intro (@aTx) (And.intro (@aTv) (@aGy))))) (And.intro
 (And.intro (And.intro (@aGw) (@aGx)) (And.intro (@Nat.mul_one) (And.intro (@Nat.zero_mul) (@Nat.sub_zero)))) (And.intro (And.intro (@Int.toNat_natCast) (@Int.toNat_zero)) (And.intro (@aWi)
 (And.intro (@aWj) (@aWh))))))))):=
 And.intro (And.intro (And.intro (And.intro (And.intro (And.intro (And.intro (@Xw) (@QE)) (And.intro (@Xx) (@aGz))) (And.intro (And.intro (@QD) (@QF)) (And.intro (@Xy)
 (And.intro (@cC) (@bU))))) (And.intro (And.intro (And.intro (@Xv) (@a3t)) (And.intro (@a3u) (@a3s))) (And.intro (And.intro (@a4d) (@a4c)) (And.intro (@a4e) (And.intro (@aOP) (@aOO))))))
 (And.intro (And.intro (And.intro (And.intro (@Pt) (@Ps)) (And.intro (@HM) (@aWA))) (And.intro (And.intro (@aWz) (@aWy)) (And.intro (@aFu) (And.intro (@TL) (@GR)))))
 (And.intro (And.intro (And.intro (@TF) (@OW)) (And.intro (@Az) (And.intro (@OX) (@TE)))) (And.intro (And.intro (@Dm) (@AB)) (And.intro (@yP)
 (And.intro (@OU) (@yO))))))) (And.intro (And.intro (And.intro (And.intro (And.intro (@OS) (@Dl)) (And.intro (@aFr) (@aFp))) (And.intro (And.intro (@aFq) (@TG))
 (And.intro (@GI) (And.intro (@OQ) (@GL))))) (And.intro (And.intro (And.intro (@aFs) (@vA)) (And.intro (@yN) (And.intro (@Dk) (@OP)))) (And.intro
 (And.intro (@yM) (@GJ)) (And.intro (@GK) (And.intro (@TH) (@Eh)))))) (And.intro (And.intro (And.intro (And.intro (@WU) (@JY)) (And.intro (@Qp)
 (@KF))) (And.intro (And.intro (@KE) (@KD)) (And.intro (@XH) (And.intro (@AN) (@AO))))) (And.intro (And.intro (And.intro (@Dy) (@Dw)) (And.intro
 (@Dv) (And.intro (@G5) (@G4)))) (And.intro (And.intro (@G3) (@VI)) (And.intro (@VJ) (And.intro (@VK) (@VL)))))))) (And.intro (And.intro (And.intro (And.intro
 (And.intro (And.intro (@VM) (@VG)) (And.intro (@VP) (@VF))) (And.intro (And.intro (@VH) (@VO)) (And.intro (@aLs) (And.intro (@VE) (@aF8))))) (And.intro (And.intro (And.intro
 (@a3x) (@a3y)) (And.intro (@aSX) (@P9))) (And.intro (And.intro (@WT) (@not_false_eq_true)) (And.intro (@and_assoc) (And.intro (@true_and) (@and_true)))))) (And.intro (And.intro (And.intro
 (And.intro (@Nat.add_zero) (@Nat.zero_add)) (And.intro (@aD) (@Bool.false_eq_true))) (And.intro (And.intro (@bD) (@Bool.not_false)) (And.intro (@vI) (And.intro
 (@St.get_put) (@HK))))) (And.intro (And.intro (And.intro (@vW) (@sT)) (And.intro (@DU) (And.intro (@next_put) (@JG)))) (And.intro (And.intro (@Go.AI.good_row)
 (@St.good_put)) (And.intro (@bC) (And.intro (@beq_true) (@beq_false))))))) (And.intro (And.intro (And.intro (And.intro (And.intro (@Bool.not_eq_true') (@bE)) (And.intro
 (@V3) (@Pj))) (And.intro (And.intro (@Ph) (@bM)) (And.intro (@Nat.add_assoc) (And.intro (@Nat.add_left_cancel_iff) (@Nat.add_eq_left))))) (And.intro (And.intro (And.intro
 (@Nat.left_eq_add) (@aS)) (And.intro (@and_self) (And.intro (@OT) (@LL)))) (And.intro (And.intro (@LM) (@JX)) (And.intro (@aF4) (And.intro (@VA) (@Vw))))))
 (And.intro (And.intro (And.intro (And.intro (@Vy) (@Vz)) (And.intro (@Vx) (@mU))) (And.intro (And.intro (@VX) (@aTw)) (And.intro (@aTx) (And.intro (@aTv) (@aGy))))) (And.intro
 (And.intro (And.intro (@aGw) (@aGx)) (And.intro (@Nat.mul_one) (And.intro (@Nat.zero_mul) (@Nat.sub_zero)))) (And.intro (And.intro (@Int.toNat_natCast) (@Int.toNat_zero)) (And.intro (@aWi)
 (And.intro (@aWj) (@aWh))))))))
end Go.AI
namespace Go.AI
def QC:Value->Array Value->Option (FuncId×Array Value)
 | .func (.func g) first captured,aQs=>some (g,first++aQs++captured)
 |_,_=>none
def aGj{S:Slots}{t:Tmp}{aQs:Array Operand}{ts:Array TypeId}:gJ (ev S) ⟨.value (.tmp t),aQs,ts⟩=QC (S.at t) (aQs.map (ev S)):=by
 simp only[gJ,ev];cases S.at t<;>try rfl
 rename_i f xs ys;cases f<;>rfl
def aGi{g:FuncId}{first captured aQs:Array Value}:QC (.func (.func g) first captured) aQs=some (g,first++aQs++captured):=rfl
section
variable{P:Program}{κ:Type}[DecidableEq κ]
structure CK(P:Program)(kt:TypeId){κ:Type}[DecidableEq κ](enc:κ->Value):Prop where
 pl: ∀k,cK (enc k)=true
 ck: ∀b k,bX P (Instr.checkKey b 10000 kt (enc k))=some ()
 eq:(∃d,P.underlying kt=some d/\∀a b,Instr.sameNow d (enc a) (enc b)=some (decide (a=b)))∨
  (∃d,P.underlying kt=some d/\(∀a b,Instr.sameNow d (enc a) (enc b)=none)/\∀a b,bX P (Op.equal kt (enc a) (enc b))=some (decide (a=b)))
 sb: ∀k,Instr.sameBits 10000 (enc k) (enc k)=true
def sE(k:κ):List (κ×Value)->Nat->Option (Nat×Value)
 |[],_=>none
 |e::es,i=>if k=e.1 then some (i,e.2)else sE k es (i+1)
def zZ(k:κ):List (κ×Value)->Option Value
 |[]=>none
 |e::es=>if k=e.1 then some e.2 else zZ k es
def JM(k:κ): ∀(es:List (κ×Value)) (i:Nat),(sE k es i).map (·.2)=zZ k es:=by
 intro es;induction es with
 |nil=>intro i;rfl
 |cons e es ih=>intro i;simp only[sE,zZ];split<;>simp[ih]
def aCP(k:κ): ∀(es:List (κ×Value)) (i j:Nat) (v:Value),sE k es i=some (j,v)->i<=j/\(∃u,es[j-i]?=some (k,u))/\(∀x k',zZ k' (es.modify (j-i) λ_=>(k,x))=if k'=k then some x else zZ k' es):=by
 intro es;induction es with
 |nil=>intro i j v h;simp[sE]at h
 |cons e es ih=>
  intro i j v h;simp only[sE]at h;split at h
  .rename_i he;cases h;refine⟨aS _,⟨e.2,by simp[he]⟩,λx k'=>?_⟩
   rw[Nat.sub_self,List.modify_zero_cons];simp only[zZ];by_cases hk:k'=k
   .simp[hk]
   .rw[bH hk,bH hk,bH (by rw[<-he];exact hk)]
  .rename_i he;obtain⟨h1,⟨u,h2⟩,h3⟩:=ih (i+1) j v h;obtain⟨q,hq⟩: ∃q,j-i=q+1:=⟨j-(i+1),by omega⟩
   have fk:j-(i+1)=q:=by omega
   rw[fk]at h2 h3;refine⟨by omega,⟨u,by rw[hq];simpa using h2⟩,λx k'=>?_⟩
   rw[hq,List.modify_succ_cons];simp only[zZ,h3];by_cases hk:k'=k
   .subst hk;rw[bH he];simp
   .simp[hk]
def SD(k:κ): ∀(es:List (κ×Value)) (i:Nat),sE k es i=none->∀x k',zZ k' (es++ [(k,x)])=if k'=k then some x else zZ k' es:=by
 intro es;induction es with
 |nil=>intro i _ x k';simp[zZ]
 |cons e es ih=>
  intro i h x k';simp only[sE]at h;split at h
  .cases h
  .rename_i he;simp only[aY,zZ,ih _ h];by_cases hk:k'=k
   .subst hk;rw[bH he];simp
   .simp[hk]
def sG(enc:κ->Value)(es:List (κ×Value)):List (Value×Value):=es.map λe=>(enc e.1,e.2)
def WL{kt:TypeId}{enc:κ->Value}{d:TypeDesc}{k:κ}: ∀(es:List (κ×Value)) (i:Nat),(∀e∈es,Instr.sameNow d (enc k) (enc e.1)=some (decide (k=e.1)))->Instr.findNow d (enc k) (iK (sG enc es)) i=some (sE k es i):=by
 intro es;induction es with
 |nil=>intro i _;rfl
 |cons e es ih=>
  intro i h;have h1:=h e (by simp)
  have h2:=ih (i+1) (λx hx=>h x (by simp[hx]))
  simp only[sG,iK,aO]at h2⊢;simp only[Instr.findNow,h1,sE];by_cases hk:k=e.1
  .simp[hk]
  .simp only[hk,decide_false,bN];exact h2
def WN{kt:TypeId}{enc:κ->Value}{k:κ}: ∀(es:List (κ×Value)) (i:Nat),(∀e∈es,bX P (Op.equal kt (enc k) (enc e.1))=some (decide (k=e.1)))->bX P (Instr.findAsking kt (enc k) (iK (sG enc es)) i)=some (sE k es i):=by
 intro es;induction es with
 |nil=>intro i _;rfl
 |cons e es ih=>
  intro i h;have h1:=h e (by simp)
  have h2:=ih (i+1) (λx hx=>h x (by simp[hx]))
  simp only[sG,iK,aO]at h2⊢;simp only[Instr.findAsking,bQ,h1,aL,sE];by_cases hk:k=e.1
  .simp[hk,bS]
  .simp only[hk,decide_false,Bool.false_eq_true,bN];exact h2
def WM{kt:TypeId}{enc:κ->Value}(K:CK P kt enc)(k:κ)(es:List (κ×Value)):bX P (Instr.findKey kt (enc k) (iK (sG enc es)))=some (sE k es 0):=by
 unfold Instr.findKey;rcases K.eq with⟨d,h1,h2⟩|⟨d,h1,h2,h3⟩
 .rw[bQ,bT,h1];simp only[aL];rw[WL (kt:=kt) es 0 (λx _=>h2 k x.1)];rfl
 .rw[bQ,bT,h1];simp only[aL];cases es with
  |nil=>rfl
  |cons e es=>
   have:Instr.findNow d (enc k) (iK (sG enc (e::es))) 0=none:=by
    simp only[sG,iK,aO,Instr.findNow,h2]
   rw[this];exact WN (e::es) 0 (λx _=>h3 k x.1)
def yH{kt:TypeId}{enc:κ->Value}(K:CK P kt enc)(k:κ)(es:List (κ×Value)):zH P kt (enc k) (sG enc es)=some (sE k es 0):=by
 unfold zH;have dc:(sG enc es).all (λe=>cK e.1)=true:=by
  simp only[sG,List.all_map,bJ];intro x _;exact K.pl x.1
 rw[K.pl k,dc,K.ck false k,K.ck true k,WM K];rfl
def Qa{Z:Operand->Value}{d:Option Tmp}{t ty:TypeId}{pos:String}{af:Array Edge}{g:Option (Nat×Bool)}{id:Nat}:eZ P Z ⟨d,.makeMap t none,ty,pos,af,g⟩ id=some (.map (some id),.map []):=rfl
def HI{H:St}{id k:Nat}{es:List (Value×Value)}:(H.put id (.map es)).row k=if k=id then none else H.row k:=by
 unfold St.row;rw[St.get_put];by_cases h:k=id
 .rw[bI h,bI h]
 .rw[bH h,bH h];rfl
def VW{H τ:St}{id:Nat}{t:TypeId}{k:Value}{ok:Bool}(h:H.get id=τ.get id):jK P H t (.map (some id)) k ok=jK P τ t (.map (some id)) k ok:=by
 simp only[jK,Br,h]
def BM{N:Type}{A:Option N}{K:N->Prop}{v:N}(h:A=some v)(k:K v):sY A K:=⟨v,h,k⟩
def MP(enc:κ->Value)(H:St)(id:Nat)(g:κ->Option Value):Prop:= ∃es,H.get id=some (.map (sG enc es))/\∀k,zZ k es=g k
def MP.of{enc:κ->Value}{H τ:St}{id:Nat}{g:κ->Option Value}(h:MP enc H id g)(e:τ.get id=H.get id):MP enc τ id g:=by
 obtain⟨es,h1,h2⟩:=h;exact⟨es,e.trans h1,h2⟩
def SC(g:κ->Option Value)(k:κ)(x:Value):κ->Option Value:=λk'=>if k'=k then some x else g k'
def IU{t kt et:TypeId}{enc:κ->Value}(K:CK P kt enc)(ht:P.underlying t=some (.map kt et)){H:St}{id:Nat}{g:κ->Option Value}(h:MP enc H id g){k:κ}{v:Value}(hk:g k=some v)(ok:Bool):
    jK P H t (.map (some id)) (enc k) ok=some (bif ok then .tuple #[v,.bool true]else v):=by
 obtain⟨es,h1,h2⟩:=h;have h3:=JM k es 0;rw[h2 k,hk]at h3;simp only[jK,ht,Br,h1,yH K];cases hf:sE k es 0 with
 |none=>rw[hf]at h3;cases h3
 |some x=>rw[hf]at h3;simp only[aK,aA]at h3;simp only[h3]
def IV{t kt et:TypeId}{enc:κ->Value}(K:CK P kt enc)(ht:P.underlying t=some (.map kt et)){H:St}{id:Nat}{g:κ->Option Value}(h:MP enc H id g){k:κ}(hk:g k=none){z:Value}(hz:bX P (zeroValue et)=some z)(hp:cK z=true)(ok:Bool):
    jK P H t (.map (some id)) (enc k) ok=some (bif ok then .tuple #[z,.bool false]else z):=by
 obtain⟨es,h1,h2⟩:=h;have h3:=JM k es 0;rw[h2 k,hk]at h3;simp only[jK,ht,Br,h1,yH K];cases hf:sE k es 0 with
 |none=>simp only[hz,hp,aI]
 |some x=>rw[hf]at h3;cases h3
def R4{t kt et:TypeId}{enc:κ->Value}(K:CK P kt enc)(ht:P.underlying t=some (.map kt et)){H:St}{id:Nat}{g:κ->Option Value}(h:MP enc H id g)(k:κ)(x:Value):
    ∃es',eQ P H t (.map (some id)) (enc k) x=some (H.put id (.map es'))/\MP enc (H.put id (.map es')) id (SC g k x):=by
 obtain⟨es,h1,h2⟩:=h;simp only[eQ,ht,h1,yH K];cases hf:sE k es 0 with
 |none=>
  refine⟨_,rfl,es++ [(k,x)],?_,λk'=>?_⟩
  .rw[St.get_put,bI rfl];simp[sG]
  .rw[SD k es 0 hf x k',SC,h2 k']
 |some y=>
  obtain⟨j,v⟩:=y;obtain⟨_,⟨u,h4⟩,h5⟩:=aCP k es 0 j v hf;rw[Nat.sub_zero]at h4 h5;have h6:(((sG enc es)[j]?.map (·.1)).getD (enc k))=enc k:=by simp[sG,h4]
  simp only[h6,K.sb,aI];refine⟨_,rfl,es.modify j (λ_=>(k,x)),?_,λk'=>?_⟩
  .rw[St.get_put,bI rfl];simp only[sG];congr 2;refine List.ext_getElem? λn=>?_
   simp only[List.getElem?_modify,List.getElem?_map];by_cases hj:j=n
   .subst hj;simp[h4]
   .simp[hj]
  .rw[h5 x k',SC,h2 k']
def R5{t kt et:TypeId}{enc:κ->Value}(K:CK P kt enc)(ht:P.underlying t=some (.map kt et)){H τ:St}{id:Nat}{g:κ->Option Value}(h:MP enc τ id g)(hg:H.get id=τ.get id){k:κ}{x kv:Value}(hk:kv=enc k){R:St->Prop}
    (hR: ∀es',MP enc (H.put id (.map es')) id (SC g k x)->R (H.put id (.map es'))):sY (eQ P H t (.map (some id)) kv x) R:=by
 subst hk;obtain⟨es',h1,h2⟩:=R4 K ht (h.of hg) k x;exact⟨_,h1,hR es' h2⟩
end
end Go.AI
namespace Go.AI
def CH:type_of%(
 And.intro (And.intro (And.intro (And.intro (And.intro (@Option.getD_some.{0}) (@aK.{0,0})) (And.intro (@aL.{0,0}) (And.intro (@ne_eq.{1}) (@aA.{0}))))
 (And.intro (And.intro (@aB.{0,0}) (@exists_and_left.{1})) (And.intro (@exists_eq_left'.{1}) (And.intro (@exists_eq_left.{1}) (@List.size_toArray.{0}))))) (And.intro (And.intro (And.intro
 (@aM.{0}) (@aX.{0})) (And.intro (@bO.{1}) (And.intro (@bN.{1}) (@exists_eq'.{1})))) (And.intro (And.intro (@exists_const.{1}) (@aU.{0}))
 (And.intro (@aT.{0}) (And.intro (@List.map_toArray.{0,0}) (@aO.{0,0})))))) (And.intro (And.intro (And.intro (And.intro (@List.map_nil.{0,0}) (@beq_iff_eq.{0}))
 (And.intro (@aP.{0}) (And.intro (@List.all_nil.{0}) (@aI.{1})))) (And.intro (And.intro (@List.set_cons_zero.{0}) (@List.set_cons_succ.{0})) (And.intro (@List.drop_zero.{0})
 (And.intro (@List.drop_succ_cons.{0}) (@List.take_succ_cons.{0}))))) (And.intro (And.intro (And.intro (@List.take_zero.{0}) (@List.getElem?_toArray.{0})) (And.intro (@Option.map_none.{0,0}) (And.intro
 (@Option.getD_none.{0}) (@aGj)))) (And.intro (And.intro (@aGi) (And.intro (@List.append_toArray.{0}) (@aW.{0}))) (And.intro (@aY.{0}) (And.intro (@Qa)
 (@HI))))))):=
 And.intro (And.intro (And.intro (And.intro (And.intro (@Option.getD_some.{0}) (@aK.{0,0})) (And.intro (@aL.{0,0}) (And.intro (@ne_eq.{1}) (@aA.{0}))))
 (And.intro (And.intro (@aB.{0,0}) (@exists_and_left.{1})) (And.intro (@exists_eq_left'.{1}) (And.intro (@exists_eq_left.{1}) (@List.size_toArray.{0}))))) (And.intro (And.intro (And.intro
 (@aM.{0}) (@aX.{0})) (And.intro (@bO.{1}) (And.intro (@bN.{1}) (@exists_eq'.{1})))) (And.intro (And.intro (@exists_const.{1}) (@aU.{0}))
 (And.intro (@aT.{0}) (And.intro (@List.map_toArray.{0,0}) (@aO.{0,0})))))) (And.intro (And.intro (And.intro (And.intro (@List.map_nil.{0,0}) (@beq_iff_eq.{0}))
 (And.intro (@aP.{0}) (And.intro (@List.all_nil.{0}) (@aI.{1})))) (And.intro (And.intro (@List.set_cons_zero.{0}) (@List.set_cons_succ.{0})) (And.intro (@List.drop_zero.{0})
 (And.intro (@List.drop_succ_cons.{0}) (@List.take_succ_cons.{0}))))) (And.intro (And.intro (And.intro (@List.take_zero.{0}) (@List.getElem?_toArray.{0})) (And.intro (@Option.map_none.{0,0}) (And.intro
 (@Option.getD_none.{0}) (@aGj)))) (And.intro (And.intro (@aGi) (And.intro (@List.append_toArray.{0}) (@aW.{0}))) (And.intro (@aY.{0}) (And.intro (@Qa)
 (@HI))))))
end Go.AI
