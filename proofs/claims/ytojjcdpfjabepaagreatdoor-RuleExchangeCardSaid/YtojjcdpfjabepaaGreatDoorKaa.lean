import Derived.Test.YtojjcdpfjabepaaGreatDoorKx
set_option linter.unusedVariables false
set_option linter.unusedSimpArgs false
set_option linter.constructorNameAsVariable false
namespace Go.TV
open Go.AI Go.PI Go.Proofs
inductive It where
 |op
 |cl
 |wd (nu:Bool) (w:List UInt8)
def It.by':It→List UInt8
 | .op=>[40]
 | .cl=>[41]
 | .wd _ w=>w
def It.tk(p:Nat):It→G.K
 | .op=>⟨1,(p:Int),[],[],[]⟩
 | .cl=>⟨2,(p:Int),[],[],[]⟩
 | .wd nu w=>wtk nu (p:Int) w
abbrev Its:=List (List UInt8×It)
def aAG:Its→List UInt8→List UInt8
 |[],tl=>tl
 |(b,t)::l,tl=>b++(t.by'++aAG l tl)
def tks:Nat→Its→List G.K
 |_,[]=>[]
 |p,(b,t)::l=>t.tk (p+b.length)::tks (p+b.length+t.by'.length) l
def isN:List UInt8→Bool
 |[48]=>true
 |[49]=>true
 |[45,49]=>true
 |_=>false
def okW(nu:Bool):List UInt8→Bool
 |[]=>false
 |x::l=>(x::l).all (fun x=>csI (u8 x))&& !decide (u8 x=35)&&(bif nu then isN (x::l)else !decide (u8 x=45)&&(decide (u8 x<48)||decide (57<u8 x))&& !decide (x::l=[46])&&Nat.ble (x::l).length 40)
def stp:List UInt8→Bool
 |[]=>true
 |y::_=> !csI (u8 y)&& !decide (u8 y=58)
def okT(r:List UInt8):It→Bool
 | .wd nu w=>okW nu w&&stp r
 |_=>true
def okL:Its→List UInt8→Bool
 |[],tl=>tl.all fun x=>blI (u8 x)
 |(b,t)::l,tl=>(b.all fun x=>blI (u8 x))&&okT (aAG l tl) t&&okL l tl
theorem stp_h{r:List UInt8}(h:stp r=true): ∀y,r.head?=some y→csI (u8 y)=false∧u8 y≠58:=by
 intro y hy;cases r with
 |nil=>cases hy
 |cons z r=>
  simp only[List.head?_cons,ojE]at hy;subst hy;simpa [stp]using h
theorem bl_cs{x:Int}(h:csI x=true):blI x=false:=by
 simp only[csI,bjE,djE]at h;simp only[blI,Bool.or_eq_false_iff,dfN];omega
theorem okT_h{t:It}{r:List UInt8}(h:okT r t=true): ∀y,(t.by'++r).head?=some y→blI (u8 y)=false∧u8 y≠59∧u8 y≠35:=by
 intro y hy;cases t with
 |op=>simp[It.by']at hy;subst hy;decide
 |cl=>simp[It.by']at hy;subst hy;decide
 |wd nu w=>
  cases w with
  |nil=>simp[okT,okW]at h
  |cons x l=>
   simp[It.by']at hy;subst hy
   simp only[okT,okW,bjE,alC,Bool.not_eq_true',dfN]at h;exact⟨bl_cs h.1.1.1.1,(aH6 h.1.1.1.1).2.2.2.2.1,h.1.1.2⟩
theorem One_ok{s r:List UInt8}{t:It}{k L n:Nat}(hN: ∀w,isN w=true→NumW (CTp L (n+2)) w)(hb:s.length<1000000000)(hL:s.length<L)(h:s.drop k=t.by'++r)(ht:okT r t=true):
    CTp L (n+3) 128 [yT s,yI (k:Int)]=some [yR 22 (t.tk k),yI ((k+t.by'.length:Nat):Int),yR 20 ⟨0,0⟩]:=by
 cases t with
 |op=>exact On_op hb h
 |cl=>exact On_cl hb h
 |wd nu w=>
  cases w with
  |nil=>simp[okT,okW]at ht
  |cons x l=>
   simp only[okT,okW,bjE,Bool.not_eq_true',dfN]at ht;obtain⟨⟨⟨h1,h2⟩,h3⟩,h4⟩:=ht;refine On_w hb hL h (by simp) (fun y hy=>List.all_eq_true.1 h1 y hy) (stp_h h4) ?_
   cases nu with
   |true=>exact .inl ⟨rfl,hN _ h3⟩
   |false=>
    simp only[cdf,bjE,Bool.or_eq_true,Bool.not_eq_true',dfN,djE]at h3;exact .inr ⟨rfl,x,l,rfl,h3.1.1.1,h3.1.1.2,h3.1.2,Nat.le_of_ble_eq_true h3.2⟩
theorem Tk_loop{s tl:List UInt8}{L n:Nat}{er:G.X}(hN: ∀w,isN w=true→NumW (CTp L (n+2)) w)(hb:s.length<6001)(hL:s.length<L):
    ∀(l:Its) (k m:Nat) (acc:List G.K),s.drop k=aAG l tl→k≤s.length→okL l tl=true→l.length<m→acc.length≤k→rZ (CTp L (n+3)) L m (k:Int) s acc er=some [yS 22 (acc++tks k l++ [⟨0,(s.length:Int),[],[],[]⟩]),yR 20 ⟨0,0⟩]:=by
 intro l;induction l with
 |nil=>
  intro k m acc h1 h2 h3 h4 h5;obtain⟨m,rfl⟩: ∃m',m=m'+1:=⟨m-1,by simp at h4;omega⟩
  have hl:=congrArg List.length h1;simp[aAG]at hl;have hsk:=Sk_ok (s:=s) (w:=tl) (r:=[]) (k:=k) (L:=L) (n:=n+1) (by omega) hL (by simpa [aAG]using h1) (fun x hx=>List.all_eq_true.1 h3 x hx) (by simp)
  have e1:((k+tl.length:Nat):Int)=(s.length:Int):=by omega
  rw[rZ,aEV,hsk,aDx];simp only[bnT,aF];rw[e1];simp only[Int.le_refl,decide_true,aJ];have e2:Nat.ble ((acc.length+([⟨0,(s.length:Int),[],[],[]⟩]:List G.K).length)*64) 1073741824=true:=by
   rw[Nat.ble_eq];simp only[lcS,lnN];omega
  rw[e2,aFr,show tks k []=[] from rfl,apN];rfl
 |cons bt l ih=>
  obtain⟨b,t⟩:=bt;intro k m acc h1 h2 h3 h4 h5;obtain⟨m,rfl⟩: ∃m',m=m'+1:=⟨m-1,by simp at h4;omega⟩
  simp only[okL,bjE]at h3;obtain⟨⟨h6,h7⟩,h8⟩:=h3;have hl:=congrArg List.length h1;simp[aAG]at hl;have ht:1≤t.by'.length:=by
   cases t with
   |op=>exact nlR _
   |cl=>exact nlR _
   |wd nu w=>cases w with
    |nil=>simp[okT,okW]at h7
    |cons x l=>simp[It.by']
  have hsk:=Sk_ok (s:=s) (w:=b) (r:=t.by'++aAG l tl) (k:=k) (L:=L) (n:=n+1) (by omega) hL h1 (fun x hx=>List.all_eq_true.1 h6 x hx) (okT_h h7)
  have hd:s.drop (k+b.length)=t.by'++aAG l tl:=by rw[←List.drop_drop,h1];simp[aAG]
  have ho:=One_ok (n:=n) hN (by omega) hL hd h7
  have hd2:s.drop (k+b.length+t.by'.length)=aAG l tl:=by rw[←List.drop_drop,hd];simp
  rw[rZ,aEV,hsk,aDx];simp only[bnT,aF];have e1:decide ((s.length:Int)≤((k+b.length:Nat):Int))=false:=by simp only[dfN];omega
  rw[e1,aF,ho,obL_on];simp only[decide_true,bnT,aF];have e2:Nat.ble ((acc.length+([t.tk (k+b.length)]:List G.K).length)*64) 1073741824=true:=by
   rw[Nat.ble_eq];simp only[lcS,lnN];omega
  rw[e2,aFr,ih (k+b.length+t.by'.length) m _ hd2 (by omega) h8 (by simp at h4;omega) (by simp;omega)]
  simp[tks]
theorem Tok_ok{l:Its}{tl:List UInt8}{L n:Nat}(hN: ∀w,isN w=true→NumW (CTp L (n+2)) w)(hs:(aAG l tl).length<6001)(hL:(aAG l tl).length<L)(hl:l.length<L)(ho:okL l tl=true):
    CTp L (n+4) 105 [yT (aAG l tl)]=some [yS 22 (tks 0 l++ [⟨0,((aAG l tl).length:Int),[],[],[]⟩]),yR 20 ⟨0,0⟩]:=by
 show CTp L (n+3+1) 105 _=_;have e1:decide ((6000:Int)<((aAG l tl).length:Int))=false:=by simp only[dfN];omega
 rw[c105,F105,aJZ,e1,aF];exact Tk_loop (tl:=tl) (er:=⟨0,0⟩) hN hs hL l 0 L [] rfl (Nat.zero_le _) ho hl (nlR _)
end Go.TV
namespace Go.TV
open Go.AI Go.PI Go.Proofs
set_option maxRecDepth 20000
def sG:List UInt8:=[108,105,115,112]
def oSy(s:List UInt8):G.O:=⟨2,[],[],⟨sG,s⟩,[],[]⟩
def oNu(s:List UInt8):G.O:=⟨1,s,[49],⟨[],[]⟩,[],[]⟩
def ol:List G.O→G.O
 |[]=>oSy [110,105,108]
 |x::l=>⟨4,[],[],⟨[],[]⟩,[],[x,ol l]⟩
def tkP(p:Int):G.K:=⟨1,p,[],[],[]⟩
def tkC(p:Int):G.K:=⟨2,p,[],[],[]⟩
def y0a:List UInt8:=[43]
def w0a:G.O:=oSy y0a
def y1a:List UInt8:=[45,49]
def w1a:G.O:=oNu y1a
def y2a:List UInt8:=[48]
def w2a:G.O:=oNu y2a
def y3a:List UInt8:=[49]
def w3a:G.O:=oNu y3a
def y4a:List UInt8:=[60]
def w4a:G.O:=oSy y4a
def y5a:List UInt8:=[97]
def w5a:G.O:=oSy y5a
def y6a:List UInt8:=[97,110,100]
def w6a:G.O:=oSy y6a
def y7a:List UInt8:=[97,112,112,101,110,100]
def w7a:G.O:=oSy y7a
def y8a:List UInt8:=[97,115,115,111,99,45,101,113,117,97,108]
def w8a:G.O:=oSy y8a
def y9a:List UInt8:=[97,116,111,109]
def w9a:G.O:=oSy y9a
def y10a:List UInt8:=[98,105,110,97,114,121,45,97,112,112,101,110,100]
def w10a:G.O:=oSy y10a
def y11a:List UInt8:=[98,111,111,108,101,97,110,112]
def w11a:G.O:=oSy y11a
def y12a:List UInt8:=[99,97,114]
def aCJ:G.O:=oSy y12a
def y13a:List UInt8:=[99,100,114]
def aFQ:G.O:=oSy y13a
def y14a:List UInt8:=[99,111,110,100]
def w14a:G.O:=oSy y14a
def y15a:List UInt8:=[99,111,110,115]
def w15a:G.O:=oSy y15a
def y16a:List UInt8:=[99,111,110,115,112]
def wW:G.O:=oSy y16a
def y17a:List UInt8:=[99,111,117,110,116]
def aFP:G.O:=oSy y17a
def y18a:List UInt8:=[100,101,102,117,110]
def mS:G.O:=oSy y18a
def y19a:List UInt8:=[101]
def w19a:G.O:=oSy y19a
def y20a:List UInt8:=[101,110,100,112]
def w20a:G.O:=oSy y20a
def y21a:List UInt8:=[101,113,117,97,108]
def w21a:G.O:=oSy y21a
def y22a:List UInt8:=[102,105,120]
def w22a:G.O:=oSy y22a
def y23a:List UInt8:=[103,117,97,114,100]
def w23a:G.O:=oSy y23a
def y24a:List UInt8:=[105,102]
def mW:G.O:=oSy y24a
def y25a:List UInt8:=[105,102,102]
def w25a:G.O:=oSy y25a
def y26a:List UInt8:=[105,102,105,120]
def w26a:G.O:=oSy y26a
def y27a:List UInt8:=[105,109,112,108,105,101,115]
def w27a:G.O:=oSy y27a
def y28a:List UInt8:=[105,110,116,101,103,101,114,112]
def w28a:G.O:=oSy y28a
def y29a:List UInt8:=[107]
def w29a:G.O:=oSy y29a
def y30a:List UInt8:=[108,101,110]
def w30a:G.O:=oSy y30a
def y31a:List UInt8:=[108,105,115,116]
def w31a:G.O:=oSy y31a
def y32a:List UInt8:=[109,101,97,115,117,114,101]
def aF5:G.O:=oSy y32a
def y33a:List UInt8:=[109,101,109,98,101,114,45,101,113,117,97,108]
def w33a:G.O:=oSy y33a
def y34a:List UInt8:=[110]
def w34a:G.O:=oSy y34a
def y35a:List UInt8:=[110,97,116,112]
def w35a:G.O:=oSy y35a
def y36a:List UInt8:=[110,102,105,120]
def w36a:G.O:=oSy y36a
def y37a:List UInt8:=[110,105,108]
def aEY:G.O:=oSy y37a
def y38a:List UInt8:=[110,111,116]
def w38a:G.O:=oSy y38a
def y39a:List UInt8:=[110,116,104]
def w39a:G.O:=oSy y39a
def y40a:List UInt8:=[111,45,102,105,110,112]
def w40a:G.O:=oSy y40a
def y41a:List UInt8:=[111,45,102,105,114,115,116,45,99,111,101,102,102,105,99,105,101,110,116]
def w41a:G.O:=oSy y41a
def y42a:List UInt8:=[111,45,102,105,114,115,116,45,101,120,112,111,110,101,110,116]
def w42a:G.O:=oSy y42a
def y43a:List UInt8:=[111,45,112]
def w43a:G.O:=oSy y43a
def y44a:List UInt8:=[111,45,114,101,115,116]
def w44a:G.O:=oSy y44a
def y45a:List UInt8:=[111,60]
def w45a:G.O:=oSy y45a
def y46a:List UInt8:=[111,114]
def w46a:G.O:=oSy y46a
def y47a:List UInt8:=[112]
def w47a:G.O:=oSy y47a
def y48a:List UInt8:=[112,111,115,112]
def w48a:G.O:=oSy y48a
def y49a:List UInt8:=[113]
def w49a:G.O:=oSy y49a
def y50a:List UInt8:=[114,97,116,105,111,110,97,108,112]
def w50a:G.O:=oSy y50a
def y51a:List UInt8:=[114,101,118]
def w51a:G.O:=oSy y51a
def y52a:List UInt8:=[115,121,110,116,97,120,112]
def w52a:G.O:=oSy y52a
def y53a:List UInt8:=[116]
def aFO:G.O:=oSy y53a
def y54a:List UInt8:=[116,114,117,101,45,108,105,115,116,112]
def w54a:G.O:=oSy y54a
def y55a:List UInt8:=[117,112,100,97,116,101,45,110,116,104]
def w55a:G.O:=oSy y55a
def y56a:List UInt8:=[118]
def w56a:G.O:=oSy y56a
def oJ:List UInt8:=[120]
def bJ:G.O:=oSy oJ
def y58a:List UInt8:=[121]
def aFN:G.O:=oSy y58a
def y59a:List UInt8:=[122,112]
def w59a:G.O:=oSy y59a
def wdL:List (List UInt8):=[y0a,y1a,y2a,y3a,y4a,y5a,y6a,y7a,y8a,y9a,y10a,y11a,y12a,y13a,y14a,y15a,y16a,y17a,y18a,y19a,y20a,y21a,y22a,y23a,y24a,y25a,y26a,y27a,y28a,y29a,y30a,y31a,y32a,y33a,y34a,y35a,y36a,y37a,y38a,y39a,y40a,y41a,y42a,y43a,y44a,y45a,y46a,y47a,y48a,y49a,y50a,y51a,y52a,y53a,y54a,y55a,y56a,oJ,y58a,y59a]
def tkM:Nat→Nat→Nat→List G.K
 |0,_,_=>[]
 |f+1,p,n=>bif Nat.beq (n%64) 0 then tkP ((p+n/64%64:Nat):Int)::tkM f (p+n/64%64+1) (n/4096)
  else bif Nat.beq (n%64) 1 then tkC ((p+n/64%64:Nat):Int)::tkM f (p+n/64%64+1) (n/4096)
  else match wdL[n%64-2]? with
   |some w=>wtk (isN w) ((p+n/64%64:Nat):Int) w::tkM f (p+n/64%64+w.length) (n/4096)
   |none=>[]
def toksL:List G.K:=tkM 942 0 0x100100100100107b00f04007a00106404300204003904000107b00e04001104000100107b00f04007a01104000106403d04001a0c000100106402604002204000100100107b03804000106402504000804001904000107b07a02404007901404000100100100107b00f04000106404300204002904000107b00e04000106403d04001a0c000100106402604002204000100100107b03804000106402504000804001904000107b02404006901404000100100100100104700f04005f00a04003724000100104700e04000100100100104700e04000e04005f01704000100104700e0400120400080002400010670010010470120400280000400100c000100104701304002204000104701f04004a01404000100106700100100107b00f04005502304007b00100107b00e04005501704001a04000107b01204001a0c000100107b01304002204000100107b03804001904000107b01504006301404000100106700100100107b00e04002104000100107b00f04003504000904000107b01204001a0c000100107b01304002204000103b04007501404000100107c00100107c00107b00f04000c04000107b00e04001104000107b01204001a0c000100107b01304002204000100107b03804001904000107c03b04004c01404000100100106707b01704000100107b00f04003804000107b01204001a04000100107b01304002204000103b04007801404000100104400100100107b00f04002004004500204000107b01204001a04000100107b01304002204000103b04006001404000100100100100107b02c04000100107b02e04002c04002f28000100107b02e04002d28000100107b02b04003228000100104400107b02c04001704002828000100107b02c04002d28000100107b00e04001204000814000107b0251c000107b02a04001a0c000100107b01304002204000103b04006d01404000100100100100107c02e04000107b02e04002f04003724000100100107c02b04000107b02b04000628000100100107c02b04000107b02b04001704002800024000100100107c02c04000107b02c04002f28000100100107c02c04000107b02c04001704002800024000106700107c02a00024000100100107c07b00604007700107c01204001a04000107b02a0000400100c000100107b01304002204000107c03b04006f01404000100104400107b00f04000107b01204001a04000103b04006e01404000100107b00100107b00e04000f04000107b01204001a04000103b04006b01404000100104400100107b00e04000e04000107b01204001a04000103b04006c01404000100100107b01204002804000103b04006a01404000100104400100100107b00f04001304000100107b00e04001304004500204000107b01204001a04000100107b01304002204000103b04005301404000100107700100107b04400604002804000107b01e04001a04000100107b02504001904000103b04007d01404000100104407b00107b02504001a04000103b04006601404000100106700107b04400604000107b01e04001a04000103b04007201404000100106700100104407b00604002804000107b01e04001a04000103b04006501404000100104407b00107b01e04001a04000103b04005c01404000100104407b00107b03404001a04000103b04005801404000100100107b01204002804000100100106707b01704000107b01204003004001904000103b04005601404000100100107b01204002804000103b04004b01404000107700103b04007601404000100100106707b01704007700107707b01704001a04000103b04004d01404000100100107706707301a04000106707707301a04007101a04000107303104005b01404000100107700106707707301a04007101a04000107303104005d01404000100107706707101a040001031040068014000++ [⟨0,2580,[],[],[]⟩]
def o0a:G.O:=ol [mS,w38a,ol [w47a],ol [mW,w47a,aEY,aFO]]
def o1a:G.O:=ol [mS,w27a,ol [w47a,w49a],ol [mW,w47a,ol [mW,w49a,aFO,aEY],aFO]]
def o2a:G.O:=ol [mS,w25a,ol [w47a,w49a],ol [mW,w47a,ol [mW,w49a,aFO,aEY],ol [mW,w49a,aEY,aFO]]]
def o3a:G.O:=ol [mS,w11a,ol [bJ],ol [mW,ol [w21a,bJ,aFO],aFO,ol [w21a,bJ,aEY]]]
def o4a:G.O:=ol [mS,w52a,ol [bJ],aFO]
def o5a:G.O:=ol [mS,w9a,ol [bJ],ol [w38a,ol [wW,bJ]]]
def o6a:G.O:=ol [mS,w20a,ol [bJ],ol [w23a,ol [w46a,ol [wW,bJ],ol [w21a,bJ,aEY]]],ol [w38a,ol [wW,bJ]]]
def o7a:G.O:=ol [mS,w22a,ol [bJ],ol [mW,ol [w50a,bJ],bJ,w2a]]
def o8a:G.O:=ol [mS,w26a,ol [bJ],ol [mW,ol [w28a,bJ],bJ,w2a]]
def o9a:G.O:=ol [mS,w35a,ol [bJ],ol [mW,ol [w28a,bJ],ol [w38a,ol [w4a,bJ,w2a]],aEY]]
def o10a:G.O:=ol [mS,w48a,ol [bJ],ol [mW,ol [w28a,bJ],ol [w4a,w2a,bJ],aEY]]
def o11a:G.O:=ol [mS,w36a,ol [bJ],ol [mW,ol [w35a,bJ],bJ,w2a]]
def o12a:G.O:=ol [mS,w59a,ol [bJ],ol [w23a,ol [w35a,bJ]],ol [mW,ol [w28a,bJ],ol [w38a,ol [w4a,w2a,bJ]],aFO]]
def o13a:G.O:=ol [mS,aFP,ol [bJ],ol [aF5,ol [aFP,bJ]],ol [mW,ol [wW,bJ],ol [w0a,w3a,ol [aFP,ol [aCJ,bJ]],ol [aFP,ol [aFQ,bJ]]],w2a]]
def o14a:G.O:=ol [mS,w40a,ol [bJ],ol [w38a,ol [wW,bJ]]]
def o15a:G.O:=ol [mS,w42a,ol [bJ],ol [mW,ol [wW,bJ],ol [aCJ,ol [aCJ,bJ]],w2a]]
def o16a:G.O:=ol [mS,w41a,ol [bJ],ol [mW,ol [wW,bJ],ol [aFQ,ol [aCJ,bJ]],bJ]]
def o17a:G.O:=ol [mS,w44a,ol [bJ],ol [mW,ol [wW,bJ],ol [aFQ,bJ],w2a]]
def o18a:G.O:=ol [mS,w45a,ol [bJ,aFN],ol [aF5,ol [aFP,bJ]],ol [w14a,ol [ol [w40a,bJ],ol [mW,ol [wW,aFN],aFO,ol [w4a,bJ,aFN]]],ol [ol [w40a,aFN],aEY],ol [ol [w38a,ol [w21a,ol [w42a,bJ],ol [w42a,aFN]]],ol [w45a,ol [w42a,bJ],ol [w42a,aFN]]],ol [ol [w38a,ol [w21a,ol [w41a,bJ],ol [w41a,aFN]]],ol [w4a,ol [w41a,bJ],ol [w41a,aFN]]],ol [aFO,ol [w45a,ol [w44a,bJ],ol [w44a,aFN]]]]]
def o19a:G.O:=ol [mS,w43a,ol [bJ],ol [aF5,ol [aFP,bJ]],ol [mW,ol [w40a,bJ],ol [w35a,bJ],ol [w6a,ol [wW,ol [aCJ,bJ]],ol [w43a,ol [w42a,bJ]],ol [w38a,ol [w21a,ol [w42a,bJ],w2a]],ol [w48a,ol [w41a,bJ]],ol [w43a,ol [w44a,bJ]],ol [w45a,ol [w42a,ol [w44a,bJ]],ol [w42a,bJ]]]]]
def o20a:G.O:=ol [mS,w30a,ol [bJ],ol [aF5,ol [aFP,bJ]],ol [mW,ol [wW,bJ],ol [w0a,w3a,ol [w30a,ol [aFQ,bJ]]],w2a]]
def o21a:G.O:=ol [mS,w54a,ol [bJ],ol [aF5,ol [aFP,bJ]],ol [mW,ol [wW,bJ],ol [w54a,ol [aFQ,bJ]],ol [w21a,bJ,aEY]]]
def o22a:G.O:=ol [mS,w10a,ol [bJ,aFN],ol [w23a,ol [w54a,bJ]],ol [aF5,ol [aFP,bJ]],ol [mW,ol [wW,bJ],ol [w15a,ol [aCJ,bJ],ol [w10a,ol [aFQ,bJ],aFN]],aFN]]
def o23a:G.O:=ol [mS,w51a,ol [bJ],ol [aF5,ol [aFP,bJ]],ol [mW,ol [wW,bJ],ol [w7a,ol [w51a,ol [aFQ,bJ]],ol [w31a,ol [aCJ,bJ]]],aEY]]
def o24a:G.O:=ol [mS,w33a,ol [w19a,bJ],ol [w23a,ol [w54a,bJ]],ol [aF5,ol [aFP,bJ]],ol [mW,ol [wW,bJ],ol [mW,ol [w21a,w19a,ol [aCJ,bJ]],bJ,ol [w33a,w19a,ol [aFQ,bJ]]],aEY]]
def o25a:G.O:=ol [mS,w8a,ol [w29a,w5a],ol [aF5,ol [aFP,w5a]],ol [w14a,ol [ol [w38a,ol [wW,w5a]],aEY],ol [ol [w6a,ol [wW,ol [aCJ,w5a]],ol [w21a,w29a,ol [aCJ,ol [aCJ,w5a]]]],ol [aCJ,w5a]],ol [aFO,ol [w8a,w29a,ol [aFQ,w5a]]]]]
def o26a:G.O:=ol [mS,w39a,ol [w34a,bJ],ol [w23a,ol [w6a,ol [w35a,w34a],ol [w54a,bJ]]],ol [aF5,ol [w36a,w34a]],ol [mW,ol [w59a,w34a],ol [aCJ,bJ],ol [w39a,ol [w0a,w1a,w34a],ol [aFQ,bJ]]]]
def o27a:G.O:=ol [mS,w55a,ol [w34a,w56a,bJ],ol [w23a,ol [w6a,ol [w35a,w34a],ol [w54a,bJ]]],ol [aF5,ol [w36a,w34a]],ol [mW,ol [w59a,w34a],ol [w15a,w56a,ol [aFQ,bJ]],ol [w15a,ol [aCJ,bJ],ol [w55a,ol [w0a,w1a,w34a],w56a,ol [aFQ,bJ]]]]]
def oAll:List G.O:=[o0a,o1a,o2a,o3a,o4a,o5a,o6a,o7a,o8a,o9a,o10a,o11a,o12a,o13a,o14a,o15a,o16a,o17a,o18a,o19a,o20a,o21a,o22a,o23a,o24a,o25a,o26a,o27a]
def spW:List UInt8→List UInt8×List UInt8
 |[]=>([],[])
 |x::l=>bif csI (u8 x)then(x::(spW l).1,(spW l).2)else([],x::l)
def spB:List UInt8→List UInt8×List UInt8
 |[]=>([],[])
 |x::l=>bif blI (u8 x)then(x::(spB l).1,(spB l).2)else([],x::l)
def lexI:Nat→List UInt8→Its×List UInt8
 |0,l=>([],l)
 |n+1,l=>match spB l with
  |(b,[])=>([],b)
  |(b,x::r)=>bif Nat.beq x.toNat 40 then((b,.op)::(lexI n r).1,(lexI n r).2)else bif Nat.beq x.toNat 41 then((b,.cl)::(lexI n r).1,(lexI n r).2)else
   match spW (x::r)with
   |(w,r')=>((b,.wd (isN w) w)::(lexI n r').1,(lexI n r').2)
end Go.TV
namespace Go.TV
open Go.AI Go.PI Go.Proofs
set_option maxRecDepth 20000
def zTe:G.T:=⟨0,⟨[],[]⟩,⟨0,[],[],⟨[],[]⟩,[],[]⟩,[]⟩
abbrev T3:=G.T×G.T×G.T
abbrev Sk:=List UInt8×List (List UInt8)
def enE(s:Sk)(x:T3):G.E:=G.E.mk 3 ⟨sG,s.1⟩ ⟨[],[]⟩ ⟨⟨[],[]⟩,[],false,zTe⟩ [⟨⟨sG,s.1⟩,s.2.map (fun p=>⟨sG,p⟩),1,x.1,x.2.1,x.2.2⟩] [] [] [] ⟨⟨[],[]⟩,[]⟩ [] [] [] [] 0
def enB(s:Sk):G.E→Bool
 |⟨k,n,⟨[],[]⟩,⟨⟨[],[]⟩,[],false,⟨bk,⟨[],[]⟩,⟨ok,[],[],⟨[],[]⟩,[],[]⟩,[]⟩⟩,[⟨fn,ps,cl,_,_,_⟩],[],[],[],⟨⟨[],[]⟩,[]⟩,[],[],[],[],h⟩=>decide (k=3)&&decide (n=⟨sG,s.1⟩)&&decide (bk=0)&&decide (ok=0)&&decide (fn=⟨sG,s.1⟩)&&decide (cl=1)&&decide (h=0)&&decide (ps=s.2.map (fun p=>⟨sG,p⟩))
 |_=>false
theorem enB_ok{s:Sk}{e:G.E}(h:enB s e=true): ∃x,e=enE s x:=by
 unfold enB at h;split at h
 ·simp only[bjE,djE]at h;obtain⟨⟨⟨⟨⟨⟨⟨rfl,rfl⟩,rfl⟩,rfl⟩,rfl⟩,rfl⟩,rfl⟩,rfl⟩:=h;exact⟨(_,_,_),rfl⟩
 ·cases h
def enR(s:Sk)(r:Rt):Bool:=match r with|some [⟨.rc 16,e⟩]=>enB s e|_=>false
theorem enR_ok{s:Sk}{r:Rt}(h:enR s r=true): ∃x,r=some [yR 16 (enE s x)]:=by
 unfold enR at h;split at h
 ·rename_i e;obtain⟨x,hx⟩:=enB_ok h;exact⟨x,by rw[hx]⟩
 ·cases h
def skL:List Sk:=[(y38a,[y47a]),(y27a,[y47a,y49a]),(y25a,[y47a,y49a]),(y11a,[oJ]),(y52a,[oJ]),(y9a,[oJ]),(y20a,[oJ]),(y22a,[oJ]),(y26a,[oJ]),(y35a,[oJ]),(y48a,[oJ]),(y36a,[oJ]),(y59a,[oJ]),(y17a,[oJ]),(y40a,[oJ]),(y42a,[oJ]),(y41a,[oJ]),(y44a,[oJ]),(y45a,[oJ,y58a]),(y43a,[oJ]),(y30a,[oJ]),(y54a,[oJ]),(y10a,[oJ,y58a]),(y51a,[oJ]),(y33a,[y19a,oJ]),(y8a,[y29a,y5a]),(y39a,[y34a,oJ]),(y55a,[y34a,y56a,oJ])]
def skA(k:Nat):Sk:=(skL[k]?).getD ([],[])
def eF(X:Nat→T3):List Sk→Nat→List G.E
 |[],_=>[]
 |s::l,j=>enE s (X j)::eF X l (j+1)
def eL(X:Nat→T3)(k:Nat):List G.E:=eF X (skL.take k) 0
def Kd:TC0:=fun i d=>bif Nat.beq i 41 then(match d with|[]=>some [⟨.sl (.rc 2),oAll⟩]|_=>none)else none
noncomputable def cD(L M k:Nat):TC0:=evB Kd (upT (L+7000) (M+99)) (L+7000) k
noncomputable def pE(L M k:Nat)(X:Nat→T3)(o:G.O):Bool:=enR (skA k) (cD L M 58 42 [yS 16 (eL X k),yR 2 o])
end Go.TV
