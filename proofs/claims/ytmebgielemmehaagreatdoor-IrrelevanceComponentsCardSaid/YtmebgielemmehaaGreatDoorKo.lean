import Derived.Test.YtmebgielemmehaaGreatDoorKn
set_option linter.unusedVariables false
set_option linter.unusedSimpArgs false
set_option linter.constructorNameAsVariable false
set_option linter.defProp false
namespace Go.TV
open Go.AI Go.PI Go.Proofs
set_option maxRecDepth 20000
def nT:List Ty:=[i6,.bool,.str,(.rc 2),(.sl i6),(.rc 3),(zS 3),(zS 2),(zS 1),(.rc 1),(zS 15),(.rc 18),(.rc 0),(.rc 19),(zS 4),(.rc 21),(.sl (.sl i6)),(.rc 20),(.sl (.int .u8)),(.rc 5),(zS 17),(.int .u8),(.sl .str),(.rc 15),(.rc 7),(zS 6),(zS 5),(.rc 6),(.int .u32),(zS 16),(zS 22),(.rc 23),(.int .u64),(.sl (zS 5)),(zS 19)]
def nz:Nat->Nat->List Nat
 |0,_=>[]
 |f+1,n=>bif Nat.blt (n%16) 14 then(n%16)::nz f (n/16)else bif Nat.beq (n%16) 14 then(n/16%256+14)::nz f (n/4096)else(n/16%4096+270)::nz f (n/65536)
def nA{N:Type}(d:N):List N->Nat->N
 |[],_=>d
 |x::_,0=>x
 |_::l,k+1=>nA d l k
abbrev nP(N:Type):=List Nat->N×List Nat
def nK:nP Nat
 |[]=>(0,[])
 |x::l=>(x,l)
def nB:nP Bool:=λl=>match nK l with|(k,l)=>(Nat.beq k 1,l)
def nR{N:Type}(p:nP N):Nat->nP (List N)
 |0,l=>([],l)
 |k+1,l=>match p l with|(x,l)=>match nR p k l with|(r,l)=>(x::r,l)
def nL{N:Type}(p:nP N):nP (List N):=λl=>match nK l with|(k,l)=>nR p k l
def nM{N W:Type}(f:N->W)(p:nP N):nP W:=λl=>match p l with|(x,l)=>(f x,l)
def nQ{N W:Type}(p:nP N)(q:nP W):nP (N×W):=λl=>match p l with|(x,l)=>match q l with|(y,l)=>((x,y),l)
def nY:nP Ty:=nM (nA .bool nT) nK
def nS:nP Sh:=λl=>match l with
 |0::l=>nM (λx=> .lc x.1 x.2.1 x.2.2) (nQ nK (nQ nK (nL nK))) l
 |1::l=>nM (λk=> .lc k 0 []) nK l
 |2::l=>nM (λx=> .cl x.1 x.2) (nQ nK (nL nK)) l
 |3::l=>nM .rw nK l
 |4::l=>nM .row nY l
 |5::l=>(.nl,l)
 |6::l=>(.nf,l)
 |7::l=>nM .ep nY l
 |8::l=>nM .tup (nL nY) l
 |9::l=>(.no,l)
 |k::l=>(.val (nA .bool nT (k-10)),l)
 |[]=>(.no,[])
def nW:nP iL:=λl=>match l with
 |0::l=>([],l)
 |1::l=>([(0,true)],l)
 |_::l=>nL (nQ nK nB) l
 |[]=>([],[])
def nV:nP Cut:=nM (λx=>⟨x.1,x.2⟩) (nQ (nL (nQ nK (nQ nS nW))) (nL (nQ nK (nQ nS nW))))
def nC(f n:Nat):Cut:=(nV (nz f n)).1
def nG(cs:List Cut):Nat->nP ZH
 |0,l=>(.n,l)
 |f+1,l=>match l with
  |0::l=>(.n,l)
  |1::l=>nM (λx=> .r x.1 x.2.1 x.2.2) (nQ (nL nK) (nQ (nL (nQ nK nK)) (nL (nQ nK (nQ nK (nL nK)))))) l
  |2::l=>nM (λx=> .s x.1 x.2) (nQ (nG cs f) (nG cs f)) l
  |3::l=>nM (λx=> .c x.1 x.2) (nQ (nG cs f) (nG cs f)) l
  |4::l=>nM .b (nG cs f) l
  |5::l=>nM (λx=> .l (nA ⟨[],[]⟩ cs x.1) x.2) (nQ nK (nG cs f)) l
  |6::l=>nM .o (nG cs f) l
  |7::l=>nM (λx=> .d (nA ⟨[],[]⟩ cs x.1) x.2) (nQ nK (nG cs f)) l
  |8::l=>nM (λx=> .i x.1 x.2) (nQ (nL nK) (nG cs f)) l
  |9::l=>nM (.s .n) (nG cs f) l
  |10::l=>nM (.r [] []) (nL (nQ nK (nQ nK (nL nK)))) l
  |12::l=>nM (λx=> .l x.1 x.2) (nQ nV (nG cs f)) l
  |13::l=>nM (λx=> .d x.1 x.2) (nQ nV (nG cs f)) l
  |_::l=>nM (λx=> .r x.1 [] x.2) (nQ (nL nK) (nL (nQ nK (nQ nK (nL nK))))) l
  |[]=>(.n,[])
def nI(cs:List Cut)(f n:Nat):cM:=match nQ (nQ nK (nQ (nL (nQ nS nB)) (nQ (nL (nQ nS nW)) (nQ (nL nW) (nQ (nL nY) nB))))) (nG cs 300) (nz f n)with|(x,_)=>⟨⟨x.1.1,x.1.2.1,x.1.2.2.1,x.1.2.2.2.1,x.1.2.2.2.2.1,x.1.2.2.2.2.2⟩,x.2⟩
def Ed:Cut:=nC 11 0xa610ce500ce43
def Kk:Cut:=nC 14 0x10ce500ce40a60a74
def ii0:cM:=⟨⟨3,[(.val (.sl (.int .u8)),false)],[],[],[.bool],false⟩,(.s .n (.s (.s (.r [] [] [(0,(2,[]))]) .n) (.s .n (.s (.r [4,5] [] [(4,(4,[115])),(3,(3,[]))]) (.s (.r [1,2,3,4,5] [] [(3,(6,[])),(1,(5,[]))]) (.s .n (.s (.s .n (.b (.l Ed (.s .n (.s (.b (.s .n (.s .n (.b (.l Kk .n))))) .n))))) .n)))))))⟩
def Kj:Cut:=nC 19 0x468e1068e33002e00a07e0a06e4
def Ec:Cut:=nC 19 0x468e1068e330a11e002e00a10e4
def Eb:Cut:=nC 28 0x468e1068e33002e00a10e0a11e0a15e0a50a14e7
def Xg:Cut:=nC 28 0x468e1068e33002e00a10e0a11e0a50a14e0a15e7
def Ea:Cut:=nC 40 0x468e1068e33002e00a10e0a11e0a50a14e0a15e0a36e0a70a80a35eb
def Xf:Cut:=nC 40 0x468e1068e33002e00a10e0a11e0a50a14e0a15e0a70a80a35e0a36eb
def ii1:cM:=⟨⟨99,[(.val (zS 3),false)],[],[],[.sl i6],false⟩,(.s (.r [0] [] []) (.s (.r [3] [] []) (.s (.s .n (.b (.l Kj .n))) (.s (.s .n (.b (.l Ec (.s .n (.s .n (.s (.b (.s .n (.s .n (.b (.l Eb (.s .n (.s .n (.s (.b (.s .n (.s (.s (.r [] [] [(8,(7,[]))]) .n) (.s .n (.s .n (.b (.l Ea (.s .n (.s .n (.s .n (.d Xf .n))))))))))) (.d Xg .n))))))))) .n)))))) (.i [3] .n)))))⟩
def ii2:cM:=nI [] 8 0x110004
def Ki:Cut:=nC 14 0x106e3018e00a511de44
def D9:Cut:=nC 14 0x106e30a7119e6018e04
def Xe:Cut:=nC 14 0x106e3119e6018e00a74
def ii3:cM:=⟨⟨6,[(.val (.int .u32),false)],[],[],[zS 15],true⟩,(.s (.r [0] [] []) (.s (.r [1] [] [(0,(8,[]))]) (.s (.r [1] [] [(0,(9,[]))]) (.s (.s .n (.b (.l Ki (.s .n (.s (.b (.r [0,15] [] [])) .n))))) (.s (.r [1] [] [(0,(10,[]))]) (.s (.s .n (.b (.l D9 (.s .n (.s (.b (.s .n (.s (.r [] [] [(5,(11,[]))]) (.s (.s (.r [13] [] []) .n) (.d ⟨[],[]⟩ (.r [0,4] [] [])))))) (.d Xe .n)))))) (.s (.r [0,1] [] []) .n)))))))⟩
def D8:Cut:=nC 21 0x8e01002e50a7106e100100a65
def Kh:Cut:=nC 33 0x8e01106e100100a60a710ae8002e50a06e112e04e0a05e9
def Qh:cM:=nI [D8,Kh] 98 0x102b200100e3001e5002e738754306b00b201c40d73b02b9429915492001b24290549201c11a2001b2001b206101008e1106e00125
def ii5:cM:=nI [] 10 0x2e100002e17
def Kg:Cut:=nC 24 0x467e0846ae2067e33002e006ae340a54
def D7:Cut:=nC 24 0x467e0846ae2067e33002e00a606ae344
def D6:Cut:=nC 27 0x467e0846ae2067e33002e006ae340a60a75
def D5:Cut:=nC 19 0x467e110ceb0ac067e33002e04
def Xd:Cut:=nC 30 0x467e0846ae2067e33002e006ae340a60a70b39e6
def Xc:Cut:=nC 19 0x467e110ceb067e33002e00ac4
def D4:Cut:=nC 25 0x467e1067e33002e00ac100ed10ceb0a00e6
def Xb:Cut:=nC 27 0x467e0846ae2067e33002e006ae340a60a75
def D3:Cut:=nC 36 0x467e0846ae2067e33002e006ae340a60a70aa0a80a98
def Md:Cut:=nC 25 0x467e1067e33002e00ac100ed10ceb0a00e6
def Mb:Cut:=nC 36 0x467e0846ae2067e33002e006ae340a60a70a80a90aa8
def pG:cM:=nI [Kg,D7,D6,Xd,D3,Mb,Xb,D5,D4,Md,Xc] 134 0x102b20a70402b09700402b3942985492001b2942975492001b200670579945499037004e04e104e1b224292549429154920003ea1a1b42905492031b2031b2001b2102e100002e18
def D2:Cut:=nC 18 0x1e59e10ad059e13104eb0ac4
def Ke:Cut:=nC 34 0x1e59e005e5ce2059e13104eb0ac0ad0a07e05ce16104e05e0a06e8
def SI:cM:=nI [D2,Ke] 43 0x154005e2121b294299054005e2121b22901100001e001e208e
def Kc:Cut:=nC 11 0x106e10a3003e23
def aCG:cM:=nI [Kc] 57 0x8e1009e22702b20007e6196104b42905492006e0111b2001b2001b21a100004e
def ii9:cM:=nI [] 302 0xae500ce600aec00ae01e00ae03e00ce04e00ae0ae00ae0ee00ae10e00ae14e00de16e00ae18e00ee19e00ae1be00ce1ce00ae22e00de25e00de28e00ae2ae00ee2be00ae2de00ce2ee00ae34e00de37e00de3ae00ae3ce00fe3de00ae3fe00ce40e00ae46e00de4ae00ae4ce00ee4de00ae4fe00ce50e00ae55e00de58e00ee59e00ae5be00ce5ce00ce61e00ae67e00ae6be00de6ee00de70e00ae74e00ae78e010e79e00ae7ce00ae7fe011e81e00ae83e00de85e00ae87e00ee89e00ae8be00ae8de00ce8ee00ee94e00de96e00ee99e00de9be00ae9de00ce9ee32ea1e9ee9de9be96e8ee8de8be87e85e83e7fe7ce78e74e70e6ee6be67e61e5ce5be58e55e50e4fe4ce4ae46e40e3fe3ce3ae37e34e2ee2de2ae28e25e22e1ce1be18e16e14e10e0ee0ae04e03e01ec6529eb200be21a200ae2121b200ae200ae52522b20d00d10d23a2001b2113e100005e
def a13:cM:=nI [] 340 0xae300ae500ae800aed00ae01e00ae04e00ae08e00ee0ae00ae0ce00ae0fe00ae11e00ae16e00ae1be00ae1de00ae1fe00ae24e00ae28e00ae2ae00ae30e00ae32e00ae37e00ae39e00ae3be00ae3fe00ae42e00ae45e00ae47e00ae49e00ae4de00ae4fe00ae53e00fe54e00ae56e00ae58e00ae5ce00ae5fe00ae61e00ae65e00ae68e00ae6ae00ae6ee00ae71e00ae74e00ae76e00ae79e00ae7be00ae7fe00ae81e013e84e014e8ae00ae8de00ae90e00ae92e00ae94e00ae99e014e9ce00aea0e00aea3e00aea6e00aea8e00aeace00aeaee00aeb1e00aeb3e00aeb6e00aeb8e00aebae00aebfe00aec3e011ec4e00aec8e00aecae00fecce00decfe00aed1e3ded4ed1ecfecaec8ec3ebfebaeb8eb6eb3eb1eaeeacea8ea6ea3ea0e9ce99e94e92e90e8de8ae81e7fe7be79e76e74e71e6ee6ae68e65e61e5fe5ce58e56e53e4fe4de49e47e45e42e3fe3be39e37e32e30e2ae28e24e1fe1de1be16e11e0fe0ce08e04e01ed85339eb20b01a2012e21a20d00d10d20d34a2001b210fe100006e
def a12:cM:=nI [] 10 0x91000c100e
def Mx:Cut:=nC 15 0x8e010a100100b04e3
def JD:cM:=nI [Mx] 22 0x792900101008e10a0012d
def a11:cM:=nI [] 20 0xb1015e22a29051000c19
def Mw:Cut:=nC 40 0x1a192201e5ce001e5de008e0305ce1605de170a2006e100100ad0b00e7
def JC:cM:=nI [Mw] 133 0x117e10116e600ae800aea4a8634b23900116e500ae727523b23900117e100ae300ae53532b23900116e500ae700ae9397524b239000ae2121b23079401c11a220116e3131b2905101008e10a006e001303e
def Mv:Cut:=nC 21 0x1a192201e5ae001e58e205ae14058e122
def LK:cM:=nI [Mv] 47 0x700019e5014e626543b2390018e31302b23949290510000ae001e202e
def yC:Cut:=nC 14 0x1202e50a6102e13
def Mu:Cut:=nC 14 0x1202e5102e10a63
def Bx:cM:=nI [yC,Mu] 54 0x102b201700702b301ae5151b242905492081b2001b206100102e002e201e
def yA:Cut:=nC 11 0x104e30a4002e03
def Mt:Cut:=nC 14 0x104e3002e00a4104e54
def xZ:Cut:=nC 17 0x104e3002e00a40a6104e55
def Ms:Cut:=nC 17 0x104e3002e00a4104e50a65
def sC:cM:=nI [yA,Mt,xZ,Ms] 85 0x102b2003700702b301ce5151b242925491701be4003e52652b061b392001b242905492001b2001b218100002e109e
def xY:Cut:=nC 11 0xa5004e1004e03
def B2:Cut:=nC 14 0x4e1004e00a50a64
def xM:cM:=nI [xY,B2] 27 0x154942905492901100004e004e20ae
def aMs:cM:=nI [] 25 0x1de112103b2001b218100102e131e
def aMr:cM:=nI [] 36 0x102b201ee001fe1020e2374324b2001b207100015e
def aNs:Cut:=nC 64 0x10fe10ee10de10ce109e108e107e106e105e104e1714c213e5ae116e115e10be10ae12520fe5de205ae1405de17006e0003e50aa003e86
def aNr:Cut:=nC 57 0x10fe10ee10de10ce109e108e107e106e105e104e1714c213e5ae116e115e12320fe5de205ae1405de17116eb006e0003e55
def aNq:Cut:=nC 44 0x10fe10ee10de10ce109e108e107e106e105e104e1714c213e5ae12120fe5de205ae1405de172
def a10:cM:=nI [aNs,aNr,aNq] 113 0x270024e313103b39025e11102b22170024e3131b39025e1111b22024e8181b2021b20011b42905492021e317543b2022e4023e52a2021e115323b29009e1000d006e216e
def a1Z:cM:=nI [] 10 0x91000c117e
def aNp:Cut:=nC 11 0x104e10a3003e23
def aNo:Cut:=nC 11 0x104e10a7112e63
def a1Y:cM:=nI [aNp,aNo] 81 0x102b20008e51802b42915492011b200702b021e418653b242905492006e0111b2026e0111b2001b218100018e
def a1X:cM:=nI [] 22 0x27e21212b2905100102e0c2a
def a1W:cM:=nI [] 41 0xee2010e300ae5010e700ee800aea00aec7ca53b2905100001e001e219e
def aNn:Cut:=nC 40 0x116e115e10be10ae100e1d12720fe5ee12120fe5fe205ee1805fe190aa112e14
def a1V:cM:=nI [aNn] 42 0xb6111b429054920b1010e22a29005e100001e001e112e0c41ae
def a1U:cM:=nI [] 25 0xb1014e32322b2905100102e0c21be
def a1T:cM:=nI [] 18 0x28e0023e12a290510001ce
def a1S:cM:=nI [] 20 0x29e1023e22a29051000a11de
def a1R:cM:=nI [] 18 0x22e0023e12a290510001ee
def a1Q:cM:=nI [] 24 0xee200ae4241b2905100001e001e21fe
def a1P:cM:=nI [] 21 0xae3131b2905100001e001e220e
def a1O:cM:=nI [] 92 0x27e2014e702aea02aeb02aec5722b202ae2014e7027e93972b2014e5027e72752b2014e4014e92942b2008e0015e1008e2015e3008e4015e56a2905100005e121e
def aMq:cM:=nI [] 12 0x5100102e005e211e
def a1N:cM:=nI [] 10 0x5100005e10be
def Mr:Cut:=nC 33 0x1a192201e5ce008e0205ce160a2006e100100a70b08e6
def Mq:Cut:=nC 30 0x1a192201e5ce008e0205ce160a2006e100100a75
def Mo:Cut:=nC 34 0x1a192201e5ce005e5ee008e0305ce1605ee180a2006e100105
def B1:Cut:=nC 43 0x1a192201e5ce005e5ee008e0305ce16102ed05ee180a00e0a2006e100100ab8
def tM:cM:=nI [Mr,Mq,Mo,B1] 142 0x14e21212b200116e518503b42935492001b202fe2121b22701c40b72a01c402ee72a301c11a202ce002de12322b22900012be1023e22a23900117e11a23942170079201c11a2905101008e10a006e001313e
def aMp:cM:=nI [] 25 0x1c10d42a2905101008e1001114e
def B0:Cut:=nC 27 0x1a192201e5ae005e59e205ae140a600ae0059e134
def Ft:cM:=nI [B0] 20 0x54929015200005e00ae210e
def BZ:Cut:=nC 14 0x102e50a600ae1002e04
def Fs:cM:=nI [BZ] 46 0x102b20001e619603b42905492001b2001b21610000ae002e212e
def BY:Cut:=nC 15 0x1e59e10a5059e13002e03
def Fq:cM:=nI [BY] 29 0x30e51a242905492901100001e002e20fe
def aMo:cM:=nI [] 31 0x212b200001b2392011b206100001e132e
def BX:Cut:=nC 15 0x5e59e10a5059e13004e03
def Fp:cM:=nI [BX] 19 0x5492901100005e004e233e
def BW:Cut:=nC 25 0x104e5be0a59e205be150aa059e13002e80a95
def Fo:cM:=nI [BW] 42 0x102b205be59e231e21a94299054929011b2181000a102e250e
def aMn:cM:=nI [] 18 0x21b2001b210be10003ce
def aMm:cM:=nI [] 8 0x210003de
def xX:Cut:=nC 19 0x7e5de00de73e205de17103eb073e1a3
def Mn:Cut:=nC 25 0x7e5de00de73e205de17073e1a103eb0ac0b3ce5
def Ae:cM:=nI [xX,Mn] 115 0x202b20402b00033e1121b23035e11a2200011b239273e134e11a200033e1121b23179929490542001b2900011b2392032e116323b2001b20b72000c0c115e33be
def aNm:Cut:=nC 12 0xd57e1103e4057e112
def a1M:cM:=nI [aNm] 62 0x102b200001b23037e11a2200702b240036e11a220542001b2011b21172000d13ee
def a1L:cM:=nI [] 18 0x8e0038e12a2903100027e
def a1K:cM:=nI [] 10 0x51000d126e
def a1J:cM:=nI [] 33 0x3ae11a22964e139e21a2990052000d016e006e33fe
def aNl:Cut:=nC 21 0x1612d5ae105ae140a60c1003e04
def aNk:Cut:=nC 27 0x1612d5ae105ae140c1003e00a6003e70b18e6
def a1I:cM:=nI [aNl,aNk] 42 0x17008ec1a2021e418653b24290549290132000c003e240e
def aNj:Cut:=nC 11 0x104e20a311ae13
def a1H:cM:=nI [aNj] 49 0x102b20008e61902b42905492001b203be0111b2001b218100041e
def a1G:cM:=nI [] 25 0x8e1014e32322b2905100102e0c20ce
def a1F:cM:=nI [] 18 0x8e0038e12a2903100042e
def a1E:cM:=nI [] 20 0x3ce103de22a29031000a143e
def a1D:cM:=nI [] 24 0x3ee2027e4241b2905100001e001e244e
def Ml:Cut:=nC 28 0x1612d5ae008e0205ae140a100100a50b03e5
def Mk:Cut:=nC 25 0x1612d5ae008e0205ae140a100100a54
def Mj:Cut:=nC 28 0x1612d5ae008e0205ae140a100100a06e0b0de5
def Mi:Cut:=nC 25 0x1612d5ae008e0205ae140a100100b2ee4
def BV:Cut:=nC 31 0x1612d5ae008e0205ae14103e60a80a100100a76
def qI:cM:=nI [Ml,Mk,Mj,Mi,BV] 194 0x12be4040e52a2012be31a200041e11102b20012be41702b4294549201c11a2001b233790029e01a2390029e01a239001c103fe32a239001c10b4038e53a239003de01a239003de01a239001c1029e32a232790022e01a2390028e01a239492170079201c11a2903101008e10a001236e
def aMl:cM:=nI [] 18 0x11b2001b2108e100037e
def aMk:cM:=nI [] 18 0x11b2001b2108e100038e
def a1C:cM:=nI [] 10 0x91000c139e
def aMj:cM:=nI [] 30 0x43e21202b29042e11a29010200005e006e23ae
def Mh:Cut:=nC 5 0xb41
def LJ:cM:=nI [Mh] 26 0x7044e03e045e0ae20ae1b2901100001e001e22ee
def BU:Cut:=nC 24 0x104e10a020a03e01026be21002e01e0a02e4
def Mg:Cut:=nC 8 0x104e10a020
def Bw:cM:=nI [BU,Mg] 58 0x1700010231e21a2942990549392010246e21a229011102104e0a201026be2001e26ae
def BT:Cut:=nC 18 0x7e59e111ee4059e130c00a54
def JB:cM:=nI [BT] 91 0x402b200011b2392048e21a2000702b239200033e2131b2392047e21a240549001b200033e0111b2392001b20b14e2000c15ee
def a1B:cM:=nI [] 12 0xb1000a0a25fe
def Mf:Cut:=nC 52 0x7e5be1612d5ae1612d5de009e5ce00de0505be1505ae140a1001005de1705ce160a0ae0b11e8
def Me:Cut:=nC 46 0x7e5be1612d5ae009e5ce1612d5de00de0505be1505ae1405ce1605de170c800106
def C8:cM:=nI [Mf,Me] 136 0x149e31a200008e0038e1041e4341b290134e31a2392900033e31a239200038e11a200033e41a239204ae7171b21799939003fe21a29390390033e31a230790033e31a2394929990b320100de10a001260e
def a1A:cM:=nI [] 17 0x4be11a29001000d161e
def aNi:Cut:=nC 5 0xb21
def a1z:cM:=nI [aNi] 14 0x799011000d162e
def a1y:cM:=nI [] 20 0x28e1044e22a29011000d163e
def a1x:cM:=nI [] 10 0x3100005e146e
def aNh:Cut:=nC 37 0x1a192201e5ce0d5ae00be0305ce16001000ae205ae140a0fe0b10e6
def aNg:Cut:=nC 37 0x1a192201e5ce0d5ae00be0305ce16001000ae205ae14003ea0b3be6
def aNf:Cut:=nC 34 0x1a192201e5ce0d64e00be0305ce1600ae2064e100e00100b71e5
def aNe:Cut:=nC 44 0x1a192201e5ce005e62e0d5ae00be0405ce16062e1c001000ae2003ed05ae140b86e7
def aNd:Cut:=nC 40 0x1a192201e5ce005e62e00be0305ce16102e09e062e1c00100a0ae00ae2003ed7
def a1w:cM:=nI [aNh,aNg,aNf,aNe,aNd] 272 0x14e21212b2990153e21a200402b90139e6161b242945492001b2000139e31322b29052e5151b20014fe11a22337051e31a2050e5151b22000139e31322b2027014fe51a22021e317543b2904ee1111b23008e01a20014de313213b23008e01a20023e31a293008e01a2492081b201792021e115323b200015e21a20018e31302b2200023e11a2304ce21a22390023e11a23079492900520100be100ae0d001364e
def aNc:Cut:=nC 5 0xb21
def a1v:cM:=nI [aNc] 25 0x7054e1055e5056ea3a2901100001e165e
def aMi:cM:=nI [] 18 0xce1b2001b2110e100066e
def a1u:cM:=nI [] 17 0x57e11a29021000a167e
def a1t:cM:=nI [] 19 0x58e21a29031000c0c25ae
def a1s:cM:=nI [] 18 0x28e0023e12a2905100025e
def a1r:cM:=nI [] 10 0x31000c15be
def a1q:cM:=nI [] 12 0x31000d0d25de
def aNb:Cut:=nC 25 0x1612d58e0d59e2058e12059e130a4003e04
def a1p:cM:=nI [aNb] 31 0x40e51a42905492028e01a2903100003e15ce
def BS:Cut:=nC 15 0x5e57e10a511ae4057e113
def Fk:cM:=nI [BS] 27 0x549203be0111b299010200005e149e
def aMh:cM:=nI [] 29 0x5ae41a29059e2121b290105e200005e006e22fe
def L9:Cut:=nC 19 0xd59e0d58e2059e13058e120b21e3
def BR:Cut:=nC 19 0xd59e0d58e20a5059e13058e123
def Ad:cM:=nI [L9,BR] 34 0x44ea1a242915492007929011000d0d24be
def BQ:Cut:=nC 11 0xa5002e1002e03
def Fj:cM:=nI [BQ] 30 0x30e81a2429054929901100002e002e24ce
def L8:Cut:=nC 22 0x1e59e104e10a030112059e130b01e3
def L7:Cut:=nC 8 0x104e10a020
def C7:cM:=nI [L8,L7] 42 0x170001b30705be8181b229011102104e0a2011001001e36be
def xV:Cut:=nC 8 0xa10c02
def xU:Cut:=nC 8 0xa10c02
def BP:Cut:=nC 11 0xa10c00a63
def L6:Cut:=nC 11 0xa10c00b13e3
def rA:cM:=nI [xV,xU,L6,BP] 74 0x5de21a20305de21a203944935499305de21a2002792154390305ce31a2449054290102000a0c272e
def L5:Cut:=nC 36 0x7e5ce009e5ae007e5ee009e5de405ce1605ae1405ee180a105de170b33e6
def L4:Cut:=nC 33 0x7e5ce009e5ae007e5ee009e5de405ce1605ae1405ee180a105de175
def L3:Cut:=nC 33 0x7e5ce009e5ae007e5ee009e5de405ce1605ae1405ee180aa05de175
def L2:Cut:=nC 39 0x7e5ce009e5ae007e5ee009e5de405ce1605ae1405ee180aa05de170a10b95e7
def L1:Cut:=nC 33 0x7e5ce009e5ae007e5ee009e5de405ce1605ae1405ee180a105de175
def qZ:cM:=nI [L5,L1,L4,L2,L3] 182 0x4705fe11a9900033e31a2337065e2065e72a2064e1064e3058e43a2900033e31a23064e11a223903942063e11a200062e41a2305de21a229061e21a200033e31a23060e11a2027005fe11a39205ee31a29390170033e21a3079205ee31a29390390390394929990b0d3000a0c273e
def xS:Cut:=nC 39 0x7e5be1612d5ae0d5de00de0405be1505ae1405de17103e600100a16
def L0:Cut:=nC 42 0x7e5be1612d5ae0d5de00de0405be1505ae1405de1700100a1103e60b1de7
def LZ:Cut:=nC 36 0x7e5be1612d5ae0d5de00de0405be1505ae1405de17103e600105
def BO:Cut:=nC 35 0x7e5be1612d5ae0d5de00de0405be1505ae1405de170ad103e65
def qY:cM:=nI [xS,L0,LZ,BO] 105 0x40e51a429354929270402b90134e21a2000033e31a20033e31a2390394992990134e21a2931792490542028e01a2001b290b320100de10a001275e
def LY:Cut:=nC 25 0x5e5ce017e5ee205ce160c20c105ee180b0de5
def BN:Cut:=nC 25 0x5e5ce017e5ee205ce160c20c10aa05ee185
def Ac:cM:=nI [LY,BN] 37 0x15492007929066e21202b290092000c0c015e374e
def LX:Cut:=nC 15 0xd58e10a1058e120bd3
def JA:cM:=nI [LX] 31 0x4be81a2904be61a2007929001000a0d276e
def aNa:Cut:=nC 5 0xb21
def a1o:cM:=nI [aNa] 25 0x7067e1008e4008e93a2901100005e177e
def aM9:Cut:=nC 39 0x1a192201e5ce00be0205ce1600ae210aeb003e100100ac004e8003e98
def a1n:cM:=nI [aM9] 72 0x139e71742b200902b90139e6161b242905492001b29068e3198544b29900520100be100ae003e001378e
def aM8:Cut:=nC 21 0x1612d58e1058e12003e0103e40a64
def aM7:Cut:=nC 24 0x1612d58e1058e12003e0103e40a60b1de5
def a1m:cM:=nI [aM8,aM7] 68 0x41e4041e7069ec069e00e400ec744b2900179021e418653b2429054929021e317543b299013200003e179e
def a1l:cM:=nI [] 14 0x110100be100117ae
def xR:Cut:=nC 29 0x100e1d123214e5ae005e59e205ae140a6006e0059e134
def LW:Cut:=nC 32 0x100e1d123214e5ae005e59e205ae14006e0059e130a60b0ee5
def Ab:cM:=nI [xR,LW] 27 0x179429054929010ae200005e006e27be
def aM6:Cut:=nC 5 0xb81
def a1k:cM:=nI [aM6] 19 0x794929901100005e17ce
def aM5:Cut:=nC 28 0x1612d5ae0d59e205ae14006e0059e13003e70b17e5
def aM4:Cut:=nC 28 0x1612d5ae014e63e205ae14063e1d006e00a00e003ea5
def aM3:Cut:=nC 31 0x1612d5ae014e63e205ae14063e1d006e00a00e003ea0b4ae6
def aM2:Cut:=nC 28 0x1612d5ae014e63e205ae14001203e01e063e1d006e04
def a1j:cM:=nI [aM5,aM4,aM3,aM2] 106 0x6be606ce7276504b2370041e417403b392071b20279217999050e2121b20006ae31322b23051e11a22081b200792021e115323b2900133000d006e27de
def aM1:Cut:=nC 19 0x5e59e00be02059e1300100a63
def a1i:cM:=nI [aM1] 32 0x2fe5151b2005492901020100be1005e00127ee
def a1h:cM:=nI [] 17 0x6de11a2900100001e17fe
def a1g:cM:=nI [] 17 0x6ee11a2900100001e180e
def aEi:Cut:=nC 5 0xb21
def aEh:Cut:=nC 5 0xb21
def aEg:Cut:=nC 12 0x1e57e1057e110b2be2
def aEf:Cut:=nC 12 0x1e57e10a4057e112
def aVv:cM:=nI [aEi,aEh,aEg,aEf] 72 0x56e51a242935492027067e51a223901706fe71a23900704ce41a239492044e31a2901100001e181e
def aVu:cM:=nI [] 17 0x70e11a29021000a182e
def aVt:cM:=nI [] 81 0x74e4074e6265434b2073e216432106b2073e21643205b2072e2071e3281b2071e1161b29071e1161b290222000c0c271e
def tG:Cut:=nC 15 0x5e59e10a7059e13006e03
def wF:Cut:=nC 21 0x5e59e1059e13006e00a70a9016e85
def pH:cM:=nI [tG,wF] 37 0x154905ae4151b24290549290100300005e006e24de
def FV:Cut:=nC 12 0x13e57e1057e110b52
def zD:cM:=nI [FV] 35 0x1b2000212b23079492011b200ce100013e14ee
def V8:cM:=nI [] 22 0x75e21202b2901100005e004e26ce
def FU:Cut:=nC 5 0xb21
def BA:cM:=nI [FU] 14 0x79901100011e189e
def FT:Cut:=nC 5 0xb81
def Bz:cM:=nI [FT] 20 0x79901100011e011e0a0c48ae
def aEe:Cut:=nC 21 0x7e5ee10a10c010ee905ee18011e25
def aEd:Cut:=nC 24 0x7e5ee10c005ee18011e20a110ee90b30e6
def aVs:cM:=nI [aEe,aEd] 74 0x702b20033e21a231790033e31a23900602b2390390033e31a23944054001b290b02300011e0a0c38be
def FQ:Cut:=nC 19 0x7e5ae009e58e205ae14058e120bd3
def zC:cM:=nI [FQ] 41 0x33e21a2307076ed1a20033e21a2394290b1000b009e28ce
def FP:Cut:=nC 5 0xb21
def By:cM:=nI [FP] 14 0x79901100011e18de
def tF:Cut:=nC 8 0xa10c02
def FO:Cut:=nC 11 0xa10c00b00e3
def qV:cM:=nI [tF,FO] 28 0x17060e81a2205429001000a0c28ee
def aEc:Cut:=nC 33 0x7e60e009e5ee007e64e009e5be4060e1a05ee18064e100e0ad05be155
def aVr:cM:=nI [aEc] 82 0x5fe31a29061e21a200033e31a23060e31a2007005fe11a392905ee31a2390033e41a2394299990b0d3000a0c009e0c48fe
def FN:Cut:=nC 11 0xc00a50b01e3
def FM:Cut:=nC 8 0xc00a52
def tE:Cut:=nC 11 0xa60c00a53
def FL:Cut:=nC 14 0xa60c00a50b12e4
def FK:Cut:=nC 11 0xa60c00b27e3
def tD:Cut:=nC 11 0xa60c00a73
def FJ:Cut:=nC 14 0xa60c00a70b39e4
def gL:cM:=nI [FN,FM,tE,FL,FK,tD,FJ] 52 0x6794295549204792990037922542917007929901223000c190e
def aEb:Cut:=nC 8 0xc00b32
def aEa:Cut:=nC 11 0xa40c00b33
def aD9:Cut:=nC 11 0xa40c00b33
def aD8:Cut:=nC 14 0xa40c00b30b09e4
def aVq:cM:=nI [aEb,aEa,aD9,aD8] 28 0x3792254217990799021000c191e
def aVp:cM:=nI [] 19 0x71e1161b29001000c192e
def wE:Cut:=nC 21 0x111217e5ae105ae140a6015e00c14
def vU:cM:=nI [wE] 20 0x54929010de2000c015e293e
def aVo:cM:=nI [] 17 0x77e11a2901100005e194e
def aD7:Cut:=nC 14 0x103e8104e70a9103e54
def aD6:Cut:=nC 20 0x103e50a9003ea103e8104e70b22e6
def aD5:Cut:=nC 11 0x103e8104e70ac3
def aD4:Cut:=nC 11 0x103e8104e70ad3
def aVn:cM:=nI [aD7,aD6,aD5,aD4] 150 0x32104b20000102b2301ce7171b2429354920000102b2304ce41a24292549200602b0702b2000102b231792021e418653b242905492001b2001b2000102b2392021e115323b20212b200783000d195e
def aVm:cM:=nI [] 28 0x78e1041e3040e43322b2903100003e0c296e
def aD3:Cut:=nC 27 0x1612d5ae105ae14003e10c00a60cb0b0ce6
def aD2:Cut:=nC 27 0x1612d5ae105ae14003e10c00a60cb0b2de6
def aD1:Cut:=nC 24 0x1612d5ae105ae14003e10c0003e70b64e5
def aD0:Cut:=nC 12 0x1612d5ae105ae141
def aDZ:Cut:=nC 24 0x1612d5ae105ae14003e10c00a60ba6e5
def aVl:cM:=nI [aD3,aD2,aD1,aDZ,aD0] 317 0x4700069e7069e92972b200069e7171b239200069e7069e92972b23929337900069e7069e92972b23900069e4141b23923900069e7069e92972b23900069e4141b239239007be21212b239007be21212b2390079e9069eb2b92b202792021e317543b200028e01a2392390079e9069eb2b92b200079e6028e7069e93962b239290007ae21a239231790079e6069e82862b200079e6069e82862b2392900028e01a239230790079e6069e82862b200028e01a23923949299013200003e0c297e
def aDY:Cut:=nC 14 0x110e50a6003e1004e04
def aDX:Cut:=nC 17 0x110e5003e1004e00a60b02e5
def aVk:cM:=nI [aDY,aDX] 46 0x102b200c02b420179205492001b2001b2106e100003e004e299e
def aVj:cM:=nI [] 31 0x69e17ce31322b299900033000a110e001e006e498e
def aDW:Cut:=nC 14 0xa50a70a1002e64
def aDV:Cut:=nC 17 0xa50a1002e60a70b0ce5
def aVi:cM:=nI [aDW,aDV] 51 0x6de81a42017920549201be1121b2900035e31a23929001000a001e29ae
def aDU:Cut:=nC 14 0xa50a70a1002e64
def aDT:Cut:=nC 17 0xa50a1002e60a70b03e5
def aVh:cM:=nI [aDU,aDT] 40 0x6ee71a42017920549201be1121b299001000a001e29be
def aDS:Cut:=nC 5 0xb21
def aVg:cM:=nI [aDS] 22 0x7035e107de52a29011000d19ce
def aVf:cM:=nI [] 17 0x7ee11a29021000a19de
def aDR:Cut:=nC 8 0xc00b00e2
def aDQ:Cut:=nC 11 0xb40c00a53
def aDP:Cut:=nC 17 0x100e60b40a70c00a55
def aVe:cM:=nI [aDR,aDQ,aDP] 63 0x312b200802b42925492001b21799900011b230707fe11a22011b20412000c185e
def aDO:Cut:=nC 8 0xe6000e82
def aVd:cM:=nI [aDO] 64 0x74e11102b2032104b073e217643206b2490542071e1161b2071e1161b29021000c0c286e
def aDN:Cut:=nC 22 0x461e1000e7061e360a8000e1000e05
def aDM:Cut:=nC 22 0x461e1000e7061e36000e1000e00a85
def aVc:cM:=nI [aDN,aDM] 87 0x80e111ae114321051200082e213203b240081e2121b22154080e71872b242905492001b2031b20102b2044200000e000e287e
def aDL:Cut:=nC 8 0x10ee5000e12
def aDK:Cut:=nC 11 0x10ee50a6000e13
def aVb:cM:=nI [aDL,aDK] 54 0x902b429154920700302b392001b29080e112103b2902100000e0b288e
def wD:Cut:=nC 18 0x5e59e10a8004e0059e130a74
def vT:cM:=nI [wD] 19 0x5492900100005e004e283e
def aVa:cM:=nI [] 17 0x83e11a29011000c1a5e
def aDJ:Cut:=nC 5 0xb21
def aU9:cM:=nI [aDJ] 19 0x7083e21a2901100005e1a6e
def aU8:cM:=nI [] 20 0x8e1038e22a29031000c1a7e
def aU7:cM:=nI [] 22 0x69e21212b2903100003e0c2a8e
def aU6:cM:=nI [] 28 0x28e01a200022e01a23929031000b1a9e
def aU5:cM:=nI [] 67 0x79e7069e92972b200069e8181b2390029e2069e7271b2390029e11a239492903100003e0a0c0c4aae
def aDI:Cut:=nC 42 0x1612d5ce00fe64e001e5ae01be0405ce16064e100e001005ae140bd010e20b51e7
def aDH:Cut:=nC 45 0x1612d5ce00fe64e001e5ae01be0405ce16103e04e064e100e001005ae140bd0a05e010e28
def aU4:cM:=nI [aDI,aDH] 174 0x6be6017ce727653b200087e31322b239200402b9017ce7171b242915492001b200017ce61652b200017ce61652b23086e11a229017ce6161b23085e11a2200792043e6161b2042e21a29902fe6161b29900084e31302b239492900320101be1010e001e0013abe
def aDG:Cut:=nC 5 0xb21
def aDF:Cut:=nC 5 0xb21
def aDE:Cut:=nC 5 0xb21
def aDD:Cut:=nC 5 0xb21
def aU3:cM:=nI [aDG,aDF,aDE,aDD] 67 0x3707de0de07de14e2a239027939017077e21a239007065e0ce065e11e2a2058e41a23949299011000d1ace
def aDC:Cut:=nC 8 0xa00b03e2
def ii140:cM:=⟨⟨187,[(.val i6,false),(.val i6,false)],[],[],[.str],false⟩,(.s .n (.s (.s .n (.c (.s (.s .n (.d aDC (.c (.s (.r [] [] [(1,(151,[]))]) .n) .n))) (.s .n (.s .n (.s .n (.d ⟨[],[]⟩ (.s .n (.s (.r [4] [] []) .n))))))) .n)) (.s (.r [6,7,9] [] [(5,(150,[]))]) .n)))⟩
def aDB:Cut:=nC 11 0xc00a30b00e3
def aDA:Cut:=nC 8 0xc00a32
def aDz:Cut:=nC 11 0xc00a30b0ae3
def aDy:Cut:=nC 8 0xa40c02
def aDx:Cut:=nC 11 0xc00a40b1be3
def aU2:cM:=nI [aDB,aDA,aDz,aDy,aDx] 38 0x47942935492027921700792999011000c1a1e
def aDw:Cut:=nC 8 0xa3000e02
def aDv:Cut:=nC 11 0xa3000e00b01e3
def aU1:cM:=nI [aDw,aDv] 31 0x31b200179205429001b204100000e1a2e
def aDu:Cut:=nC 11 0xa5000e1000e03
def aU0:cM:=nI [aDu] 20 0x54929900100000e000e2a3e
def aDt:Cut:=nC 17 0x100e50a7000e10a6000e05
def aDs:Cut:=nC 17 0xe1000e00a70a8100e55
def aDr:Cut:=nC 20 0xe10a6000e00a70a8100e56
def aUZ:cM:=nI [aDt,aDs,aDr] 55 0x80e112103b200402b27991799429054929001b2001b204100000e000e2a4e
def FI:Cut:=nC 8 0xc00b08e2
def tB:Cut:=nC 8 0xa30c02
def FH:Cut:=nC 11 0xc00a30b23e3
def mN:cM:=nI [FI,tB,FH] 30 0x279942915492007929011000c1b8e
def aDq:Cut:=nC 25 0x1612d5ae005e59e205ae140a6010e0059e134
def aUY:cM:=nI [aDq] 20 0x54929013200005e010e2b9e
def aDp:Cut:=nC 5 0xb61
def aUX:cM:=nI [aDp] 23 0x7008e71a29011000a0c001e324e
def aDo:Cut:=nC 5 0xb21
def aUW:cM:=nI [aDo] 14 0x799011000d1bae
def aDn:Cut:=nC 19 0x1612d5ae0d5ee205ae1405ee182
def aUV:cM:=nI [aDn] 58 0x6fe11a22070037e31a2908be81a3908ae51a39492999042e11a29003200103e005e2bbe
def aDm:Cut:=nC 26 0x10eea0cb00ee00b40b301ce10a20b0ee8
def aDl:Cut:=nC 23 0x10eea0cb00ee00b40b301ce10a27
def aUU:cM:=nI [aDm,aDl] 76 0x402b239200d900d0000c4290000c4299939200d9991700792001b20204e2000b0b0a01ce00ee5bfe
def aUT:cM:=nI [] 10 0x21000a1bce
def aDk:Cut:=nC 35 0x1612d5ae0d59e0d5be305ae14059e130cc05be150c00bd6
def aUS:cM:=nI [aDk] 199 0x3fe31a20003fe01a2392092e11a2390091e1029e32a239003fe31a239003fe31a239003de11a2090e41a239003de21a239003de21a239008fe11a239008ee11a239008de107ae22a239007ae31a239007ae31a239007ae31a239007ae31a239000028e01a23036e11a22307949208ce11a29031000d0c2d2e
def aDj:Cut:=nC 22 0x1612d5ce005e5de205ce1605de170b2be3
def aUR:cM:=nI [aDj] 147 0x29e51a200028e01a2392096e21a2390091e1091e303fe53a2390038e11a200028e01a2307067ea1a22091e1091e32a2390095e207ae32a2390094e21a2390093e21a2390040e21a2390044e207ae32a2394929031000d0d0c3d3e
def aUQ:cM:=nI [] 18 0x29e01a299031000d1eee
def aDi:Cut:=nC 5 0xb21
def aUP:cM:=nI [aDi] 14 0x799011000d1efe
def aUO:cM:=nI [] 26 0x97e203de52a208ce11a29031000d1f0e
def aUN:cM:=nI [] 23 0x3de41a208ce11a29031000d1f1e
def aDh:Cut:=nC 20 0xeb0b8000ea0b6000e90b1be6
def aDg:Cut:=nC 14 0xeb0b8000ea0b64
def aUM:cM:=nI [aDh,aDg] 99 0x74e4074e7276434b2170082e2132104b098e213203b230792073e217643206b200074e21212b2392071e1161b2071e1161b290222000c0c2f2e
def aUL:cM:=nI [] 10 0x21000d1f3e
def aDf:Cut:=nC 8 0xa40b0ae2
def aUK:cM:=nI [aDf] 31 0x792099e21a2008de11a2290107e2000d1f4e
def aUJ:cM:=nI [] 40 0x9ae409ae909bea09ae01e03de02e5a208ce108ce32a29031000d0d2f5e
def aUI:cM:=nI [] 34 0x9ae409ae903dea3a208ce108ce32a29031000d0d2f6e
def aUH:cM:=nI [] 25 0x8ce108ce309ce43a29011000d0d2f7e
def aDe:Cut:=nC 19 0xd58e0d59e2058e12059e130b01e3
def aDd:Cut:=nC 8 0xa60b14e2
def aUG:cM:=nI [aDe,aDd] 35 0x1792099e21a200708de51a2290102000d0d2f8e
def aUF:cM:=nI [] 28 0x74e31322b2071e1161b29021000c1009f
def aDc:Cut:=nC 17 0x100e50a7000e1000e00a65
def aDb:Cut:=nC 20 0x100e5000e1000e00a70a60b08e6
def aDa:Cut:=nC 17 0xe1000e00a70a8100e55
def aC9:Cut:=nC 17 0xe1000e00a70a8100e55
def aUE:cM:=nI [aDc,aDb,aDa,aC9] 56 0x102b2000502b237927994201792054929001b2001b214100000e000e200af
def aC8:Cut:=nC 14 0xa60b40a7000e54
def aC7:Cut:=nC 5 0xa61
def aUD:cM:=nI [aC8,aC7] 31 0x17900549299071e1161b290102000c100bf
def aUC:cM:=nI [] 43 0x9de5074e6265434b2071e1161b2071e1161b29021000c0c200df
def aUB:cM:=nI [] 88 0x82e3074e4243214b200082e3074e4243214b23081e2121b2200098e3074e4243214b2392071e1161b2071e1161b29021000c0c200cf
def aC6:Cut:=nC 19 0xd59e0d58e2059e13058e120b26e3
def aUA:cM:=nI [aC6] 105 0x9ce81a2909ce81a2007036e1036e52a22000a1e41a23900a0e41a239009ae409ae909fea3a239409ee11a2200009ee109ee32a22309ee109ee32a229001000d0d200ef
def aC5:Cut:=nC 19 0x466e1066e350a6000e1000e04
def aC4:Cut:=nC 25 0x466e1066e35000e1000e00a60a80a76
def aC3:Cut:=nC 28 0x466e1066e35000e1000e00a60a80a70b10e7
def aC2:Cut:=nC 25 0x466e1066e35000e1000e00a60a80a96
def aUz:cM:=nI [aC5,aC4,aC3,aC2] 62 0x80e1133e11210312000379942027921549942905492071b2001b204100000e000e2017f
def aUy:cM:=nI [] 10 0x1000d1018f
def aC1:Cut:=nC 17 0xe8000e60b50b70b05e5
def aC0:Cut:=nC 14 0xe8000e60b50b0be4
def aUx:cM:=nI [aC1,aC0] 65 0x81e212103b200081e212103b239031790307942071e1161b2071e1161b29001000c0c2019f
def aUw:cM:=nI [] 12 0x1000c0c201af
def aUv:cM:=nI [] 30 0xa0e41a2000a0e41a2392900100005e005e201bf
def insL:List (Nat×cM):=[(0,ii0),(1,ii1),(2,ii2),(3,ii3),(4,Qh),(5,ii5),(6,pG),(7,SI),(8,aCG),(9,ii9),(10,a13),(11,a12),(12,JD),(13,a11),(14,JC),(15,LK),(16,Bx),(17,sC),(18,xM),(19,aMs),(20,aMr),(21,a10),(22,a1Z),(23,a1Y),(24,a1X),(25,a1W),(26,a1V),(27,a1U),(28,a1T),(29,a1S),(30,a1R),(31,a1Q),(32,a1P),(33,a1O),(34,aMq),(35,a1N),(36,tM),(37,aMp),(38,Ft),(39,Fs),(40,Fq),(41,aMo),(42,Fp),(43,Fo),(44,aMn),(45,aMm),(46,Ae),(47,a1M),(48,a1L),(49,a1K),(50,a1J),(51,a1I),(52,a1H),(53,a1G),(54,a1F),(55,a1E),(56,a1D),(57,qI),(58,aMl),(59,aMk),(60,a1C),(61,aMj),(62,LJ),(63,Bw),(64,JB),(65,a1B),(66,C8),(67,a1A),(68,a1z),(69,a1y),(70,a1x),(71,a1w),(72,a1v),(73,aMi),(74,a1u),(75,a1t),(76,a1s),(77,a1r),(78,a1q),(79,a1p),(80,Fk),(81,aMh),(82,Ad),(83,Fj),(84,C7),(85,rA),(86,qZ),(87,qY),(88,Ac),(89,JA),(90,a1o),(91,a1n),(92,a1m),(93,a1l),(94,Ab),(95,a1k),(96,a1j),(97,a1i),(98,a1h),(99,a1g),(100,aVv),(101,aVu),(102,aVt),(103,pH),(104,zD),(105,V8),(106,BA),(107,Bz),(108,aVs),(109,zC),(110,By),(111,qV),(112,aVr),(113,gL),(114,aVq),(115,aVp),(116,vU),(117,aVo),(118,aVn),(119,aVm),(120,aVl),(121,aVk),(122,aVj),(123,aVi),(124,aVh),(125,aVg),(126,aVf),(127,aVe),(128,aVd),(129,aVc),(130,aVb),(131,vT),(132,aVa),(133,aU9),(134,aU8),(135,aU7),(136,aU6),(137,aU5),(138,aU4),(139,aU3),(140,ii140),(141,aU2),(142,aU1),(143,aU0),(144,aUZ),(145,mN),(146,aUY),(147,aUX),(148,aUW),(149,aUV),(150,aUU),(151,aUT),(152,aUS),(153,aUR),(154,aUQ),(155,aUP),(156,aUO),(157,aUN),(158,aUM),(159,aUL),(160,aUK),(161,aUJ),(162,aUI),(163,aUH),(164,aUG),(165,aUF),(166,aUE),(167,aUD),(168,aUC),(169,aUB),(170,aUA),(171,aUz),(172,aUy),(173,aUx),(174,aUw),(175,aUv)]
def orcI:CJ:=⟨187,λa b=>bif decide (b=10)then(bif decide (a= -1)then some [45,49]else bif decide (a= -2)then some [45,50]else bif decide (a= -3)then some [45,51]else none)else none,187,none⟩
def tpI:TP U0.D:=aXA orcI (tJ insL)
noncomputable def cG(L n:Nat):cJ:=zF U0 tpI (AL Tryz.prog insL) L n
end Go.TV
namespace Go.TV
open Go.AI Go.PI Go.Proofs
abbrev Gx:G.Y:=⟨[],[]⟩
abbrev OO:G.O:=⟨0,[],[],Gx,[],[]⟩
abbrev GB:G.T:=⟨0,Gx,OO,[]⟩
abbrev zqF:G.F:=⟨Gx,[],0,GB,GB,GB⟩
def bY:Nat->Nat->List UInt8
 |0,_=>[]
 |f+1,n=>UInt8.ofNat (n%128)::bY f (n/128)
def dT{a b:Nat}(h:a<b):decide ((a:Int)<(b:Int))=true:=bF (by omega)
def dF{a b:Nat}(h: ¬a<b):decide ((a:Int)<(b:Int))=false:=bG (by omega)
def pw:Nat->Nat->List Nat
 |0,_=>[]
 |f+1,n=>(n%2)::pw f (n/2)
def sK(m k:Nat)(h:k<=m): ∃q,m=q+k:=⟨m-k,by omega⟩
abbrev Nt:=oB->Rt
abbrev yR(n:Nat)(x:Den U0.D (.rc n)):TV U0.D:=⟨.rc n,x⟩
abbrev yS(n:Nat)(x:Den U0.D (.sl (.rc n))):TV U0.D:=⟨.sl (.rc n),x⟩
abbrev yI(x:Int):TV U0.D:=⟨.int .i64,x⟩
abbrev yB(x:Bool):TV U0.D:=⟨.bool,x⟩
abbrev yT(x:List UInt8):TV U0.D:=⟨.str,x⟩
section
variable(x:cM)(c:cJ)(e:Cu)(L:Nat)(π:List Nat)(ct:Cut)
def cu:Cu:=⟨Dx U0 tpI c L,Ex U0 tpI c L⟩
noncomputable def xW:TC:=fP x.sk (iT Tryz.prog x.sig.f)
noncomputable def xC:TC:=XI (xW x) π
noncomputable def xK:Kt:=JU U0 tpI x.sig (rO Tryz.prog x.sig.f)
noncomputable def xT(K:Kt):Kt:=Do U0 (kI U0 tpI c e.D e.E (xC x π)) K
noncomputable def xF(d:oB):Rt:=lN U0 (cutOf x.sig) (λS M=>kI U0 tpI c e.D e.E (xW x) S M (xK x)) d
noncomputable def xA(K:Kt)(d:oB):Rt:=lN U0 ct (λS M=>kI U0 tpI c e.D e.E (xC x π) S M K) d
noncomputable def xL(K:Kt)(n:Nat)(d:oB):Rt:=Bs U0 ct (λS M K=>fM U0 tpI c L (xC x π) S M K) K n d
noncomputable def xD(K:Kt)(d:oB):Rt:=e.D ct (xC x π) d K
noncomputable def xE(K:Kt)(d:oB):Rt:=e.E ct (xC x π) d K
def dG(K:Kt):xD x (cu c L) π ct K=xA x c (cu c L) π ct K:=funext λd=>iP ct (λS M=>(aMC (T:=tpI) (c:=c) (L:=L) (xC x π) S M K).symm) d
def eV(K:Kt)(n:Nat):xL x c L π ct K (n+1)=xA x c (cu c L) π ct (gP U0 ct (xL x c L π ct K n) K):=funext λd=>iP ct (λS M=>(aMC (T:=tpI) (c:=c) (L:=L) (xC x π) S M _).symm) d
end
def pJ: ∀{l:List (Nat×cM)} {i:Nat} {x:cM},pL l i=some x->(i,x)∈l
 |a::l,i,x,h=>by
  simp only[pL]at h;cases hb:Nat.beq a.1 i with
  |true=>
   rw[hb]at h;simp only[aI,aA]at h;have:=aE hb;subst this;subst h;exact aH ..
  |false=>rw[hb]at h;exact aG _ (pJ h)
def aMt:(insL.all λx=>aCe orcI x.2.sig&&Nat.ble x.2.sig.bx.length 100&&Bk x.2.sig.bx.length x.2.sig.bx)=true:=by kernel_rfl
def cg{i:Nat}{x:cM}(hx:pL insL i=some x)(hf:(Nat.beq x.sig.f orcI.n||Nat.beq x.sig.f orcI.m)=false)(L n:Nat)(d:oB):cG L (n+1) i d=xF x (cG L n) (cu (cG L n) L) d:=by
 have hs:tpI.sig i=some x.sig:=by show tJ insL i=_;unfold tJ;rw[hx];rfl
 have hg:AL Tryz.prog insL i=some (fP x.sk (iT Tryz.prog x.sig.f),rO Tryz.prog x.sig.f):=by simp only[AL,hx]
 have hb:(aCe tpI.orc x.sig&&Nat.ble x.sig.bx.length 100&&Bk x.sig.bx.length x.sig.bx)=true:=bJ.1 aMt _ (pJ hx);have ho:aB9 U0 tpI.orc x.sig d=none:=by
  rw[Bool.or_eq_false_iff]at hf;show aB9 U0 orcI x.sig d=none;unfold aB9;rw[hf.1,hf.2];rfl
 show zF U0 tpI (AL Tryz.prog insL) L (n+1) i d=_;simp only[zF,hs,hg,hb,aI,ho];exact(iP _ (λS M=>aMC _ _ _ _) d).symm
def Q2(n:Nt):Int->G.P->Rt:=λx0 x1=>n [yI x0,yR 20 x1]
def zL(n:Nt):Rt:=n []
def Et(n:Nt):List G.E->G.Y->Rt:=λx0 x1=>n [yS 15 x0,yR 1 x1]
def QZ(n:Nt):List G.T->List G.T->Rt:=λx0 x1=>n [yS 3 x0,yS 3 x1]
def QX(n:Nt):G.T->Int->List G.Y->Rt:=λx0 x1 x2=>n [yR 3 x0,yI x1,yS 1 x2]
def QW(n:Nt):Int->List G.Y->Rt:=λx0 x1=>n [yI x0,yS 1 x1]
def fN(n:Nt):List UInt8->Int->Rt:=λx0 x1=>n [yT x0,yI x1]
def nZ(n:Nt):Int->List UInt8->Int->Rt:=λx0 x1 x2=>n [yI x0,yT x1,yI x2]
def Er(n:Nt):Bool->List UInt8->Int->Rt:=λx0 x1 x2=>n [yB x0,yT x1,yI x2]
def Ep(n:Nt):Int->G.K->G.X->G.K->G.X->Rt:=λx0 x1 x2 x3 x4=>n [yI x0,yR 19 x1,yR 18 x2,yR 19 x3,yR 18 x4]
def QU(n:Nt):List G.A->List UInt8->List UInt8->Rt:=λx0 x1 x2=>n [yS 6 x0,yT x1,yT x2]
def CG(n:Nt):List G.Y->G.Y->Rt:=λx0 x1=>n [yS 1 x0,yR 1 x1]
def Gq(n:Nt):Int->Rt:=λx0=>n [⟨(.int .u8),x0⟩]
def sN(n:Nt):Bool->Rt:=λx0=>n [yB x0]
def yK(n:Nt):List UInt8->Rt:=λx0=>n [yT x0]
def Gp(n:Nt):Bool->Int->List UInt8->Rt:=λx0 x1 x2=>n [yB x0,yI x1,yT x2]
def Gn(n:Nt):Bool->Int->List UInt8->Int->Rt:=λx0 x1 x2 x3=>n [yB x0,yI x1,yT x2,yI x3]
def zM(n:Nt):Int->List G.T->Int->Int->List G.Y->Rt:=λx0 x1 x2 x3 x4=>n [yI x0,yS 3 x1,yI x2,yI x3,yS 1 x4]
def Q6(n:Nt):Int->G.Z->Rt:=λx0 x1=>n [yI x0,yR 0 x1]
def Q5(n:Nt):Bool->Int->Int->G.Z->G.O->Rt:=λx0 x1 x2 x3 x4=>n [yB x0,yI x1,yI x2,yR 0 x3,yR 2 x4]
def Eu(n:Nt):G.T->G.T->Rt:=λx0 x1=>n [yR 3 x0,yR 3 x1]
def NN(n:Nt):List G.T->Rt:=λx0=>n [yS 3 x0]
def uY(n:Nt):Int->List G.T->(List (List G.Y))->List Int->Rt:=λx0 x1 x2 x3=>n [yI x0,yS 3 x1,⟨.sl (zS 1),x2⟩,⟨.sl i6,x3⟩]
def CF(n:Nt):Int->Int->List G.T->(List (List G.Y))->List Int->Rt:=λx0 x1 x2 x3 x4=>n [yI x0,yI x1,yS 3 x2,⟨.sl (zS 1),x3⟩,⟨.sl i6,x4⟩]
def NM(n:Nt):Int->(List (List Int))->List Int->Int->List G.T->List Int->Rt:=λx0 x1 x2 x3 x4 x5=>n [yI x0,⟨(.sl (.sl i6)),x1⟩,⟨.sl i6,x2⟩,yI x3,yS 3 x4,⟨.sl i6,x5⟩]
def NL(n:Nt):Int->Int->Int->Int->Int->List G.T->(List (List G.Y))->List Int->Rt:=λx0 x1 x2 x3 x4 x5 x6 x7=>n [yI x0,yI x1,yI x2,yI x3,yI x4,yS 3 x5,⟨.sl (zS 1),x6⟩,⟨.sl i6,x7⟩]
def Rd(n:Nt):List G.E->Int->G.Z->Rt:=λx0 x1 x2=>n [yS 15 x0,yI x1,yR 0 x2]
def Dh(n:Nt):Int->Int->Int->Int->Int->List G.T->List Int->Rt:=λx0 x1 x2 x3 x4 x5 x6=>n [yI x0,yI x1,yI x2,yI x3,yI x4,yS 3 x5,⟨.sl i6,x6⟩]
def NO(n:Nt):Int->Int->Int->Int->Int->Int->Int->Int->Int->List G.T->List Int->Rt:=λx0 x1 x2 x3 x4 x5 x6 x7 x8 x9 x10=>n [yI x0,yI x1,yI x2,yI x3,yI x4,yI x5,yI x6,yI x7,yI x8,yS 3 x9,⟨.sl i6,x10⟩]
def fC(i:Nat):Option cM:=match pL insL i with
  |some x=>bif Nat.beq x.sig.f orcI.n||Nat.beq x.sig.f orcI.m then none else some x
  |none=>none
def cz{i:Nat}{x:cM}(h:fC i=some x)(L n:Nat)(d:oB):cG L (n+1) i d=xF x (cG L n) (cu (cG L n) L) d:=by
  unfold fC at h
  split at h
  · rename_i y hy
    cases hb:Nat.beq y.sig.f orcI.n||Nat.beq y.sig.f orcI.m with
    |true=>rw[hb]at h;cases h
    |false=>rw[hb]at h;cases h;exact cg hy hb L n d
  · cases h
def mZ{W:Type}(r:Rt)(K:Bool×Unit->Option W):Option W:=fZ (D:=U0.D) [.bool] r K
def qC{W:Type}(r:Rt)(K:G.X×Unit->Option W):Option W:=fZ (D:=U0.D) [.rc 18] r K
def oK{W:Type}(r:Rt)(K:G.O×Unit->Option W):Option W:=fZ (D:=U0.D) [.rc 2] r K
def qB{W:Type}(r:Rt)(K:G.T×Unit->Option W):Option W:=fZ (D:=U0.D) [.rc 3] r K
def tL{W:Type}(r:Rt)(K:Int×G.Z×Unit->Option W):Option W:=fZ (D:=U0.D) [.int .i64,.rc 0] r K
def wX{W:Type}(r:Rt)(K:G.T×G.Z×Unit->Option W):Option W:=fZ (D:=U0.D) [.rc 3,.rc 0] r K
def Bm{W:Type}(r:Rt)(K:G.Y×Unit->Option W):Option W:=fZ (D:=U0.D) [.rc 1] r K
def C3{W:Type}(r:Rt)(K:Int×Unit->Option W):Option W:=fZ (D:=U0.D) [.int .i64] r K
def IM{W:Type}(r:Rt)(K:List G.Y×Unit->Option W):Option W:=fZ (D:=U0.D) [.sl (.rc 1)] r K
def Vv{W:Type}(r:Rt)(K:G.O×G.X×G.P×Unit->Option W):Option W:=fZ (D:=U0.D) [.rc 2,.rc 18,.rc 20] r K
end Go.TV
