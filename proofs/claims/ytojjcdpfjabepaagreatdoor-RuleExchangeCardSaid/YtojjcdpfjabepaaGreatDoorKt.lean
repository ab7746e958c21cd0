import Derived.Test.YtojjcdpfjabepaaGreatDoorKn
import Derived.Test.YtojjcdpfjabepaaGreatDoorKs
set_option linter.unusedVariables false
set_option linter.unusedSimpArgs false
set_option linter.constructorNameAsVariable false
namespace Go.TV
open Go.AI Go.PI Go.Proofs
set_option maxRecDepth 20000
abbrev wA(k:Nat)(t:Ty):Nat×Sh×Rts:=(k,.val t,[])
abbrev wB(k:Nat)(t:Ty):Nat×Sh×Rts:=(k,.val t,[(0,true)])
abbrev wC(k j:Nat):Nat×Sh×Rts:=(k,.lc j 0 [],[])
abbrev wD(x:SkT):SkT:= .s .n x
abbrev wE(l:List (Nat×Nat×List Nat)):SkT:= .r [] [] l
def ct0x1:Cut:=⟨[wA 2 .bool],[]⟩
def ct0x2:Cut:=⟨[wA 2 .bool],[]⟩
def ii0:Ins:=⟨⟨6,[(.val (.sl (.int .u8)),false)],[],[],[.bool],false⟩,(wD (.s (.s (wE [(0,1,[])]) .n) (wD (.s (.r [1] [] [(0,2,[])]) (wD (.s (.r [2,5] [] [(5,3,[122]),(2,3,[122])]) (.s (wE [(1,4,[]),(0,4,[])]) (.s (wE [(0,5,[])]) (.s (.r [0,3] [] [(3,6,[]),(1,4,[])]) (.s (.r [8] [] [(8,7,[])]) (.s (.r [8] [] [(8,7,[])]) (wD (.s (.s (wE [(2,8,[])]) (.c (wD (.d ct0x1 .n)) .n)) (.s (wE [(7,9,[])]) (.d ct0x2 .n)))))))))))))))⟩
def ct1x1:Cut:=⟨[wA 0 .bool],[]⟩
def ii1:Ins:=⟨⟨7,[],[],[],[.bool],false⟩,(wD (.s (wE [(1,10,[]),(0,10,[])]) (.s (.r [3,7,9] [] [(9,11,[]),(7,11,[]),(3,11,[])]) (.s (.r [3] [] [(3,6,[]),(1,4,[]),(0,2,[])]) (.s (wE [(1,10,[]),(0,10,[])]) (.s (.r [7] [] [(3,4,[]),(0,4,[])]) (.s (.r [10,11] [] [(20,8,[]),(11,7,[])]) (.d ct1x1 .n))))))))⟩
def aH0:Cut:=⟨[wB 4 (.sl (zS 8)),wA 5 i6,wA 0 (.int .u32),wB 3 (zS 16)],[]⟩
def aFp:Cut:=⟨[wA 0 (.int .u32),wB 6 (zS 7),wA 7 i6,wB 3 (zS 16)],[]⟩
def ct2x3:Cut:=⟨[wA 7 i6,wA 0 (.int .u32),wB 6 (zS 7),wB 3 (zS 16)],[]⟩
def ii2:Ins:=⟨⟨8,[(.val (.int .u32),false)],[],[],[zS 16],true⟩,(.s (.r [0] [] []) (.s (.r [1] [] [(0,12,[])]) (.s (.r [1] [] [(0,13,[])]) (.s (wD (.b (.l aH0 (wD (.s (.b (.r [0,15] [] [])) .n))))) (.s (.r [1] [] [(0,5,[])]) (.s (wD (.b (.l aFp (wD (.s (.b (wD (.s (wE [(5,4,[])]) (.s (.s (.r [13] [] []) .n) (.d ⟨[],[]⟩ (.r [0,4] [] [])))))) (.d ct2x3 .n)))))) (.s (.r [0,1] [] []) .n)))))))⟩
def ct3x1:Cut:=⟨[wA 22 .bool,wA 7 i6,wC 0 0,wA 1 (zS 16),wA 2 i6,wC 6 106],[wA 0 (.rc 0),(106,.val (.rc 3),[(9,true),(10,true)])]⟩
def ct3x2:Cut:=⟨[wA 7 i6,wC 0 0,wA 1 (zS 16),wA 2 i6,wC 6 106],[wA 0 (.rc 0),(106,.val (.rc 3),[(9,true),(10,true)])]⟩
def ct3x3:Cut:=⟨[wC 0 0,wA 1 (zS 16),wA 2 i6,wC 8 108,wC 6 106],[wA 0 (.rc 0),wA 108 (.rc 1),(106,.val (.rc 3),[(9,true),(10,true)])]⟩
def aHU:Cut:=⟨[wA 11 i6,wC 0 0,wA 1 (zS 16),wA 2 i6,wA 14 i6,wC 8 108,wB 13 (zS 3),wC 6 106],[wA 0 (.rc 0),wA 108 (.rc 1),(106,.val (.rc 3),[(9,true),(10,true)])]⟩
def ii3:Ins:=⟨⟨24,[(.lc 0 0 [],false),(.val (zS 16),false),(.val i6,false)],[(.val (.rc 0),[])],[[]],[.rc 3],false⟩,(wD (.s (wE [(1,14,[0])]) (.s (wD (.d ct3x1 .n)) (.d ct3x2 (.s (.b (wD (.c (.s (wE [(1,15,[0])]) .n) (wD (.c (.s (wE [(2,17,[]),(1,16,[0])]) .n) .n))))) (wD (.s (.s (.r [2,3] [] [(1,19,[]),(0,18,[])]) (.s (wE [(1,14,[0])]) (.c (wE [(7,20,[]),(4,14,[0])]) (wE [(7,4,[]),(4,14,[0])])))) (.d ct3x3 (.s (.r [2] [] [(2,21,[])]) (.s (.r [0] [] []) (.s (wD (.b (.l aHU (wD (.s (.b (.r [0,5,8] [] [(5,3,[0])])) .n))))) (.s (.r [1,2] [] [(2,22,[])]) .n))))))))))))⟩
def ii4:Ins:=⟨⟨19,[(.val .str,false)],[],[],[.rc 1],false⟩,.n⟩
def ii5:Ins:=⟨⟨27,[],[],[],[zS 7],true⟩,(.s (.r [0] [] []) (.s (wE [(3,10,[]),(2,10,[]),(1,10,[]),(0,10,[])]) (.s (wE [(2,23,[])]) (.s (wE [(0,4,[])]) (.s (.r [3,5,8,13,15,18,22,26,29,31,36,41,43,45,50,54,56,62,64,69,71,73,77,80,83,85,87,91,93,97,100,102,106,109,111,115,118,120,124,127,130,132,135,137,141,143,152,155,158,160,162,167,170,174,177,180,182,186,188,191,193,196,198,200,205,209,214,216,221,223,226] [] [(223,11,[]),(221,28,[]),(218,25,[]),(216,11,[]),(214,11,[]),(210,27,[]),(209,11,[]),(205,11,[]),(200,11,[]),(198,11,[]),(196,11,[]),(193,11,[]),(191,11,[]),(188,11,[]),(186,11,[]),(182,11,[]),(180,11,[]),(177,11,[]),(174,11,[]),(170,22,[]),(167,11,[]),(162,11,[]),(160,11,[]),(158,11,[]),(155,11,[]),(152,22,[]),(146,26,[]),(143,11,[]),(141,11,[]),(137,11,[]),(135,11,[]),(132,11,[]),(130,11,[]),(127,11,[]),(124,11,[]),(120,11,[]),(118,11,[]),(115,11,[]),(111,11,[]),(109,11,[]),(106,11,[]),(102,11,[]),(100,11,[]),(98,25,[]),(97,11,[]),(93,11,[]),(91,11,[]),(87,11,[]),(85,11,[]),(83,11,[]),(80,11,[]),(77,11,[]),(73,11,[]),(71,11,[]),(69,11,[]),(64,11,[]),(62,11,[]),(56,11,[]),(54,11,[]),(50,11,[]),(45,11,[]),(43,11,[]),(41,11,[]),(36,11,[]),(31,11,[]),(29,11,[]),(26,11,[]),(24,24,[]),(22,11,[]),(18,11,[]),(15,11,[]),(13,11,[]),(8,11,[]),(5,11,[]),(3,11,[])]) .n)))))⟩
def ct6x1:Cut:=⟨[wA 19 .bool,wC 5 105,wA 3 i6,wB 0 (zS 16),wC 6 106,wC 8 108],[wA 105 (.rc 1),wA 106 (.rc 3),(108,.val (.rc 5),[(3,true),(15,true),(16,true),(26,true),(27,true),(28,true),(30,true)])]⟩
def ct6x2:Cut:=⟨[wA 13 i6,wC 10 110,wC 8 108],[(110,.val (.rc 5),[(28,true),(30,true)]),(108,.val (.rc 5),[(3,true),(15,true),(16,true),(26,true),(27,true),(28,true),(30,true)])]⟩
def ii6:Ins:=⟨⟨28,[(.val (zS 16),true),(.val (.rc 1),false),(.val (.rc 3),false),(.val i6,false)],[],[],[.rc 5,i6],false⟩,(wD (.s (wD (.d ct6x1 .n)) (wD (.s (.r [2,3,6] [] [(1,29,[])]) (wD (.s (wD (.b (wD (.c (.s (.r [0] [] []) (.r [0,2] [] [(2,30,[110])])) (wD (.c (.s (.r [0] [] []) .n) (wD (.c (.s (.r [0] [] []) .n) (wD (.c (.s (.r [0] [] []) .n) (wD (.c (.s (.r [0] [] []) .n) (wD (.c (.r [0,2] [] []) (wD (.c (.r [0,2] [] []) (.r [1,3] [] []))))))))))))))))) (.d ct6x2 .n)))))))⟩
def aHQ:Cut:=⟨[wA 15 i6,wA 14 (zS 4),wB 1 (zS 6),wA 16 i6],[]⟩
def ii7:Ins:=⟨⟨25,[(.val (.rc 5),false),(.val (zS 6),true)],[],[],[.bool],false⟩,(wD (wD (.s (wD (.b (.l aHQ (wD (wD (.s (.b (wD (.s (.r [3,7] [] [(7,31,[]),(3,31,[])]) (.s (wE [(2,32,[])]) (.c (.s (wE [(2,33,[])]) .n) .n))))) .n)))))) .n)))⟩
def ct8x1:Cut:=⟨[wA 4 .bool],[]⟩
def ii8:Ins:=⟨⟨13,[(.val (.rc 3),false),(.val (.rc 3),false)],[],[],[.bool],false⟩,(wD (.s (.r [24] [] [(24,35,[]),(17,34,[])]) (.d ct8x1 .n)))⟩
def ii9:Ins:=⟨⟨29,[(.val (.rc 3),false),(.val (.rc 3),false)],[],[],[i6],false⟩,(wD (.s (wE [(1,36,[])]) (.s (wE [(1,36,[])]) (.s (.b (wD (.c (.s (wE [(2,37,[])]) .n) (wD (.c (.s (wE [(2,37,[])]) .n) (wD (.c (.s (wE [(2,37,[])]) .n) .n))))))) (.s (wE [(2,38,[])]) .n)))))⟩
def ii10:Ins:=⟨⟨30,[(.val .str,false)],[],[],[.rc 3],false⟩,(wD (.s (wE [(2,39,[]),(1,4,[])]) .n))⟩
def ii11:Ins:=⟨⟨31,[(.val .str,false),(.val (zS 3),true)],[],[],[.rc 3],false⟩,(wD (.s (.r [1,2] [] [(2,40,[])]) .n))⟩
def zU:Cut:=⟨[wA 2 (zS 2),wA 3 i6,wB 1 (zS 16)],[]⟩
def ii12:Ins:=⟨⟨32,[],[],[],[zS 16],true⟩,(.s (.r [0] [] []) (.s (.r [0] [] []) (.s (.r [1] [] [(0,41,[])]) (.s (wD (.b (.l zU (wD (.s (.b (.r [0,1,6,9] [] [(6,42,[])])) .n))))) (.s (.r [0,7] [] [(2,44,[]),(1,43,[])]) .n)))))⟩
def ii13:Ins:=⟨⟨33,[],[],[],[.sl (zS 8)],true⟩,(.s (.r [0] [] []) (.s (wE [(2,10,[]),(1,10,[]),(0,10,[])]) (.s (.r [2,5] [] [(5,11,[]),(2,11,[])]) (.s (.r [2] [] [(2,11,[])]) (.s (wE [(2,45,[])]) (.s (.r [5,6,12,15,17,18,24,28,30,34,36,38,41,42,48,51,54,56,59,60,66,69,72,74,77,78,84,88,90,93,94,99,102,105,106,111,117,121,124,126,130,134,138,141,145,147,149,153,155,156,164,169,171,172,175] [] [(172,46,[]),(171,11,[]),(169,28,[]),(167,24,[]),(164,28,[]),(162,24,[]),(156,46,[]),(155,11,[]),(153,11,[]),(151,24,[]),(149,11,[]),(147,28,[]),(145,11,[]),(143,27,[]),(141,11,[]),(138,11,[]),(135,47,[]),(134,11,[]),(130,11,[]),(126,28,[]),(124,28,[]),(121,11,[]),(117,11,[]),(111,46,[]),(106,46,[]),(105,11,[]),(103,24,[]),(102,28,[]),(99,11,[]),(94,46,[]),(93,11,[]),(91,24,[]),(90,11,[]),(88,28,[]),(84,11,[]),(78,46,[]),(77,11,[]),(75,25,[]),(74,11,[]),(72,28,[]),(69,28,[]),(66,11,[]),(60,46,[]),(59,11,[]),(57,24,[]),(56,11,[]),(54,28,[]),(51,28,[]),(48,11,[]),(42,46,[]),(41,11,[]),(39,24,[]),(38,11,[]),(36,28,[]),(34,11,[]),(30,11,[]),(28,11,[]),(24,11,[]),(18,46,[]),(17,11,[]),(15,11,[]),(12,11,[]),(6,46,[]),(5,11,[])]) .n))))))⟩
def aH5:Cut:=⟨[wA 18 .bool,wC 0 0,wA 1 i6],[wA 0 (.rc 0)]⟩
def ii14:Ins:=⟨⟨23,[(.lc 0 0 [],false),(.val i6,false)],[(.val (.rc 0),[])],[[]],[i6],false⟩,(wD (.s (wD (.d aH5 .n)) .n))⟩
def ii15:Ins:=⟨⟨36,[(.lc 0 0 [],false)],[(.val (.rc 0),[])],[[]],[.rc 3],false⟩,(wD (.s (wE [(4,10,[]),(1,14,[0])]) .n))⟩
def aH4:Cut:=⟨[wA 17 .bool,wA 5 i6,wC 0 0,wA 1 i6,wC 4 104],[wA 0 (.rc 0),(104,.val (.rc 2),[(6,true)])]⟩
def aH3:Cut:=⟨[wA 5 i6,wC 0 0,wA 1 i6,wC 4 104],[wA 0 (.rc 0),(104,.val (.rc 2),[(6,true)])]⟩
def aH2:Cut:=⟨[wA 27 .bool,wA 20 i6,wC 0 0,wA 1 i6,wC 4 104],[wA 0 (.rc 0),(104,.val (.rc 2),[(6,true)])]⟩
def aH1:Cut:=⟨[wA 60 .bool,wC 0 0,wA 1 i6,wC 4 104],[wA 0 (.rc 0),(104,.val (.rc 2),[(6,true)])]⟩
def zT:Cut:=⟨[wA 7 i6,wC 0 0,wA 1 i6,wA 8 i6,wB 6 (zS 2),wC 4 104],[wA 0 (.rc 0),(104,.val (.rc 2),[(6,true)])]⟩
def vR:Ins:=⟨⟨44,[(.lc 0 0 [],false),(.val i6,false)],[(.val (.rc 0),[])],[[]],[.rc 2],false⟩,(wD (.s (wE [(1,14,[0])]) (.s (wD (.d aH4 .n)) (.d aH3 (.s (wD (.b (wD (.c (.s (wE [(0,48,[])]) .n) (wD (.c (.s (wE [(0,49,[])]) .n) (wD (.d aH2 (.c (.s (wE [(3,50,[]),(1,14,[0])]) .n) (wD (.c (.s (wE [(0,51,[])]) .n) (wD (.c (.s (wE [(0,51,[])]) .n) (wD (.c (.s (wE [(5,52,[]),(4,4,[]),(1,14,[0])]) .n) (wD (.c (.s (wE [(3,53,[]),(1,14,[0])]) .n) (wD (.c (.s (wE [(0,50,[])]) .n) (wD (.c (.s (wE [(0,50,[])]) .n) (wD (.d aH1 (.c (.s (.r [0] [] []) (.s (wE [(1,14,[0])]) (.s (wD (.b (.l zT (wD (.s (.b (.r [0,7] [] [(4,16,[0])])) .n))))) (.s (.r [0,1] [] [(1,55,[])]) .n)))) .n)))))))))))))))))))))))) (.s (wE [(3,16,[0])]) (.s (wE [(5,54,[]),(4,16,[0])]) .n)))))))⟩
def ii17:Ins:=⟨⟨62,[(.val (.rc 2),false)],[],[],[.rc 3],false⟩,.n⟩
def ii18:Ins:=⟨⟨47,[],[],[],[(.sl .str)],true⟩,(.s (.r [0] [] []) (.s (.r [1] [] []) .n))⟩
def ii19:Ins:=⟨⟨48,[],[],[],[(.sl .str)],true⟩,(.s (.r [0] [] []) (.s (.r [1] [] []) .n))⟩
def ii20:Ins:=⟨⟨49,[(.val .str,false)],[],[],[.rc 1],false⟩,.n⟩
def ii21:Ins:=⟨⟨63,[(.val (zS 16),false),(.val (.rc 1),false)],[],[],[i6,.bool],false⟩,(wD (.s (wE [(1,56,[])]) (wD (.s (.r [0,2] [] [(2,57,[])]) .n))))⟩
def ii22:Ins:=⟨⟨59,[(.val (.rc 1),false),(.val (zS 3),true)],[],[],[.rc 3],false⟩,.n⟩
def ii23:Ins:=⟨⟨68,[(.val (.rc 3),false),(.val (.rc 3),false)],[],[],[.rc 3],false⟩,(wD (.s (.r [3] [] [(3,11,[])]) .n))⟩
def ii24:Ins:=⟨⟨37,[],[],[],[.rc 3],false⟩,(wD (.s (wE [(1,17,[]),(0,48,[])]) .n))⟩
def ii25:Ins:=⟨⟨69,[(.val i6,false)],[],[],[.rc 3],false⟩,(wD (.s (wE [(2,17,[]),(1,50,[])]) .n))⟩
def ii26:Ins:=⟨⟨22,[(.val (.rc 1),false)],[],[],[.rc 3],false⟩,(wD (.s (wE [(5,39,[]),(4,43,[]),(3,39,[]),(2,43,[]),(1,39,[]),(0,43,[])]) (.s (.r [4,9] [] [(9,22,[]),(4,22,[])]) (.s (.r [5,7] [] [(7,40,[]),(5,22,[])]) (.s (.r [7,9] [] [(9,40,[]),(7,22,[]),(2,58,[])]) (.s (.r [2,7] [] [(12,58,[]),(11,58,[]),(10,58,[]),(7,22,[]),(2,40,[])]) .n))))))⟩
def ii27:Ins:=⟨⟨70,[(.val (.rc 3),false),(.val (.rc 3),false)],[],[],[.rc 3],false⟩,(wD (.s (.r [4] [] [(4,11,[]),(2,24,[])]) .n))⟩
def ii28:Ins:=⟨⟨71,[(.val .str,false),(.val (zS 3),true)],[],[],[.rc 3],false⟩,(wD (.s (.r [2,3] [] [(3,22,[]),(1,4,[])]) .n))⟩
def ct29x1:Cut:=⟨[wB 4 (zS 3),wC 1 101,wC 3 103],[wA 101 (.rc 3),(103,.val (.rc 3),[(9,true),(10,true)])]⟩
def ii29:Ins:=⟨⟨10,[(.val (.rc 3),false)],[],[],[zS 3,.rc 3],false⟩,(.s (.r [1] [] []) (.s (.r [0] [] []) (.s (.b (.l ct29x1 (.s (.s (wE [(1,59,[])]) .n) (.b (.s (.r [0,7] [] [(5,60,[])]) .n))))) (.s (.r [0,2] [] []) .n))))⟩
def ct30x1:Cut:=⟨[wA 29 .bool,wC 5 105,wC 1 0],[(0,.val (.rc 5),[(15,true),(16,true),(26,true),(27,true),(28,true),(30,true)]),wA 105 (.rc 3)]⟩
def ct30x2:Cut:=⟨[wC 1 0],[(0,.val (.rc 5),[(28,true),(30,true)])]⟩
def ct30x3:Cut:=⟨[wA 97 .bool,wC 1 0],[(0,.val (.rc 5),[(28,true),(30,true)])]⟩
def ct30x4:Cut:=⟨[wA 141 i6,wA 140 (zS 6),wB 9 (zS 1),wA 142 i6,wB 7 (zS 6),wC 1 0],[(0,.val (.rc 5),[(28,true),(30,true)])]⟩
def ct30x5:Cut:=⟨[wA 156 .bool,wB 9 (zS 1),wC 11 111,wA 142 i6,wA 141 i6,wA 140 (zS 6),wB 7 (zS 6),wC 1 0],[(0,.val (.rc 5),[(28,true),(30,true)]),wA 111 (.rc 6)]⟩
def ct30x6:Cut:=⟨[wA 170 i6,wB 169 (zS 1),wB 7 (zS 6),wC 1 0,wA 171 i6],[(0,.val (.rc 5),[(28,true),(30,true)])]⟩
def ct30x7:Cut:=⟨[wA 176 i6,wA 175 (zS 6),wC 13 113,wA 177 i6,wA 171 i6,wA 170 i6,wB 169 (zS 1),wB 7 (zS 6),wC 1 0],[(0,.val (.rc 5),[(28,true),(30,true)]),wA 113 (.rc 1)]⟩
def ct30x8:Cut:=⟨[wA 191 .bool,wC 15 115,wA 177 i6,wA 176 i6,wA 175 (zS 6),wC 13 113,wA 171 i6,wA 170 i6,wB 169 (zS 1),wB 7 (zS 6),wC 1 0],[(0,.val (.rc 5),[(28,true),(30,true)]),wA 115 (.rc 6),wA 113 (.rc 1)]⟩
def ct30x9:Cut:=⟨[wA 177 i6,wA 176 i6,wA 175 (zS 6),wC 13 113,wA 171 i6,wA 170 i6,wB 169 (zS 1),wB 7 (zS 6),wC 1 0],[(0,.val (.rc 5),[(30,true),(28,true)]),wA 113 (.rc 1)]⟩
def ii30:Ins:=⟨⟨72,[(.val (zS 16),true),(.lc 0 0 [],false),(.val (.rc 3),false)],[(.val (.rc 5),[(15,true),(16,true),(26,true),(27,true),(28,true),(30,true)])],[[(28,true),(30,true)]],[i6],false⟩,(wD (.s (.b (.s (.r [10,13] [] [(13,61,[])]) (.d ct30x1 (.c .n (.s (wE [(1,59,[])]) (.c (wE [(9,64,[]),(8,63,[]),(3,62,[])]) (wE [(6,64,[]),(5,65,[]),(3,62,[])]))))))) (.d ct30x2 (.s (.s (wE [(12,62,[])]) (.d ct30x3 .n)) (.s (.s (.r [5,16,17] [] [(17,67,[]),(16,66,[]),(5,66,[])]) .n) (.s (.s (wE [(8,32,[])]) .n) (.s (.r [9,10,12] [] [(8,68,[])]) (wD (.s (.r [0] [] []) (.s (wD (.b (.l ct30x4 (wD (wD (.s (.b (wD (.s (.s (.r [9] [] [(9,69,[])]) (.d ct30x5 .n)) (.r [0,6] [] [])))) .n)))))) (.s (.s (.r [5] [] [(5,66,[])]) (.b (.l ct30x6 (wD (wD (.s (.b (wD (wD (.b (.l ct30x7 (wD (wD (.s (.b (wD (wD (.d ct30x8 (.c (.r [4] [] []) .n))))) (.d ct30x9 .n))))))))) .n)))))) .n)))))))))))⟩
def zR:Cut:=⟨[wA 8 i6,wA 7 (zS 6),wA 9 i6,wC 3 103,wC 4 104],[wA 103 (.rc 1),(104,.val (.rc 3),[(9,true),(10,true)])]⟩
def ii31:Ins:=⟨⟨64,[(.val (zS 6),false),(.val (.rc 1),false)],[],[],[.rc 3],false⟩,(wD (.s (wD (.b (.l zR .n))) (.s (wE [(1,70,[])]) .n)))⟩
def aHZ:Cut:=⟨[wA 4 .bool],[]⟩
def ii32:Ins:=⟨⟨65,[(.val (.rc 3),false),(.val (.rc 3),false)],[],[],[.bool],false⟩,(wD (.s (.r [24] [] [(24,72,[]),(17,71,[])]) (.d aHZ .n)))⟩
def aHY:Cut:=⟨[wA 7 i6,wC 2 102,wC 3 103],[wA 102 (.rc 3),wA 103 (.rc 3)]⟩
def ii33:Ins:=⟨⟨66,[(.val (.rc 3),false),(.val (.rc 3),false)],[],[],[i6],false⟩,(wD (.s (wE [(5,73,[]),(2,73,[])]) (.s (wD (.d aHY .n)) (.s (wE [(2,74,[])]) .n))))⟩
def aHX:Cut:=⟨[wA 47 .bool,wC 2 102,wC 3 103],[wA 102 (.rc 2),wA 103 (.rc 2)]⟩
def zQ:Cut:=⟨[wC 2 102,wC 3 103,wA 5 i6],[wA 102 (.rc 2),wA 103 (.rc 2)]⟩
def aFX:Ins:=⟨⟨40,[(.val (.rc 2),false),(.val (.rc 2),false)],[],[],[.bool],false⟩,(wD (.s (wD (.d aHX .n)) (.s (wD (.b (.l zQ (wD (.s (.b (.s (wE [(10,34,[])]) .n)) .n))))) .n)))⟩
def zP:Cut:=⟨[wA 0 (zS 3),wA 1 (zS 3),wA 5 i6],[]⟩
def ii35:Ins:=⟨⟨41,[(.val (zS 3),false),(.val (zS 3),false)],[],[],[.bool],false⟩,(wD (wD (.s (wD (.b (.l zP (wD (.s (.b (.s (wE [(8,8,[])]) .n)) .n))))) .n)))⟩
def zO:Cut:=⟨[wC 1 101,wA 8 i6,wA 5 i6,wA 6 i6,wA 7 i6],[wA 101 (.rc 3)]⟩
def ii36:Ins:=⟨⟨80,[(.val (.rc 3),false)],[],[],[i6,i6,i6],false⟩,(wD (.s (wD (.b (wD (.c .n (wD (.c (.s (wE [(2,75,[])]) .n) .n)))))) (wD (.s (wD (.b (.l zO (wD (.s (.b (.s (wE [(5,36,[])]) .n)) .n))))) .n))))⟩
def ii37:Ins:=⟨⟨81,[(.val i6,false),(.val i6,false)],[],[],[i6],false⟩,.n⟩
def aHW:Cut:=⟨[wC 2 102,wC 3 103,wA 5 i6],[wA 102 (.rc 3),wA 103 (.rc 3)]⟩
def tY:Cut:=⟨[wC 2 102,wC 3 103,wA 6 i6,wA 5 i6],[wA 102 (.rc 3),wA 103 (.rc 3)]⟩
def aHV:Cut:=⟨[wA 60 .bool,wA 6 i6,wC 2 102,wC 3 103,wA 5 i6],[wA 102 (.rc 3),wA 103 (.rc 3)]⟩
def aDL:Ins:=⟨⟨82,[(.val (.rc 3),false),(.val (.rc 3),false)],[],[],[i6],false⟩,(wD (.s (wE [(4,37,[])]) (wD (.s (wD (.b (wD (.c (.s (wE [(4,76,[])]) .n) (wD (.c (.s (wE [(4,77,[])]) .n) .n)))))) (.s (wE [(4,76,[])]) (.s (wD (.c (wE [(6,37,[])]) .n)) (.d aHW (.s (wD (.b (.l tY (.s (wD (.d aHV .n)) (.s (.b (wE [(10,38,[])])) .n))))) .n))))))))⟩
def ii39:Ins:=⟨⟨57,[(.val (.rc 1),false)],[],[],[.rc 3],false⟩,.n⟩
def ii40:Ins:=⟨⟨60,[(.val .str,false),(.val (zS 3),true)],[],[],[.rc 3],false⟩,(wD (.s (.r [2,3] [] [(3,22,[]),(1,43,[])]) .n))⟩
def ii41:Ins:=⟨⟨83,[],[],[],[zS 2],false⟩,(.s (.r [0] [] []) (.s (.r [2,3,4,7] [] [(2,80,[]),(1,79,[]),(0,78,[])]) (.s (.r [0,1] [] []) .n)))⟩
def ct42x1:Cut:=⟨[wA 8 (zS 2),wA 10 i6,wA 5 (zS 2),wA 0 (zS 16),wC 7 107,wC 4 104],[(107,.val (.rc 8),[(2,true),(24,true),(25,true),(35,true),(36,true)]),(104,.val (.rc 16),[(4,true),(7,true),(18,true),(19,true),(20,true),(21,true),(22,true),(23,true),(26,true),(27,true),(28,true),(29,true)])]⟩
def ct42x2:Cut:=⟨[wA 5 (zS 2),wA 0 (zS 16),wB 11 (zS 8),wC 7 107,wC 4 104],[(107,.val (.rc 8),[(2,true),(35,true),(36,true)]),(104,.val (.rc 16),[(4,true),(7,true),(18,true),(19,true),(20,true),(21,true),(22,true),(23,true),(26,true),(27,true),(28,true),(29,true)])]⟩
def ct42x3:Cut:=⟨[wC 7 107,wC 4 104],[(107,.val (.rc 8),[(2,true)]),(104,.val (.rc 16),[(4,true),(7,true),(18,true),(19,true),(20,true),(21,true),(22,true),(23,true),(26,true),(27,true),(28,true),(29,true)])]⟩
def ii42:Ins:=⟨⟨84,[(.val (zS 16),false),(.val (.rc 2),false)],[],[],[.rc 16],false⟩,(wD (.s (.r [2,3,5] [] [(1,81,[])]) (.s (wE [(5,17,[]),(4,49,[])]) (.s (.r [4,5,7] [] [(3,81,[])]) (.s (wD (.b (.l ct42x1 (wD (.s (.b (.r [1] [] [])) .n))))) (.s (.r [2] [] []) (.s (.r [8] [] [(8,82,[])]) (.s (.s (.r [1] [] [(1,83,[])]) (wD (.c (.r [3] [] [(3,82,[])]) .n))) (.d ct42x2 (.s (.s (.r [0,1] [] [(1,83,[])]) (wD (.c (.r [0,1,3] [] [(3,82,[])]) .n))) (.d ct42x3 .n)))))))))))⟩
def ii43:Ins:=⟨⟨58,[(.val .str,false)],[],[],[.rc 1],false⟩,.n⟩
def ct44x1:Cut:=⟨[wA 2 (zS 2),wA 3 i6,wB 1 (zS 1)],[]⟩
def ct44x2:Cut:=⟨[wB 6 (.sl .str),wA 7 i6,wB 1 (zS 1)],[]⟩
def ii44:Ins:=⟨⟨85,[],[],[],[zS 1],true⟩,(.s (.r [0] [] []) (.s (.r [1] [] [(0,84,[])]) (.s (.r [1] [] [(0,41,[])]) (.s (wD (.b (.l ct44x1 (wD (.s (.b (.s (.r [5,6,8] [] [(4,81,[])]) (.r [0,7] [] []))) .n))))) (.s (.r [1] [] []) (.s (wD (.b (.l ct44x2 (wD (.s (.b (.r [0,8] [] [(5,43,[])])) .n))))) (.s (.r [0,1] [] []) .n)))))))⟩
def ii45:Ins:=⟨⟨86,[(.val (.rc 3),false),(.val (.rc 3),false)],[],[],[.rc 3],false⟩,(wD (.s (.r [5,10,12] [] [(12,11,[]),(10,11,[]),(8,24,[]),(7,47,[]),(5,11,[]),(3,47,[]),(2,24,[])]) .n))⟩
def ct46x1:Cut:=⟨[wB 1 (.sl .str),wA 10 i6,wC 9 109,wC 8 108],[(109,.val (.rc 8),[(2,true)]),(108,.val (.rc 8),[(2,true),(13,true),(14,true),(24,true),(25,true),(35,true),(36,true)])]⟩
def ii46:Ins:=⟨⟨87,[(.val .str,false),(.val (.sl .str),true),(.val (.rc 3),false),(.val (.rc 3),false)],[],[],[.rc 8],false⟩,(wD (.s (wE [(2,47,[]),(1,4,[])]) (.s (wD (.b (.l ct46x1 (wD (.s (.b (.r [1] [] [(6,4,[])])) .n))))) .n)))⟩
def ii47:Ins:=⟨⟨88,[],[],[],[.rc 3],false⟩,(wD (.s (wE [(1,17,[]),(0,49,[])]) .n))⟩
def ii48:Ins:=⟨⟨46,[],[],[],[.rc 2],false⟩,(wD (.s (wE [(1,52,[]),(0,43,[])]) .n))⟩
def ii49:Ins:=⟨⟨92,[],[],[],[.rc 2],false⟩,(wD (.s (wE [(1,52,[]),(0,43,[])]) .n))⟩
def ii50:Ins:=⟨⟨102,[(.val i6,false)],[],[],[.rc 2],false⟩,(wD (.s (wE [(2,51,[]),(1,85,[])]) .n))⟩
def ii51:Ins:=⟨⟨103,[(.val .str,false),(.val .str,false)],[],[],[.rc 2],false⟩,(wD (.s (wE [(2,86,[])]) .n))⟩
def ii52:Ins:=⟨⟨104,[(.val (.rc 1),false)],[],[],[.rc 2],false⟩,.n⟩
def ii53:Ins:=⟨⟨105,[(.val .str,false)],[],[],[.rc 2],false⟩,.n⟩
def ii54:Ins:=⟨⟨107,[(.val (.rc 2),false),(.val (.rc 2),false)],[],[],[.rc 2],false⟩,.n⟩
def ct55x1:Cut:=⟨[wA 0 (zS 2),wA 4 i6,wC 3 103,wC 2 102],[wA 103 (.rc 2),(102,.val (.rc 2),[(6,true)])]⟩
def ii55:Ins:=⟨⟨106,[(.val (zS 2),false)],[],[],[.rc 2],false⟩,(wD (.s (wE [(0,48,[])]) (.s (wD (.b (.l ct55x1 (wD (.s (.b (wE [(5,54,[])])) .n))))) .n)))⟩
def zN:Cut:=⟨[wC 1 101,wB 4 (zS 21),wA 5 i6],[wA 101 (.rc 1)]⟩
def ii56:Ins:=⟨⟨111,[(.val (.rc 1),false)],[],[],[i6,.bool],false⟩,(wD (wD (.s (.r [1] [] [(0,87,[])]) (.s (wD (.b (.l zN .n))) .n))))⟩
def ii57:Ins:=⟨⟨99,[(.val (zS 16),false),(.val (.rc 1),false)],[],[],[.rc 8,.bool],false⟩,(wD (.s (.r [2] [] [(2,88,[])]) (wD (.s (wE [(4,89,[])]) .n))))⟩
def ii58:Ins:=⟨⟨61,[(.val (.rc 3),false),(.val (.rc 3),false)],[],[],[.rc 3],false⟩,(wD (.s (.r [4] [] [(4,40,[]),(2,90,[])]) .n))⟩
def ct59x1:Cut:=⟨[wA 6 .bool],[]⟩
def ii59:Ins:=⟨⟨38,[(.val (.rc 3),false),(.val .str,false),(.val i6,false)],[],[],[.bool],false⟩,(wD (.s (wE [(7,62,[])]) (.d ct59x1 .n)))⟩
def ct60x1:Cut:=⟨[wA 11 .bool,wC 1 101],[wA 101 (.rc 3)]⟩
def ii60:Ins:=⟨⟨14,[(.val (.rc 3),false)],[],[],[zS 3],true⟩,(.s (.r [1] [] []) (.s (.s (wE [(7,91,[]),(1,59,[])]) (.d ct60x1 (.c (.s (.r [11] [] [(9,60,[]),(4,60,[])]) .n) .n))) (.s (.r [2] [] []) .n)))⟩
def ct61x1:Cut:=⟨[wA 16 .bool,wB 0 (zS 16),wC 3 103],[wA 103 (.rc 1)]⟩
def ct61x2:Cut:=⟨[wA 18 i6,wA 17 (zS 16),wC 3 103,wA 19 i6],[wA 103 (.rc 1)]⟩
def ct61x3:Cut:=⟨[wA 19 i6,wA 18 i6,wA 17 (zS 16),wC 3 103],[wA 103 (.rc 1)]⟩
def ct61x4:Cut:=⟨[wA 28 i6,wA 27 (zS 5),wA 29 i6,wA 19 i6,wA 18 i6,wA 17 (zS 16),wC 3 103],[wA 103 (.rc 1)]⟩
def ct61x5:Cut:=⟨[wA 41 .bool,wA 29 i6,wA 28 i6,wA 27 (zS 5),wA 19 i6,wA 18 i6,wA 17 (zS 16),wC 3 103],[wA 103 (.rc 1)]⟩
def ii61:Ins:=⟨⟨117,[(.val (zS 16),true),(.val (.rc 1),false)],[],[],[.bool],false⟩,(wD (.s (.s (wE [(5,62,[]),(1,62,[])]) (.d ct61x1 .n)) (.s (wD (.b (.l ct61x2 (wD (wD (.s (.b (wD (wD (wD (.b (.l ct61x4 (wD (wD (.s (.b (wD (wD (.d ct61x5 .n)))) .n))))))))) (.d ct61x3 .n))))))) .n)))⟩
def ii62:Ins:=⟨⟨51,[(.val .str,false)],[],[],[.rc 1],false⟩,.n⟩
def ii63:Ins:=⟨⟨55,[],[],[],[.rc 2],false⟩,(wD (.s (wE [(1,92,[])]) .n))⟩
def ii64:Ins:=⟨⟨54,[(.val (.rc 2),false)],[],[],[.rc 3],false⟩,(wD (.s (wE [(1,93,[])]) .n))⟩
def ii65:Ins:=⟨⟨118,[],[],[],[.rc 2],false⟩,(wD (.s (wE [(1,92,[])]) .n))⟩
def ii66:Ins:=⟨⟨120,[(.val (zS 3),true)],[],[],[zS 1],true⟩,(.s (.r [0] [] []) (.s (.r [0,1,2] [] [(1,94,[])]) .n))⟩
def ct67x1:Cut:=⟨[wA 8 i6,wA 7 (zS 1),wB 1 (zS 1),wA 9 i6],[]⟩
def ii67:Ins:=⟨⟨119,[(.val (zS 1),true),(.val (zS 1),true)],[],[],[.bool],false⟩,(wD (.s (wD (.b (.l ct67x1 (wD (wD (.s (.b (wD (.s (.r [2] [] [(2,69,[])]) .n))) .n)))))) .n))⟩
def ii68:Ins:=⟨⟨121,[(.val (.rc 3),false),(.val (.rc 3),false),(.val (zS 6),false)],[],[],[zS 6,.bool],true⟩,(.s (.r [2] [] []) (.s (.r [4,5,6,8] [] [(5,95,[])]) .n))⟩
def ct69x1:Cut:=⟨[wA 8 i6,wA 7 (zS 1),wC 3 103,wA 9 i6],[wA 103 (.rc 1)]⟩
def ii69:Ins:=⟨⟨122,[(.val (zS 1),false),(.val (.rc 1),false)],[],[],[.bool],false⟩,(wD (.s (wD (.b (.l ct69x1 .n))) .n))⟩
def ii70:Ins:=⟨⟨50,[(.val (.rc 1),false)],[],[],[.rc 3],false⟩,.n⟩
def tX:Cut:=⟨[wC 2 102,wC 3 103],[wA 102 (.rc 2),wA 103 (.rc 2)]⟩
def aHT:Cut:=⟨[wA 48 .bool,wC 2 102,wC 3 103],[wA 102 (.rc 2),wA 103 (.rc 2)]⟩
def zM:Cut:=⟨[wA 55 i6,wA 56 i6,wA 5 i6,wC 2 102,wC 3 103],[wA 102 (.rc 2),wA 103 (.rc 2)]⟩
def aA9:Ins:=⟨⟨112,[(.val (.rc 2),false),(.val (.rc 2),false)],[],[],[.bool],false⟩,(wD (.b (.l tX (.b (.s (wD (.d aHT .n)) (wD (wD (.s (wD (.b (.l zM (wD (wD (.s (.b (wD (.s (wE [(10,71,[])]) .n))) .n)))))) .n))))))))⟩
def zL:Cut:=⟨[wA 16 i6,wA 15 (zS 3),wA 1 (zS 3),(2,.cl 65 [],[]),wA 17 i6],[]⟩
def ii72:Ins:=⟨⟨113,[(.val (zS 3),false),(.val (zS 3),false),(.cl 65 [],false)],[],[],[.bool],false⟩,(wD (wD (.s (wD (.b (.l zL (wD (wD (.s (.b (wD (wD (.s (wE [(3,32,[])]) .n)))) .n)))))) .n)))⟩
def aHS:Cut:=⟨[wC 3 103,wC 4 104],[wA 103 (.rc 19),wA 104 (.rc 19)]⟩
def zK:Cut:=⟨[wA 32 i6,wA 31 (zS 3),wA 33 i6,wC 3 103,wC 4 104],[wA 103 (.rc 19),wA 104 (.rc 19)]⟩
def aHr:Ins:=⟨⟨114,[(.val (.rc 3),false),(.val (.rc 19),false)],[],[],[.rc 19],false⟩,(wD (.s (wD (.b (wD (.c .n (wD (.c (wE [(4,96,[])]) (wD (.c (wD (wD (.b (.l zK (wD (wD (.s (.b (wD (wE [(2,73,[])]))) .n))))))) .n)))))))) (.d aHS .n)))⟩
def zJ:Cut:=⟨[wA 51 i6,wA 50 (zS 3),wC 3 103,wA 52 i6],[wA 103 (.rc 3)]⟩
def ii74:Ins:=⟨⟨116,[(.val (.rc 3),false),(.val (.rc 3),false)],[],[],[i6],false⟩,(wD (wD (.s (wD (.c (.s (wE [(4,97,[])]) .n) .n)) (.s (.s (wE [(4,98,[])]) .n) (wD (.s (wD (.b (.l zJ (wD (wD (.s (.b (wD (.s (wE [(6,74,[])]) .n))) .n)))))) .n))))))⟩
def ii75:Ins:=⟨⟨130,[(.val (.rc 2),false)],[],[],[i6],false⟩,(wD (.s (wE [(1,99,[])]) .n))⟩
def ii76:Ins:=⟨⟨131,[(.val (.rc 1),false),(.val (.rc 1),false)],[],[],[i6],false⟩,(wD (.s (wD (.c (.s (wE [(4,100,[])]) .n) .n)) (.s (wE [(4,100,[])]) .n)))⟩
def aHR:Cut:=⟨[wA 52 .bool,wC 2 102,wC 3 103],[wA 102 (.rc 2),wA 103 (.rc 2)]⟩
def ii77:Ins:=⟨⟨132,[(.val (.rc 2),false),(.val (.rc 2),false)],[],[],[i6],false⟩,(wD (.s (.s (wE [(3,101,[]),(1,101,[])]) (.c (.s (.s (wE [(3,101,[]),(1,101,[])]) .n) .n) .n)) (.s (.s (wE [(1,101,[])]) (.b (wD (.c (.s (wE [(10,103,[]),(9,102,[]),(4,102,[])]) .n) (wD (.c (.s (wE [(4,100,[])]) .n) (wD (.c (.s (wE [(4,76,[])]) .n) .n)))))))) (.s (.s (wE [(5,104,[]),(1,104,[])]) (.d aHR .n)) (.s (wE [(8,77,[])]) (wD (.s (wE [(8,77,[])]) .n)))))))⟩
def ii78:Ins:=⟨⟨134,[],[],[],[zS 9],true⟩,(.s (.r [0] [] []) (.s (.r [2] [] []) .n))⟩
def ii79:Ins:=⟨⟨135,[],[],[],[.str],false⟩,.n⟩
def tW:Cut:=⟨[wC 10 129,wB 11 (zS 2),wC 7 107],[wA 129 (.rc 23),wA 107 (.rc 20)]⟩
def aHP:Cut:=⟨[wA 74 .bool,wA 12 i6,wB 11 (zS 2),wC 10 129,wC 7 107],[wA 129 (.rc 23),wA 107 (.rc 20)]⟩
def aFW:Ins:=⟨⟨133,[(.val (zS 9),true),(.val .str,false),(.val .str,false)],[],[],[zS 2,.rc 20],false⟩,(.s (.r [0] [] []) (.s (.r [2,3,6] [] [(1,105,[])]) (.s (wD (.c (.s (.r [1] [] []) .n) .n)) (wD (.s (.r [0] [] []) (.s (.b (.l tW (wD (.b (wD (.s (wD (wD (.d aHP (.c (.s (.r [2] [] [(1,106,[])]) .n) .n)))) (.s (wE [(1,107,[129])]) (.s (wD (.c (.s (.r [1] [] []) .n) .n)) (.s (.s (wE [(1,75,[])]) (.c (.s (.r [2] [] [(1,106,[])]) .n) .n)) (.r [0,4] [] [])))))))))) (.s (.r [0,2] [] []) .n)))))))⟩
def ct81x1:Cut:=⟨[wC 1 101,wB 4 (zS 2)],[wA 101 (.rc 2)]⟩
def ii81:Ins:=⟨⟨136,[(.val (.rc 2),false)],[],[],[zS 2,.bool],true⟩,(.s (.r [1] [] []) (.s (.r [0] [] []) (.s (.b (.l ct81x1 (.s (.s (wE [(1,104,[])]) .n) (.b (.s (.r [0,7] [] []) .n))))) (.s (.s (wE [(1,108,[])]) (.c (.s (.r [0] [] []) .n) .n)) (.s (.r [0,1] [] []) .n)))))⟩
def ii82:Ins:=⟨⟨137,[(.val (zS 16),false),(.val (zS 8),false),(.val (.rc 2),false)],[],[],[.rc 3,i6],false⟩,(wD (wD (.s (wE [(2,109,[114])]) (wD (.s (.s (wE [(1,110,[])]) .n) .n)))))⟩
def ct83x1:Cut:=⟨[wA 0 (zS 2),wA 1 .str,wA 6 i6,wC 4 104],[(104,.val (.rc 2),[(6,true)])]⟩
def ct83x2:Cut:=⟨[wA 38 .bool,wA 7 (zS 2),wA 6 i6,wA 0 (zS 2),wA 1 .str,wC 4 104],[(104,.val (.rc 2),[(6,true)])]⟩
def ii83:Ins:=⟨⟨138,[(.val (zS 2),false),(.val .str,false)],[],[],[.rc 2,.bool],false⟩,(wD (.s (wD (.b (.l ct83x1 (wD (.s (.b (.s (.r [5,6,8] [] [(4,81,[])]) (.s (wE [(12,43,[])]) (.d ct83x2 .n)))) .n))))) .n))⟩
def ct84x1:Cut:=⟨[wB 1 (zS 21),wA 3 i6,wB 2 (zS 1)],[]⟩
def ii84:Ins:=⟨⟨139,[],[],[],[zS 1],true⟩,(.s (.r [0] [] []) (.s (.r [1] [] [(0,87,[])]) (.s (.r [0] [] []) (.s (wD (.b (.l ct84x1 (wD (.s (.b (.r [0,9] [] [(6,43,[])])) .n))))) (.s (.r [0,1] [] []) .n)))))⟩
def ii85:Ins:=⟨⟨148,[(.val i6,false)],[],[],[.str],false⟩,(wD (.s (wE [(1,111,[])]) .n))⟩
def ii86:Ins:=⟨⟨149,[(.val .str,false),(.val .str,false)],[],[],[.str,.str],false⟩,(wD (.s (.r [6] [] [(1,112,[])]) (wD (.s (.r [6] [] [(1,112,[])]) (.s (.r [8] [] [(3,112,[]),(2,113,[])]) (.s (.r [0,2,3,4,6] [] [(2,114,[])]) (.s (.r [0,1,2,3,4,6] [] [(2,114,[])]) (.s (.r [3,4,5,6] [] [(6,115,[]),(4,115,[])]) .n))))))))⟩
def ii87:Ins:=⟨⟨154,[],[],[],[zS 21],true⟩,(.s (.r [0] [] []) (.s (.r [26] [] []) .n))⟩
def tU:Cut:=⟨[wA 0 (zS 16),wC 3 103,wA 7 i6],[wA 103 (.rc 1)]⟩
def zI:Cut:=⟨[wA 8 (zS 8),wA 9 i6,wA 7 i6,wA 0 (zS 16),wC 3 103],[wA 103 (.rc 1)]⟩
def aFm:Ins:=⟨⟨145,[(.val (zS 16),false),(.val (.rc 1),false)],[],[],[i6,i6,.bool],false⟩,(wD (.s (wD (.b (.l tU (wD (.s (.b (.s (.r [5] [] [(4,89,[])]) (wD (.b (.l zI .n))))) .n))))) .n))⟩
def aHO:Cut:=⟨[wA 5 .bool,wC 1 101],[wA 101 (.rc 16)]⟩
def ii89:Ins:=⟨⟨146,[(.val (.rc 16),false)],[],[],[zS 8],false⟩,(.s (.r [1] [] []) (.s (wD (.b (wD (.d aHO (.c (.s (.r [1,2] [] []) .n) .n))))) (.s (.r [0] [] []) .n)))⟩
def ii90:Ins:=⟨⟨91,[],[],[],[.rc 3],false⟩,(wD (.s (wE [(1,17,[]),(0,48,[])]) .n))⟩
def ct91x1:Cut:=⟨[wA 2 .bool],[]⟩
def ii91:Ins:=⟨⟨42,[(.val (.rc 3),false)],[],[],[.bool],false⟩,(wD (.s (wE [(6,116,[])]) (.d ct91x1 .n)))⟩
def ii92:Ins:=⟨⟨110,[(.val (.rc 1),false)],[],[],[.rc 2],false⟩,.n⟩
def ii93:Ins:=⟨⟨109,[(.val (.rc 2),false)],[],[],[.rc 3],false⟩,.n⟩
def ct94x1:Cut:=⟨[wA 9 i6,wA 8 (zS 3),wC 3 103,wA 10 i6,wC 5 105],[wA 103 i6,wB 105 (zS 1)]⟩
def ii94:Ins:=⟨⟨159,[(.val (zS 3),true),(.val i6,false)],[],[],[zS 1],true⟩,(.s (.r [1] [] []) (wD (.s (wD (.b (.l ct94x1 (wD (wD (.s (.b (wD (wE [(2,117,[103,105])]))) .n)))))) (.s (.r [0,1] [] []) .n))))⟩
def ct95x1:Cut:=⟨[wA 21 i6,wA 20 (zS 3),wB 1 (zS 3),wA 22 i6,wB 8 (zS 6)],[]⟩
def ii95:Ins:=⟨⟨160,[(.val (zS 3),true),(.val (zS 3),true),(.val (zS 6),false)],[],[],[zS 6,.bool],true⟩,(.s (.r [0] [] []) (.s (wD (.c (.s (.r [0] [] []) .n) .n)) (.s (.r [0,1,2] [] [(1,118,[])]) (.s (wD (.b (.l ct95x1 (wD (wD (.s (.b (wD (.s (.r [5,6,7,8,10] [] [(6,119,[])]) (.s (wD (.c (.s (.r [0] [] []) .n) .n)) (.r [0,1] [] []))))) .n)))))) (.s (.r [0,1] [] []) .n)))))⟩
def ii96:Ins:=⟨⟨155,[(.val (.rc 2),false)],[],[],[i6],false⟩,(wD (.s (wE [(1,120,[])]) .n))⟩
def tT:Cut:=⟨[wC 2 102,wC 3 103],[wA 102 (.rc 2),wA 103 (.rc 2)]⟩
def aHN:Cut:=⟨[wA 14 .bool,wC 2 102,wC 3 103],[wA 102 (.rc 2),wA 103 (.rc 2)]⟩
def aFV:Ins:=⟨⟨157,[(.val (.rc 2),false),(.val (.rc 2),false)],[],[],[i6],false⟩,(wD (.s (.b (.l tT (.s (.s (wE [(4,121,[]),(1,121,[])]) (.d aHN .n)) (.b (.s (.s (wE [(8,97,[])]) .n) .n))))) (.s (.s (wE [(5,122,[]),(2,122,[])]) .n) (.s (wD (.b (wD (.c (.s (wE [(2,123,[])]) .n) (wD (.c (.s (wE [(4,124,[])]) .n) .n)))))) (.s (.s (wE [(6,124,[])]) .n) (.s (wE [(6,124,[])]) .n))))))⟩
def ii98:Ins:=⟨⟨158,[(.val (.rc 1),false),(.val (.rc 1),false)],[],[],[i6],false⟩,(wD (.s (.s (wE [(4,124,[])]) .n) (.s (wE [(4,124,[])]) .n)))⟩
def aHM:Cut:=⟨[wA 13 .bool,wC 2 102,wA 1 i6],[wA 102 (.rc 2)]⟩
def ii99:Ins:=⟨⟨166,[(.val (.rc 2),false),(.val i6,false)],[],[],[i6],false⟩,(wD (.s (wD (.d aHM .n)) (.s (wE [(6,99,[])]) (wD (.s (wE [(8,99,[])]) .n)))))⟩
def ii100:Ins:=⟨⟨167,[(.val .str,false),(.val .str,false)],[],[],[i6],false⟩,.n⟩
def ii101:Ins:=⟨⟨168,[(.val (.rc 2),false)],[],[],[i6],false⟩,.n⟩
def ii102:Ins:=⟨⟨170,[(.val .str,false),(.val .str,false)],[],[],[.str],false⟩,(wD (.s (.r [6] [] [(1,112,[])]) (.s (.r [6] [] [(1,112,[])]) (.s (.r [3,4,5,6] [] [(6,115,[]),(5,125,[])]) .n))))⟩
def aCe:Cut:=⟨[wA 19 .bool,wA 7 .bool,wA 5 .bool,wA 6 (.sl i6),wA 8 (.sl i6)],[]⟩
def aCd:Cut:=⟨[wA 25 .bool,wA 5 .bool,wA 6 (.sl i6),wA 8 (.sl i6)],[]⟩
def sJ:Ins:=⟨⟨169,[(.val .str,false),(.val .str,false)],[],[],[i6],false⟩,(wD (.s (.r [6] [] [(1,112,[])]) (.s (.r [6] [] [(1,112,[])]) (.s (.b (wD (.d aCe (.c .n (wD (.d aCd (.c .n (wD (.c (.s (.r [0,1,2] [] [(2,126,[])]) .n) .n))))))))) (.s (.r [0,1,2] [] [(2,126,[])]) .n)))))⟩
def aCc:Cut:=⟨[wA 2 .bool],[]⟩
def aBi:Ins:=⟨⟨171,[(.val (.rc 2),false)],[],[],[.bool],false⟩,(wD (wD (.d aCc .n)))⟩
def rL:Cut:=⟨[wA 5 i6,wA 0 .str,wC 3 103,wB 4 (zS 22)],[wA 103 (.rc 20)]⟩
def yX:Ins:=⟨⟨172,[(.val .str,false)],[],[],[zS 22,.rc 20],false⟩,(.s (.r [0] [] []) (.s (wD (.c (.s (.r [1] [] [(0,106,[])]) .n) .n)) (.s (.r [0] [] []) (wD (.b (.l rL (.b (.s (wE [(2,127,[])]) (.s (wD (.c (.s (.r [3] [] [(2,106,[])]) .n) .n)) (.s (wD (.c (.s (.r [0,7] [] []) .n) .n)) (.s (wE [(2,128,[])]) (.s (wD (.c (.s (.r [1] [] []) .n) .n)) (.s (.r [0,4] [] []) .n)))))))))))))⟩
def ii106:Ins:=⟨⟨173,[(.val i6,false),(.val i6,false)],[],[],[.rc 20],false⟩,.n⟩
def aCb:Cut:=⟨[wA 31 .bool,wA 24 i6,wC 6 106,wC 7 107,wC 0 0,wA 1 i6,wC 4 104,wC 5 105],[wA 0 (.rc 23),wA 106 (.rc 22),(107,.val (.rc 2),[(6,true)]),(104,.val (.rc 2),[(6,true)]),wA 105 (.rc 20)]⟩
def aCa:Cut:=⟨[wC 0 0,wA 8 .str,wC 7 107,wC 6 106,wC 4 104,wC 5 105],[wA 0 (.rc 23),(107,.val (.rc 2),[(6,true)]),wA 106 (.rc 22),(104,.val (.rc 2),[(6,true)]),wA 105 (.rc 20)]⟩
def sI:Ins:=⟨⟨174,[(.lc 0 0 [],false),(.val i6,false)],[(.val (.rc 23),[])],[[]],[.rc 2,.rc 20],false⟩,(wD (wD (wD (.s (wD (.b (wD (.c (.s (wE [(3,106,[])]) .n) (wD (.d aCb (.c (.s (wE [(3,106,[])]) .n) (wD (.c .n (wD (.c (wD (.s (wE [(2,53,[])]) .n)) (wD (.c (wD (wD (wD (.d aCa (.s (.r [7] [] [(7,130,[])]) (.s (wD (.c (.s (wE [(4,106,[])]) .n) .n)) (.s (wE [(1,52,[])]) .n))))))) .n))))))))))))) (.s (wD (.c (.s (wE [(3,106,[])]) .n) .n)) (wD (.s (wD (.c (.s (wE [(3,107,[0])]) (wD (.s (.r [4] [] [(4,55,[]),(1,52,[]),(0,43,[])]) .n))) .n)) (.s (wE [(3,129,[0])]) .n))))))))⟩
def ii108:Ins:=⟨⟨175,[(.val (.rc 2),false)],[],[],[.bool],false⟩,(wD (.s (wE [(2,34,[]),(1,48,[])]) .n))⟩
def ct109x1:Cut:=⟨[wA 30 .bool,wA 29 i6,wC 4 104,wA 2 (zS 6),wC 0 0,wC 6 106],[wA 0 (.rc 24),wA 104 (.rc 2),(106,.val (.rc 3),[(9,true),(10,true)])]⟩
def ct109x2:Cut:=⟨[wA 73 .bool,wA 10 (zS 2),wC 4 104,wA 2 (zS 6),wC 0 0,wC 6 106],[wA 0 (.rc 24),wA 104 (.rc 2),(106,.val (.rc 3),[(9,true),(10,true)])]⟩
def ct109x3:Cut:=⟨[wA 127 .bool,wC 0 0,wC 14 114,wA 2 (zS 6),wC 6 106],[wA 0 (.rc 24),wA 114 (.rc 2),(106,.val (.rc 3),[(9,true),(10,true)])]⟩
def ct109x4:Cut:=⟨[wA 148 .bool,wC 4 104,wA 13 (zS 2),wA 2 (zS 6),wC 0 0,wC 12 112,wC 6 106],[wA 0 (.rc 24),wA 104 (.rc 2),wA 112 (.rc 1),(106,.val (.rc 3),[(9,true),(10,true)])]⟩
def ct109x5:Cut:=⟨[wA 13 (zS 2),wA 2 (zS 6),wA 24 i6,wC 0 0,wC 12 112,wB 23 (zS 3),wC 6 106],[wA 0 (.rc 24),wA 112 (.rc 1),(106,.val (.rc 3),[(9,true),(10,true)])]⟩
def ii109:Ins:=⟨⟨176,[(.lc 0 0 [],false),(.val (.rc 2),false),(.val (zS 6),false)],[(.val (.rc 24),[])],[[]],[.rc 3,i6],false⟩,(wD (.s (wD (.b (wD (.d ct109x1 (.c (.s (wE [(1,17,[])]) .n) (wD (.c (.s (.s (wE [(2,131,[])]) (.c (.s (wE [(1,17,[])]) .n) .n)) (.s (.s (.r [0,3] [] [(3,132,[])]) .n) (.s (wE [(2,39,[])]) .n))) .n))))))) (.s (.r [2,3,5] [] [(1,81,[])]) (.s (wD (.d ct109x2 .n)) (.s (.r [8] [] []) (.s (wD (.b (.s (wE [(0,43,[])]) (.c (wD (.s (wE [(3,17,[])]) .n)) (.s (wE [(0,43,[])]) (.c (.s (.r [1,2,3] [] [(3,133,[0])]) .n) (.s (wE [(0,43,[])]) (.c (.s (.r [1] [] [(1,134,[])]) (wD (.s (.r [4,5,7] [] [(3,81,[])]) (.s (.s (wE [(5,135,[0])]) (.d ct109x3 .n)) (.s (.r [2,3] [] [(3,109,[0])]) .n))))) .n)))))))) (.s (.s (.r [5] [] [(5,136,[])]) (.s (wE [(3,137,[])]) (.d ct109x4 (.c (.s (.s (wE [(1,135,[0])]) .n) (.s (.r [5] [] [(5,138,[])]) (wD (.s (.r [2,3] [] [(3,109,[0])]) .n)))) .n)))) (.s (.r [0] [] []) (.s (wD (.b (.l ct109x5 (wD (.s (.b (.s (.r [6] [] [(6,109,[0])]) (wD (.r [0,4] [] [])))) .n))))) (.s (wE [(2,139,[0])]) (wD (wD (.s (.r [1,2] [] [(2,22,[])]) .n)))))))))))))⟩
def aB9:Cut:=⟨[wA 2 .bool],[]⟩
def aBh:Ins:=⟨⟨177,[(.val (.rc 3),false)],[],[],[.bool],false⟩,(wD (.s (wE [(10,142,[]),(5,141,[]),(1,140,[])]) (.d aB9 .n)))⟩
def ii111:Ins:=⟨⟨180,[(.val i6,false)],[],[],[.str],false⟩,(wD (.s (wE [(1,143,[])]) .n))⟩
def aB8:Cut:=⟨[wA 14 .bool,wA 0 .str],[]⟩
def aB7:Cut:=⟨[wA 5 i6,wA 0 .str,wA 4 .bool],[]⟩
def rK:Cut:=⟨[wA 5 i6,wA 0 .str,wA 7 i6,wA 4 .bool,wB 6 (.sl i6)],[]⟩
def mL:Ins:=⟨⟨181,[(.val .str,false)],[],[],[.bool,.sl i6],false⟩,(.s (.r [1] [] []) (.s (.s (wE [(1,144,[])]) (.d aB8 (.c (.s (.r [1] [] []) .n) .n))) (wD (wD (wD (.d aB7 (.s (.r [0] [] []) (.s (wD (.b (.l rK (wD (.s (.b (.r [0,8] [] [])) .n))))) (.s (.r [1,3] [] []) .n)))))))))⟩
def ct113x1:Cut:=⟨[wA 8 (.sl i6),wA 6 (.sl i6)],[]⟩
def ii113:Ins:=⟨⟨182,[(.val .str,false),(.val .str,false)],[],[],[.str],false⟩,(wD (.s (.r [6] [] [(1,112,[])]) (.s (.r [6] [] [(1,112,[])]) (.s (.b (.l ct113x1 (wD (.b (.s (.r [0,2,3,4,6,7] [] [(2,114,[])]) (.r [0,1,2,3] [] [])))))) (.s (.r [0,1] [] [(1,115,[])]) .n)))))⟩
def ct114x1:Cut:=⟨[wA 0 (.sl i6),wA 1 (.sl i6),wA 8 i6,(6,.rw 111,[]),wA 7 (.sl i6)],[(111,.row i6,[])]⟩
def ct114x2:Cut:=⟨[wA 8 i6,wA 0 (.sl i6),wA 1 (.sl i6),(6,.rw 111,[]),wA 7 (.sl i6)],[(111,.row i6,[])]⟩
def ii114:Ins:=⟨⟨183,[(.val (.sl i6),false),(.val (.sl i6),false)],[],[],[.sl i6,.sl i6],false⟩,(.s (.r [0,1] [] []) (.s (.r [3] [] []) (.s (.r [0] [] []) (.s (wD (.b (.l ct114x1 (wD (.s (.b (.s (.r [7,8] [] [(7,145,[])]) (.b (.l ct114x2 (.s (.s (.r [2] [] [(2,126,[])]) .n) (.b (.s (.r [0,2,3] [] [(2,146,[])]) .n))))))) .n))))) (.s (.r [0,1,2,3,4] [(1,40)] [(1,145,[])]) .n)))))⟩
def aB6:Cut:=⟨[wA 1 (.sl i6),wB 5 (.sl (.int .u8))],[]⟩
def rJ:Cut:=⟨[wA 1 (.sl i6),wA 6 i6,wB 5 (.sl (.int .u8))],[]⟩
def qY:Ins:=⟨⟨184,[(.val .bool,false),(.val (.sl i6),false)],[],[],[.str],false⟩,(wD (.s (.r [0,1,2] [] [(1,145,[])]) (wD (.s (.r [0] [] []) (.s (wD (.c (.r [0,3] [] []) .n)) (.d aB6 (.s (wD (.b (.l rJ (wD (.s (.b (.r [0,9] [] [])) .n))))) .n)))))))⟩
def ct116x1:Cut:=⟨[wA 2 .bool],[]⟩
def ii116:Ins:=⟨⟨101,[(.val (.rc 2),false)],[],[],[.bool],false⟩,(wD (wD (.d ct116x1 .n)))⟩
def ct117x1:Cut:=⟨[wA 16 i6,wA 15 (zS 3),(1,.cl 195 [0,1],[]),wA 17 i6],[wA 0 i6,wB 1 (zS 1)]⟩
def ct117x2:Cut:=⟨[],[wA 0 i6,wB 1 (zS 1)]⟩
def ii117:Ins:=⟨⟨194,[(.val (.rc 3),false),(.cl 195 [0,1],false)],[(.val i6,[]),(.val (zS 1),[(0,true)])],[[],[(0,true)]],[.bool],false⟩,(wD (.s (.s (wE [(2,147,[0,1])]) .n) (.s (wD (.c (wD (.b (.l ct117x1 (wD (wD (.s (.b (wD (.s (wE [(2,117,[0,1])]) .n))) .n)))))) .n)) (.d ct117x2 .n))))⟩
def ii118:Ins:=⟨⟨197,[(.val (zS 6),false)],[],[],[zS 6],true⟩,(.s (.r [0] [] []) (wD (.s (.r [3] [] []) .n)))⟩
def ct119x1:Cut:=⟨[wA 44 .bool,wC 3 103,wC 4 104,wB 2 (zS 6)],[wA 103 (.rc 3),wA 104 (.rc 3)]⟩
def ct119x2:Cut:=⟨[wA 62 .bool,wC 3 103,wC 4 104,wB 2 (zS 6)],[wA 103 (.rc 3),wA 104 (.rc 3)]⟩
def ct119x3:Cut:=⟨[wA 66 i6,wA 65 (zS 3),wC 4 104,wA 67 i6,wB 2 (zS 6)],[wA 104 (.rc 3)]⟩
def ii119:Ins:=⟨⟨198,[(.val (.rc 3),false),(.val (.rc 3),false),(.val (zS 6),true)],[],[],[zS 6,.bool],true⟩,(.s (.r [2] [] []) (.s (wD (.c (.s (.r [3] [] [(3,148,[])]) (.s (wD (.c (.s (.r [0,7] [] []) .n) .n)) (.s (.r [0,4] [] [(3,32,[])]) .n))) .n)) (.s (wD (.d ct119x1 (.c (.s (.r [0,4] [] [(3,32,[])]) .n) .n))) (.s (wD (.d ct119x2 (.c (.s (.r [0,1] [] []) .n) .n))) (.s (wD (.b (.l ct119x3 (wD (wD (.s (.b (wD (.s (.r [6,7,8,9,11] [] [(7,119,[])]) (.s (wD (.c (.s (.r [0,1] [] []) .n) .n)) (.r [0,1] [] []))))) .n)))))) (.s (.r [0,1] [] []) .n))))))⟩
def oG:Cut:=⟨[wC 2 102,wA 1 i6],[wA 102 (.rc 2)]⟩
def aB5:Cut:=⟨[wA 12 .bool,wC 2 102,wA 1 i6],[wA 102 (.rc 2)]⟩
def pL:Ins:=⟨⟨188,[(.val (.rc 2),false),(.val i6,false)],[],[],[i6],false⟩,(wD (.s (.b (.l oG (.s (wD (.d aB5 .n)) (.b (.s (wE [(6,120,[])]) .n))))) .n))⟩
def aB4:Cut:=⟨[wA 2 .bool],[]⟩
def aBg:Ins:=⟨⟨190,[(.val (.rc 2),false)],[],[],[.bool],false⟩,(wD (wD (.d aB4 .n)))⟩
def ii122:Ins:=⟨⟨191,[(.val i6,false)],[],[],[i6],false⟩,.n⟩
def ii123:Ins:=⟨⟨192,[(.val (.rc 2),false),(.val (.rc 2),false)],[],[],[i6],false⟩,(wD (.s (wD (.c (.s (wE [(4,149,[])]) .n) .n)) (.s (wE [(10,149,[]),(9,150,[]),(4,150,[])]) .n)))⟩
def ii124:Ins:=⟨⟨193,[(.val .str,false),(.val .str,false)],[],[],[i6],false⟩,.n⟩
def oF:Cut:=⟨[wA 0 (.sl i6),wA 1 (.sl i6),wA 6 i6,(5,.rw 116,[])],[(116,.row i6,[])]⟩
def oE:Cut:=⟨[wA 7 i6,wA 8 i6,wA 6 i6,wA 0 (.sl i6),wA 1 (.sl i6),(5,.rw 116,[])],[(116,.row i6,[])]⟩
def aB3:Cut:=⟨[wA 30 .bool,wA 7 i6,wA 8 i6,wA 6 i6,wA 0 (.sl i6),wA 1 (.sl i6),(5,.rw 116,[])],[(116,.row i6,[])]⟩
def aB2:Cut:=⟨[wA 9 i6,wA 8 i6,wA 6 i6,wA 0 (.sl i6),wA 1 (.sl i6),(5,.rw 116,[])],[(116,.row i6,[])]⟩
def iE:Ins:=⟨⟨202,[(.val (.sl i6),false),(.val (.sl i6),false)],[],[],[.sl i6],false⟩,(.s (.r [0] [] []) (.s (.r [7] [] []) (.s (wD (.b (.l oF (wD (.s (.b (wD (wD (.b (.l oE (.s (wD (.d aB3 .n)) (.s (.b (wD (wD (.d aB2 .n)))) .n))))))) .n))))) (.s (.r [0,1,2] [(1,65)] [(1,145,[])]) .n))))⟩
def rI:Cut:=⟨[wA 0 (.sl i6),wA 1 (.sl i6),wA 5 i6],[]⟩
def vS:Ins:=⟨⟨201,[(.val (.sl i6),false),(.val (.sl i6),false)],[],[],[i6],false⟩,(wD (wD (.s (wD (.b (.l rI .n))) .n)))⟩
def oD:Cut:=⟨[wA 0 .str,wA 1 i6],[]⟩
def oC:Cut:=⟨[wA 0 .str,wA 1 i6],[]⟩
def rH:Cut:=⟨[wA 6 i6,wA 0 .str,wA 1 i6],[]⟩
def aB1:Cut:=⟨[wA 33 .bool,wA 0 .str,wA 1 i6],[]⟩
def iY:Ins:=⟨⟨203,[(.val .str,false),(.val i6,false)],[],[],[i6,.bool],false⟩,(wD (.s (.b (.l oD (wD (.b (.b (.s (wE [(3,151,[])]) (.c .n (wD (.c (.b (.l oC (.s (wD (.d aB1 .n)) .n))) (.s (wE [(2,152,[])]) (.c (wD (wD (.b (.l rH (wD (.b (.b (wD (.c .n (.s (wE [(2,152,[])]) (.c .n (.s (wE [(2,152,[])]) .n)))))))))))) .n))))))))))) .n))⟩
def aB0:Cut:=⟨[wA 65 .bool,wC 7 107,wA 1 i6,wC 8 108,wC 4 104,wC 6 106],[wA 107 (.rc 22),wA 108 (.rc 20),wA 104 (.rc 22),wA 106 (.rc 20)]⟩
def aBZ:Cut:=⟨[wC 7 107,wA 1 i6,wC 8 108,wC 4 104,wC 6 106],[wA 107 (.rc 22),wA 108 (.rc 20),wA 104 (.rc 22),wA 106 (.rc 20)]⟩
def aBY:Cut:=⟨[wC 7 107,wA 10 i6,wC 8 108,wC 4 104,wC 6 106],[wA 107 (.rc 22),wA 108 (.rc 20),wA 104 (.rc 22),wA 106 (.rc 20)]⟩
def aBX:Cut:=⟨[wA 163 .bool,wA 1 i6,wC 7 107,wA 10 i6,wC 8 108,wC 4 104,wC 6 106],[wA 107 (.rc 22),wA 108 (.rc 20),wA 104 (.rc 22),wA 106 (.rc 20)]⟩
def aBW:Cut:=⟨[wC 7 107,wA 1 i6,wC 8 108,wC 4 104,wC 6 106],[wA 107 (.rc 22),wA 108 (.rc 20),wA 104 (.rc 22),wA 106 (.rc 20)]⟩
def iX:Ins:=⟨⟨204,[(.val .str,false),(.val i6,false)],[],[],[.rc 22,i6,.rc 20],false⟩,(wD (wD (wD (.s (wD (.b (wD (.c .n (wD (.c .n (wD (.c .n (wD (.c (wD (.s (wE [(3,153,[])]) (.s (wD (.d aB0 (.c (wE [(2,106,[])]) .n))) (.d aBW .n)))) (wD (.c (wD (.s (wE [(3,153,[])]) (.s (wD (.c (wE [(1,154,[])]) .n)) (.d aBZ .n)))) (.s (wE [(1,155,[])]) (.c (.s (wE [(3,106,[])]) .n) .n)))))))))))))) (.s (wE [(2,156,[])]) (wD (.s (.s (wE [(2,152,[])]) (.c (.s (wE [(4,157,[])]) .n) .n)) (.s (wE [(1,158,[])]) (.s (.b (wD (.c .n (wD (.c (.s (.s (wE [(1,159,[])]) (.c (.s (wE [(3,106,[])]) .n) .n)) (wD (.s (wE [(4,86,[]),(3,159,[]),(1,159,[])]) (.s (wE [(7,160,[]),(2,160,[])]) (.d aBX (.c (.s (wE [(3,106,[])]) .n) .n)))))) (wD (wD (wE [(1,154,[])])))))))) (.d aBY .n))))))))))⟩
def oB:Cut:=⟨[wA 1 i6,wC 0 0,wB 6 (zS 2),wC 7 107,wC 4 104,wC 5 105],[wA 0 (.rc 23),wA 107 (.rc 2),(104,.val (.rc 2),[(6,true)]),wA 105 (.rc 20)]⟩
def aBV:Cut:=⟨[wA 43 .bool,wB 6 (zS 2),wA 1 i6,wC 0 0,wC 7 107,wC 4 104,wC 5 105],[wA 0 (.rc 23),wA 107 (.rc 2),(104,.val (.rc 2),[(6,true)]),wA 105 (.rc 20)]⟩
def aBU:Cut:=⟨[wC 0 0,wB 6 (zS 2),wC 7 107,wC 4 104,wC 5 105],[wA 0 (.rc 23),wA 107 (.rc 2),(104,.val (.rc 2),[(6,true)]),wA 105 (.rc 20)]⟩
def rG:Cut:=⟨[wB 6 (zS 2),wA 13 i6,wC 7 107,wC 4 104,wC 5 105],[wA 0 (.rc 23),wA 107 (.rc 2),(104,.val (.rc 2),[(6,true)]),wA 105 (.rc 20)]⟩
def iW:Ins:=⟨⟨206,[(.lc 0 0 [],false),(.val i6,false)],[(.val (.rc 23),[])],[[]],[.rc 2,.rc 20],false⟩,(wD (.s (.r [0] [] []) (.s (wE [(0,48,[])]) (.s (.b (.l oB (wD (.b (.s (wD (.d aBV (.c (wD (.s (wE [(2,107,[0])]) (wD (wD (.s (wD (wD (.b (wD (.c .n (wD (.c (.s (wE [(3,106,[])]) .n) (.s (wE [(3,106,[])]) .n)))))))) .n))))) .n))) (.s (wE [(2,107,[0])]) (wD (.r [0,4] [] [])))))))) (.d aBU (wD (.s (wD (.b (.l rG (wD (.s (.b (wE [(5,54,[])])) .n))))) .n)))))))⟩
def aBT:Cut:=⟨[wA 27 .bool,wC 8 108,wA 1 .str,wA 2 .str,wC 6 106],[wA 108 (.rc 9),wA 106 (.rc 1)]⟩
def rF:Cut:=⟨[wC 8 108,wA 10 i6,wA 1 .str,wA 2 .str,wC 6 106],[wA 108 (.rc 9),wA 106 (.rc 1)]⟩
def pJ:Ins:=⟨⟨205,[(.val (zS 9),false),(.val .str,false),(.val .str,false)],[],[],[.rc 1,i6],false⟩,(wD (.s (.r [0,2] [] [(2,161,[])]) (wD (.s (wD (.d aBT .n)) (.s (wD (.b (.l rF .n))) .n)))))⟩
def aBS:Cut:=⟨[wA 2 .bool],[]⟩
def aBf:Ins:=⟨⟨207,[(.val (.rc 1),false)],[],[],[.bool],false⟩,(wD (.s (wE [(9,43,[]),(4,43,[]),(1,162,[])]) (.d aBS .n)))⟩
def ct132x1:Cut:=⟨[wC 3 103,wA 0 (zS 6),wA 6 i6,wC 4 104],[wA 103 (.rc 1),(104,.val (.rc 3),[(9,true),(10,true)])]⟩
def ii132:Ins:=⟨⟨178,[(.val (zS 6),false),(.val (.rc 1),false)],[],[],[.rc 3,.bool],false⟩,(wD (.s (wD (.b (.l ct132x1 .n))) .n))⟩
def ct133x1:Cut:=⟨[wA 9 (zS 2),wA 8 (zS 1),wA 12 i6,wC 0 0,wA 1 (zS 2),wB 11 (zS 6),wA 2 (zS 6),wC 6 106],[wA 0 (.rc 24),(106,.val (.rc 3),[(9,true),(10,true)])]⟩
def ii133:Ins:=⟨⟨208,[(.lc 0 0 [],false),(.val (zS 2),false),(.val (zS 6),false)],[(.val (.rc 24),[])],[[]],[.rc 3,i6],false⟩,(wD (wD (.s (.r [4,5,8,9] [] [(3,163,[])]) (wD (.s (.r [0] [] []) (.s (wD (.b (.l ct133x1 (wD (.s (.b (.s (.r [6] [] [(6,109,[0])]) (wD (.r [0,9] [] [])))) .n))))) (.s (.r [4,7] [] [(7,109,[0])]) .n)))))))⟩
def ct134x1:Cut:=⟨[wA 6 i6,wB 4 (zS 2),wA 0 (zS 2),wC 2 102],[(102,.val (.rc 2),[(6,true)])]⟩
def ct134x2:Cut:=⟨[wA 43 .bool,wA 6 i6,wB 4 (zS 2),wA 0 (zS 2),wC 2 102],[(102,.val (.rc 2),[(6,true)])]⟩
def ii134:Ins:=⟨⟨209,[(.val (zS 2),false)],[],[],[.rc 2,.bool],false⟩,(wD (wD (.s (.r [4,5,7] [] [(3,81,[])]) (wD (.s (wD (.b (.l ct134x1 (wD (.s (.b (.s (.r [5,6,8] [] [(4,81,[])]) (wD (.d ct134x2 .n)))) .n))))) (wD (.s (.r [4,7,12,14] [] [(14,164,[]),(12,164,[]),(7,55,[]),(4,55,[])]) .n)))))))⟩
def ii135:Ins:=⟨⟨210,[(.lc 0 0 [],false)],[(.val (.rc 24),[])],[[]],[.bool],false⟩,.n⟩
def nZ:Cut:=⟨[wC 3 103,wA 0 (zS 16),wA 6 i6,wC 4 104],[wA 103 (.rc 1),(104,.val (.rc 10),[(2,true),(13,true),(14,true)])]⟩
def aBR:Cut:=⟨[wA 28 .bool,wA 6 i6,wC 3 103,wA 0 (zS 16),wC 4 104],[wA 103 (.rc 1),(104,.val (.rc 10),[(2,true),(13,true),(14,true)])]⟩
def pI:Ins:=⟨⟨211,[(.val (zS 16),false),(.val (.rc 1),false)],[],[],[.rc 10,.bool],false⟩,(wD (.s (wD (.b (.l nZ (wD (.s (.b (wD (.d aBR .n))) .n))))) .n))⟩
def ct137x1:Cut:=⟨[wA 8 .bool],[]⟩
def ii137:Ins:=⟨⟨212,[(.val (.rc 1),false)],[],[],[.bool],false⟩,(wD (wD (.s (wD (.b (wD (.d ct137x1 .n)))) .n)))⟩
def ct138x1:Cut:=⟨[wA 37 .bool,wA 7 (zS 2),wC 3 103,wA 0 (zS 16),wC 4 104],[wA 103 (.rc 2),(104,.val (.rc 2),[(6,true)])]⟩
def ct138x2:Cut:=⟨[wA 10 (zS 2),wA 14 i6,wA 0 (zS 16),wC 13 113,wC 4 104],[wA 113 (.rc 10),(104,.val (.rc 2),[(6,true)])]⟩
def ct138x3:Cut:=⟨[wA 88 .bool,wA 10 (zS 2),wA 14 i6,wA 0 (zS 16),wC 13 113,wC 4 104],[wA 113 (.rc 10),(104,.val (.rc 2),[(6,true)])]⟩
def ct138x4:Cut:=⟨[wA 0 (zS 16),wC 13 113,(15,.val (zS 2),[(0,false)]),wC 4 104],[wA 113 (.rc 10),(104,.val (.rc 2),[(6,true)])]⟩
def ii138:Ins:=⟨⟨213,[(.val (zS 16),false),(.val (.rc 2),false)],[],[],[.rc 2,.bool,i6],false⟩,(wD (.s (.r [2,3,5] [] [(1,81,[])]) (.s (wD (.d ct138x1 .n)) (.s (.r [8] [] []) (.s (.s (wE [(1,137,[])]) (.c (.s (.r [2,3] [] [(3,165,[])]) .n) .n)) (.s (.r [2] [] [(2,136,[])]) (wD (wD (wD (.d ct138x2 (.s (wD (.d ct138x3 .n)) (.s (.r [7] [] []) (.s (wD (.c (.r [0,4,7] [] [(4,55,[])]) .n)) (.d ct138x4 (.s (.r [0,5,6,7] [] []) .n)))))))))))))))⟩
def ct139x1:Cut:=⟨[wA 6 i6,wC 0 0,wC 3 103],[wA 0 (.rc 24),wA 103 (.rc 1)]⟩
def ii139:Ins:=⟨⟨214,[(.lc 0 0 [],false),(.val (.rc 1),false)],[(.val (.rc 24),[])],[[]],[i6,.bool],false⟩,(wD (.s (wD (.b (.l ct139x1 .n))) (.s (.r [5] [] [(5,21,[])]) .n)))⟩
def ii140:Ins:=⟨⟨215,[(.val (.rc 3),false)],[],[],[i6],false⟩,(wD (.s (wE [(1,166,[])]) .n))⟩
def ii141:Ins:=⟨⟨216,[(.val (.rc 3),false)],[],[],[i6],false⟩,(wD (.s (wE [(1,167,[])]) .n))⟩
def aBQ:Cut:=⟨[wA 2 .bool],[]⟩
def aBP:Cut:=⟨[wA 2 .bool],[]⟩
def aBO:Cut:=⟨[wA 57 .bool,wC 1 101],[wA 101 (.rc 3)]⟩
def rE:Cut:=⟨[wC 1 101,wA 4 i6],[wA 101 (.rc 3)]⟩
def jP:Ins:=⟨⟨217,[(.val (.rc 3),false)],[],[],[.bool],false⟩,(wD (.s (wE [(3,34,[])]) (.s (wD (.b (wD (.c (.s (wE [(4,131,[])]) (.d aBQ .n)) (wD (.c (.s (wE [(7,168,[])]) (.d aBP .n)) (wD (.c (.s (.s (wE [(5,162,[])]) (.d aBO .n)) (.s (wD (.b (.l rE (wD (.s (.b (.s (wE [(5,142,[])]) .n)) .n))))) .n)) .n)))))))) .n)))⟩
def ii143:Ins:=⟨⟨218,[(.val i6,false)],[],[],[.str],false⟩,(wD (.s (wE [(1,169,[])]) .n))⟩
def aBN:Cut:=⟨[wA 14 .bool,wA 3 i6,wA 0 .str],[]⟩
def aBM:Cut:=⟨[wA 3 i6,wA 0 .str],[]⟩
def aBL:Cut:=⟨[wA 24 .bool,wA 3 i6,wA 0 .str],[]⟩
def nY:Cut:=⟨[wA 0 .str,wA 4 i6],[]⟩
def aBK:Cut:=⟨[wA 41 .bool,wA 4 i6,wA 0 .str],[]⟩
def gL:Ins:=⟨⟨219,[(.val .str,false)],[],[],[.bool],false⟩,(wD (wD (wD (.s (wD (.d aBN .n)) (.d aBM (.s (wD (.d aBL .n)) (.s (wD (.b (.l nY (wD (.s (.b (wD (.d aBK .n))) .n))))) .n)))))))⟩
def nX:Cut:=⟨[wA 0 (.sl i6),wA 3 i6],[]⟩
def aBJ:Cut:=⟨[wA 15 .bool,wA 0 (.sl i6),wA 3 i6],[]⟩
def pH:Ins:=⟨⟨220,[(.val (.sl i6),false)],[],[],[.sl i6],false⟩,(.s (.r [0] [] []) (wD (.s (.b (.l nX (.s (wD (.d aBJ .n)) .n))) (.s (.r [3] [] []) .n))))⟩
def ct146x1:Cut:=⟨[wA 0 (.sl i6),wA 6 i6,wA 1 (.sl i6),wA 7 i6,wB 5 (.sl i6)],[]⟩
def ct146x2:Cut:=⟨[wB 5 (.sl i6),wA 8 i6,wA 7 i6,wA 0 (.sl i6),wA 1 (.sl i6)],[]⟩
def ct146x3:Cut:=⟨[wB 5 (.sl i6),wA 8 i6,wA 7 i6,wA 0 (.sl i6),wA 6 i6,wA 1 (.sl i6)],[]⟩
def ii146:Ins:=⟨⟨221,[(.val (.sl i6),false),(.val (.sl i6),false)],[],[],[.sl i6],false⟩,(.s (.r [0] [] []) (.s (.r [0] [] []) (wD (.s (wD (.b (.l ct146x1 (wD (.s (.b (wD (wD (.d ct146x2 (wD (wD (.d ct146x3 (.r [0,4] [] [])))))))) .n))))) (.s (.r [0,1,2] [] [(1,145,[])]) .n)))))⟩
def ct147x1:Cut:=⟨[wA 15 .bool,wC 3 103,wC 2 1],[wA 0 i6,wB 1 (zS 1),wA 103 (.rc 3)]⟩
def ct147x2:Cut:=⟨[],[wA 0 i6,wB 1 (zS 1)]⟩
def ii147:Ins:=⟨⟨195,[(.val (.rc 3),false),(.lc 0 0 [],false),(.lc 1 0 [],false)],[(.val i6,[]),(.val (zS 1),[(0,true)])],[[],[(0,true)]],[.bool],false⟩,(wD (.s (.s (.r [8] [] [(8,170,[])]) (.d ct147x1 (.c (.r [0] [] []) .n))) (.d ct147x2 .n)))⟩
def ct148x1:Cut:=⟨[wA 9 i6,wA 8 (zS 6),wC 3 103,wA 10 i6,wC 4 104],[wA 103 (.rc 1),(104,.val (.rc 3),[(9,true),(10,true)])]⟩
def ii148:Ins:=⟨⟨240,[(.val (zS 6),false),(.val (.rc 1),false)],[],[],[.rc 3,.bool],false⟩,(wD (.s (wD (.b (.l ct148x1 .n))) .n))⟩
def ii149:Ins:=⟨⟨236,[(.val .str,false),(.val .str,false)],[],[],[i6],false⟩,.n⟩
def ii150:Ins:=⟨⟨237,[(.val .str,false),(.val .str,false)],[],[],[.str],false⟩,.n⟩
def aBI:Cut:=⟨[wA 2 .bool],[]⟩
def aBe:Ins:=⟨⟨241,[(.val (.int .u8),false)],[],[],[.bool],false⟩,(wD (wD (.d aBI .n)))⟩
def aBH:Cut:=⟨[wA 8 .bool],[]⟩
def aBd:Ins:=⟨⟨242,[(.val .str,false),(.val i6,false),(.val (.int .u8),false),(.val (.int .u8),false)],[],[],[.bool],false⟩,(wD (wD (.d aBH .n)))⟩
def ct153x1:Cut:=⟨[wA 2 (.int .u8),wC 8 108,wB 9 (.sl (.int .u8)),wA 0 .str,wA 1 i6],[wA 108 (.rc 20)]⟩
def ct153x2:Cut:=⟨[wA 62 .bool,wB 9 (.sl (.int .u8)),wA 1 i6,wA 2 (.int .u8),wC 8 108,wA 0 .str],[wA 108 (.rc 20)]⟩
def ii153:Ins:=⟨⟨243,[(.val .str,false),(.val i6,false),(.val (.int .u8),false)],[],[],[.str,i6,.rc 20],false⟩,(wD (.s (.r [0] [] []) (.b (.l ct153x1 (.b (.b (wD (.c (.s (wE [(3,106,[])]) .n) (wD (.c .n (wD (.c (.s (.r [0,6] [] []) .n) (wD (.c (.s (wE [(3,106,[])]) .n) (wD (.d ct153x2 (.c (.s (wE [(2,106,[])]) .n) (.s (.r [0,7] [] []) .n))))))))))))))))))⟩
def aBG:Cut:=⟨[wA 13 .bool,wC 2 102,wC 4 104],[wA 102 (.rc 22),wA 104 (.rc 20)]⟩
def yW:Ins:=⟨⟨244,[(.val (.rc 22),false),(.val .bool,false)],[],[],[.rc 20],false⟩,(wD (.s (.b (wD (.c (.s (wE [(2,106,[])]) .n) (.s (wE [(13,171,[])]) (.d aBG (.c (.s (wE [(2,106,[])]) .n) .n)))))) .n))⟩
def aBF:Cut:=⟨[wA 2 .bool],[]⟩
def aBc:Ins:=⟨⟨245,[(.val (.int .u8),false)],[],[],[.bool],false⟩,(wD (wD (.d aBF .n)))⟩
def nW:Cut:=⟨[wA 0 .str,wA 1 i6],[]⟩
def aBE:Cut:=⟨[wA 14 .bool,wA 0 .str,wA 1 i6],[]⟩
def pG:Ins:=⟨⟨246,[(.val .str,false),(.val i6,false)],[],[],[i6],false⟩,(wD (.s (.b (.l nW (.s (.s (wE [(8,155,[])]) (.d aBE .n)) .n))) .n))⟩
def ct157x1:Cut:=⟨[wC 5 105,wA 13 i6,wC 14 114,wC 8 108,wC 10 110],[wA 105 (.rc 22),wA 114 (.rc 20),wA 108 (.rc 22),wA 110 (.rc 20)]⟩
def ii157:Ins:=⟨⟨247,[(.val .str,false),(.val (.rc 22),false),(.val .str,false),(.val i6,false)],[],[],[.rc 22,i6,.rc 20],false⟩,(wD (wD (wD (wD (.s (.b (wD (.c (.s (wE [(4,106,[])]) .n) (wD (.c (.s (wE [(3,153,[])]) (wD (.s (wD (.c (wE [(1,154,[])]) .n)) (.d ct157x1 .n)))) (.s (wE [(3,155,[])]) (.c (.s (wE [(3,106,[])]) .n) .n))))))) (.s (wE [(2,156,[])]) (wD (.s (wE [(3,154,[])]) .n))))))))⟩
def aBD:Cut:=⟨[wA 15 .bool,wA 5 i6,wA 0 .str],[]⟩
def aBC:Cut:=⟨[wA 5 i6,wA 0 .str],[]⟩
def nV:Cut:=⟨[wA 5 i6,wA 0 .str,wA 6 i6],[]⟩
def aBB:Cut:=⟨[wA 32 .bool,wA 5 i6,wA 0 .str,wA 6 i6],[]⟩
def aBA:Cut:=⟨[wA 53 .bool,wA 0 .str,wA 6 i6],[]⟩
def nU:Cut:=⟨[wA 7 i6,wA 0 .str,wA 6 i6],[]⟩
def aBz:Cut:=⟨[wA 71 .bool,wA 7 i6,wA 0 .str,wA 6 i6],[]⟩
def eP:Ins:=⟨⟨248,[(.val .str,false)],[],[],[.str,.str,.bool],false⟩,(wD (wD (.s (wD (.d aBD .n)) (.d aBC (wD (.s (.b (.l nV (.s (wD (.d aBB .n)) .n))) (wD (wD (.s (wD (.d aBA .n)) (.s (wD (.b (.l nU (wD (.s (.b (wD (.d aBz .n))) .n))))) .n))))))))))⟩
def ct159x1:Cut:=⟨[wA 3 .bool,wA 0 .str],[]⟩
def ct159x2:Cut:=⟨[wA 3 .bool,wA 0 .str,wA 4 i6],[]⟩
def ct159x3:Cut:=⟨[wA 3 .bool,wA 0 .str,wA 4 i6],[]⟩
def ct159x4:Cut:=⟨[wA 23 .bool,wA 3 .bool,wA 0 .str,wA 4 i6],[]⟩
def ii159:Ins:=⟨⟨249,[(.val .str,false)],[],[],[.str],false⟩,(wD (wD (.d ct159x1 (wD (wD (.d ct159x2 (.s (.b (.l ct159x3 (.s (wD (.d ct159x4 .n)) .n))) .n)))))))⟩
def ii160:Ins:=⟨⟨250,[(.val .str,false)],[],[],[i6],false⟩,(wD (.s (.r [6] [] [(1,112,[])]) .n))⟩
def rD:Cut:=⟨[wA 1 .str,wA 0 (zS 9),wA 6 i6,wC 4 104],[(104,.val (.rc 9),[(1,true)])]⟩
def vQ:Ins:=⟨⟨251,[(.val (zS 9),false),(.val .str,false)],[],[],[.rc 9,.bool],false⟩,(wD (.s (wD (.b (.l rD .n))) .n))⟩
def ii162:Ins:=⟨⟨233,[(.val (.rc 1),false)],[],[],[.bool],false⟩,(wD (.s (wE [(1,172,[])]) .n))⟩
def ct163x1:Cut:=⟨[wB 5 (zS 2),wA 9 i6,wB 7 (zS 1),wB 8 (zS 2)],[]⟩
def ct163x2:Cut:=⟨[wA 48 .bool,wB 7 (zS 1),wB 8 (zS 2),wA 10 (zS 2),wA 9 i6,wB 5 (zS 2)],[]⟩
def ct163x3:Cut:=⟨[wA 12 i6,wB 7 (zS 1),wB 8 (zS 2)],[]⟩
def ct163x4:Cut:=⟨[wA 13 i6,wB 7 (zS 1),wB 8 (zS 2)],[]⟩
def ii163:Ins:=⟨⟨252,[(.val (.rc 2),false)],[],[],[zS 1,zS 2,i6],false⟩,(.s (.r [1,2] [] []) (.s (.r [2,3,5] [] [(1,81,[])]) (.s (wD (.c (.s (.r [0,1] [] []) .n) .n)) (.s (.r [0] [] []) (.s (.r [0] [] []) (.s (wD (.b (.l ct163x1 (wD (.s (.b (.s (.r [5,6,8] [] [(4,81,[])]) (.s (wD (.d ct163x2 (.c (.s (.r [0,1] [] []) .n) .n))) (.s (.r [0,7] [] []) (.r [0,6] [] []))))) .n))))) (.s (wD (.b (.l ct163x3 (wD (.s (.b (.s (wE [(4,131,[])]) (.c (.s (.r [0,1] [] []) .n) .n))) .n))))) (.s (wD (.b (.l ct163x4 (wD (.s (.b (.s (.r [7] [] [(7,173,[])]) (.c (.s (.r [0,1] [] []) .n) .n))) .n))))) (.s (.r [0,1,2,3] [] []) .n)))))))))⟩
def ii164:Ins:=⟨⟨253,[(.val .str,false),(.val (zS 2),false)],[],[],[.rc 2],false⟩,(wD (.s (.r [2,3] [] [(4,54,[]),(3,55,[]),(1,174,[])]) .n))⟩
def ct165x1:Cut:=⟨[wA 26 .bool,wA 11 .str,wA 6 i6,wA 0 .str,wA 1 (zS 2),wC 4 104],[(104,.val (.rc 2),[(6,true)])]⟩
def ct165x2:Cut:=⟨[wA 59 .bool,wA 11 .str,wA 6 i6,wA 0 .str,wA 1 (zS 2),wC 4 104],[(104,.val (.rc 2),[(6,true)])]⟩
def ct165x3:Cut:=⟨[wA 114 .bool,wA 7 (zS 2),wA 0 .str,wA 1 (zS 2),wC 4 104],[(104,.val (.rc 2),[(6,true)])]⟩
def ct165x4:Cut:=⟨[wC 4 104],[(104,.val (.rc 2),[(6,true)])]⟩
def ct165x5:Cut:=⟨[wA 180 .bool,wA 6 i6,wA 0 .str,wA 1 (zS 2),wC 4 104],[(104,.val (.rc 2),[(6,true)])]⟩
def ii165:Ins:=⟨⟨254,[(.val .str,false),(.val (zS 2),false)],[],[],[.rc 2,.bool],false⟩,(wD (wD (.s (wD (.b (wD (.c (.s (wD (.c (.s (wE [(0,48,[])]) .n) .n)) (.s (.r [6,8] [] [(8,164,[]),(6,175,[])]) .n)) (wD (.d ct165x1 (.c (.s (wD (.c (.s (wE [(0,48,[])]) .n) .n)) (wD (.s (wD (.c (.s (.r [6,8] [] [(8,164,[]),(6,175,[])]) .n) .n)) (.s (.r [6,8] [] [(8,164,[]),(6,175,[])]) .n)))) (wD (.d ct165x2 (.c (.s (wD (.c (.s (wE [(2,176,[])]) .n) .n)) (wD (.s (wD (.c (.s (.r [6,9] [] [(9,164,[]),(7,48,[]),(6,175,[])]) .n) .n)) (.s (.r [9,11] [] [(11,164,[]),(9,175,[])]) .n)))) (wD (.c (.s (wD (.c (.s (wE [(0,48,[])]) .n) .n)) (.s (.r [4,5,7] [] [(3,81,[])]) (.s (wD (.d ct165x3 .n)) (.s (.r [9,11] [] [(11,164,[]),(9,175,[])]) .n)))) (wD (.c (.s (.r [1,2] [] [(2,177,[])]) .n) (wD (.c (.s (.r [1,2] [] [(2,177,[])]) .n) (wD (.c (.s (wD (.c (.s (.r [4] [] [(4,164,[])]) .n) .n)) (wD (.c (.s (.r [7,9] [] [(9,164,[]),(7,164,[])]) .n) .n))) (wD (.c (.s (wD (.c (.s (.r [4] [] [(4,164,[])]) .n) .n)) (wD (.c (.s (.r [7,9] [] [(9,164,[]),(7,164,[])]) .n) .n))) (wD (.d ct165x5 (.c (wD (.s (wD (.c (.s (.r [7,9] [] [(9,164,[]),(7,164,[])]) .n) .n)) (.s (wD (.c (.s (.r [7] [] [(7,164,[])]) .n) .n)) (.s (.r [7,9] [] [(9,164,[]),(7,164,[])]) .n)))) .n))))))))))))))))))))))) (.d ct165x4 .n))))⟩
def nT:Cut:=⟨[wA 6 (zS 3),wA 1 i6,wA 7 i6,wA 5 i6],[]⟩
def aBy:Cut:=⟨[wA 26 .bool,wA 7 i6,wA 6 (zS 3),wA 1 i6,wA 5 i6],[]⟩
def pF:Ins:=⟨⟨255,[(.val (.rc 3),false),(.val i6,false)],[],[],[i6],false⟩,(wD (.s (wD (.c (.s (wE [(3,75,[])]) .n) .n)) (wD (.s (.r [2] [] [(1,178,[])]) (.s (wD (.b (.l nT (.s (wD (.d aBy .n)) (.s (.b (wE [(8,166,[])])) .n))))) .n)))))⟩
def nS:Cut:=⟨[wA 6 (zS 3),wA 1 i6,wA 7 i6,wA 5 i6],[]⟩
def aBx:Cut:=⟨[wA 17 .bool,wA 7 i6,wA 6 (zS 3),wA 1 i6,wA 5 i6],[]⟩
def pD:Ins:=⟨⟨256,[(.val (.rc 3),false),(.val i6,false)],[],[],[i6],false⟩,(wD (wD (.s (.r [2] [] [(1,178,[])]) (.s (wD (.b (.l nS (.s (wD (.d aBx .n)) (.s (.b (wE [(7,167,[])])) .n))))) .n))))⟩
def aBw:Cut:=⟨[wA 2 .bool],[]⟩
def aBb:Ins:=⟨⟨187,[(.val (.rc 2),false)],[],[],[.bool],false⟩,(wD (.s (wE [(5,179,[]),(1,75,[])]) (.d aBw .n)))⟩
def ct169x1:Cut:=⟨[wA 17 .bool,wA 0 i6],[]⟩
def ii169:Ins:=⟨⟨257,[(.val i6,false),(.val i6,false)],[],[],[.str],false⟩,(wD (.s (wD (.c (.s (wD (.d ct169x1 (.c (.s (wE [(1,181,[])]) .n) .n))) (wD (wD (wD (.d ⟨[],[]⟩ (wD (.s (.r [4] [] []) .n))))))) .n)) (.s (.r [6,7,9] [] [(5,180,[])]) .n)))⟩
def ii170:Ins:=⟨⟨196,[(.val (zS 1),false),(.val (.rc 1),false)],[],[],[.bool],false⟩,(wD (.s (.r [0,2] [] [(2,182,[])]) .n))⟩
def ii171:Ins:=⟨⟨270,[(.val .str,false)],[],[],[.bool],false⟩,(wD (.s (wE [(1,183,[])]) .n))⟩
def aBv:Cut:=⟨[wA 2 .bool],[]⟩
def aBa:Ins:=⟨⟨262,[(.val (.rc 1),false)],[],[],[.bool],false⟩,(wD (.s (wE [(2,183,[])]) (.d aBv .n)))⟩
def ct173x1:Cut:=⟨[wA 0 (zS 1),wC 3 103,wA 5 i6],[wA 103 (.rc 1)]⟩
def ii173:Ins:=⟨⟨141,[(.val (zS 1),false),(.val (.rc 1),false)],[],[],[.bool],false⟩,(wD (.s (wD (.b (.l ct173x1 .n))) .n))⟩
def ii174:Ins:=⟨⟨271,[(.val .str,false)],[],[],[.rc 2],false⟩,(wD (.s (wE [(2,52,[]),(1,43,[])]) .n))⟩
def ii175:Ins:=⟨⟨272,[(.val .str,false),(.val (zS 2),false)],[],[],[.rc 2],false⟩,(wD (.s (.r [1,2] [] [(2,164,[])]) .n))⟩
def ii176:Ins:=⟨⟨223,[(.val .bool,false)],[],[],[.rc 2],false⟩,(wD (.s (wD (.c (.s (wE [(0,49,[])]) .n) .n)) (.s (wE [(0,48,[])]) .n)))⟩
def ii177:Ins:=⟨⟨273,[(.val .str,false),(.val .str,false),(.val i6,false),(.val (zS 2),false)],[],[],[.rc 2],false⟩,(wD (.s (wD (.b (wD (.c (.s (wE [(1,50,[])]) .n) (wD (.c (.s (.r [7] [] [(7,164,[]),(2,50,[])]) .n) (wD (.c (.s (.r [8] [] [(8,164,[])]) .n) .n)))))))) (.s (.r [7,9] [] [(9,164,[]),(7,175,[])]) .n)))⟩
def ii178:Ins:=⟨⟨140,[(.val (.rc 3),false)],[],[],[zS 3],false⟩,(.s (.r [1] [] []) (.s (wD (.c (.s (.r [0] [] []) .n) .n)) (.s (.r [1,2] [] []) .n)))⟩
def aBu:Cut:=⟨[wA 2 .bool],[]⟩
def aBt:Cut:=⟨[wA 2 .bool],[]⟩
def aBs:Cut:=⟨[wA 2 .bool],[]⟩
def aBr:Cut:=⟨[wA 2 .bool],[]⟩
def mK:Ins:=⟨⟨235,[(.val (.rc 2),false)],[],[],[.bool],false⟩,(wD (wD (.s (wD (.b (wD (.c (.s (wE [(4,86,[])]) (.s (wE [(31,160,[]),(26,160,[])]) (.d aBu .n))) (wD (.c (.s (wE [(2,172,[])]) (.d aBt .n)) (wD (.c (wD (.d aBs .n)) (wD (.c (.s (wE [(34,179,[]),(27,179,[])]) (.d aBr .n)) .n)))))))))) .n)))⟩
def ct180x1:Cut:=⟨[wA 28 .bool,wA 2 i6,wA 1 (.int .u64),wA 3 .bool,wA 4 .bool,wA 0 (.sl (.int .u8)),wA 11 .str,wB 10 (.sl (.int .u8))],[]⟩
def ct180x2:Cut:=⟨[wA 2 i6,wA 1 (.int .u64),wA 3 .bool,wA 4 .bool,wA 0 (.sl (.int .u8)),wA 11 .str,wB 10 (.sl (.int .u8))],[]⟩
def ii180:Ins:=⟨⟨277,[(.val (.sl (.int .u8)),false),(.val (.int .u64),false),(.val i6,false),(.val .bool,false),(.val .bool,false)],[],[],[(.sl (.int .u8)),.str],false⟩,(.s (.r [0] [] []) (.s (wD (.d ct180x1 .n)) (.d ct180x2 (wD (wD (wD (.d ⟨[],[]⟩ (.s (wD (.c (wD (wD (wD (.s (.b (.l ⟨[],[]⟩ .n)) .n)))) (wD (.s (.b (.l ⟨[],[]⟩ .n)) .n)))) (.d ⟨[],[]⟩ (wD (.d ⟨[],[]⟩ (.s (wD (.c (.s (.r [0,4] [] []) .n) .n)) .n))))))))))))⟩
def ii181:Ins:=⟨⟨274,[(.val i6,false)],[],[],[.str],false⟩,.n⟩
def ct182x1:Cut:=⟨[wA 7 i6,wC 3 103,wA 0 (zS 1),wA 8 i6],[wA 103 (.rc 1)]⟩
def ii182:Ins:=⟨⟨239,[(.val (zS 1),false),(.val (.rc 1),false)],[],[],[i6],false⟩,(wD (.s (wD (.b (.l ct182x1 .n))) .n))⟩
def aBq:Cut:=⟨[wA 22 .bool,wA 0 .str],[]⟩
def nR:Cut:=⟨[wA 0 .str,wA 3 i6],[]⟩
def aBp:Cut:=⟨[wA 49 .bool,wA 3 i6,wA 0 .str],[]⟩
def lH:Ins:=⟨⟨278,[(.val .str,false)],[],[],[.bool],false⟩,(wD (.s (wD (.d aBq .n)) (.s (wD (.b (.l nR (wD (.s (.b (wD (wD (.d aBp .n)))) .n))))) .n)))⟩
def insL:List (Nat×Ins):=[(0,ii0),(1,ii1),(2,ii2),(3,ii3),(4,ii4),(5,ii5),(6,ii6),(7,ii7),(8,ii8),(9,ii9),(10,ii10),(11,ii11),(12,ii12),(13,ii13),(14,ii14),(15,ii15),(16,vR),(17,ii17),(18,ii18),(19,ii19),(20,ii20),(21,ii21),(22,ii22),(23,ii23),(24,ii24),(25,ii25),(26,ii26),(27,ii27),(28,ii28),(29,ii29),(30,ii30),(31,ii31),(32,ii32),(33,ii33),(34,aFX),(35,ii35),(36,ii36),(37,ii37),(38,aDL),(39,ii39),(40,ii40),(41,ii41),(42,ii42),(43,ii43),(44,ii44),(45,ii45),(46,ii46),(47,ii47),(48,ii48),(49,ii49),(50,ii50),(51,ii51),(52,ii52),(53,ii53),(54,ii54),(55,ii55),(56,ii56),(57,ii57),(58,ii58),(59,ii59),(60,ii60),(61,ii61),(62,ii62),(63,ii63),(64,ii64),(65,ii65),(66,ii66),(67,ii67),(68,ii68),(69,ii69),(70,ii70),(71,aA9),(72,ii72),(73,aHr),(74,ii74),(75,ii75),(76,ii76),(77,ii77),(78,ii78),(79,ii79),(80,aFW),(81,ii81),(82,ii82),(83,ii83),(84,ii84),(85,ii85),(86,ii86),(87,ii87),(88,aFm),(89,ii89),(90,ii90),(91,ii91),(92,ii92),(93,ii93),(94,ii94),(95,ii95),(96,ii96),(97,aFV),(98,ii98),(99,ii99),(100,ii100),(101,ii101),(102,ii102),(103,sJ),(104,aBi),(105,yX),(106,ii106),(107,sI),(108,ii108),(109,ii109),(110,aBh),(111,ii111),(112,mL),(113,ii113),(114,ii114),(115,qY),(116,ii116),(117,ii117),(118,ii118),(119,ii119),(120,pL),(121,aBg),(122,ii122),(123,ii123),(124,ii124),(125,iE),(126,vS),(127,iY),(128,iX),(129,iW),(130,pJ),(131,aBf),(132,ii132),(133,ii133),(134,ii134),(135,ii135),(136,pI),(137,ii137),(138,ii138),(139,ii139),(140,ii140),(141,ii141),(142,jP),(143,ii143),(144,gL),(145,pH),(146,ii146),(147,ii147),(148,ii148),(149,ii149),(150,ii150),(151,aBe),(152,aBd),(153,ii153),(154,yW),(155,aBc),(156,pG),(157,ii157),(158,eP),(159,ii159),(160,ii160),(161,vQ),(162,ii162),(163,ii163),(164,ii164),(165,ii165),(166,pF),(167,pD),(168,aBb),(169,ii169),(170,ii170),(171,ii171),(172,aBa),(173,ii173),(174,ii174),(175,ii175),(176,ii176),(177,ii177),(178,ii178),(179,mK),(180,ii180),(181,ii181),(182,ii182),(183,lH)]
def orcI:Orc:=⟨257,fun a b=>bif decide (b=10)then(bif decide (a= -1)then some [45,49]else bif decide (a= -2)then some [45,50]else bif decide (a= -3)then some [45,51]else none)else none,257,none⟩
def tpI:TP U0.D:=tp0 orcI (aAQ insL)
noncomputable def CTp(L n:Nat):TC0:=zY U0 tpI (aGe Go.Rf.cdX insL) L n
end Go.TV
namespace Go.TV
open Go.AI Go.PI Go.Proofs
def bY:Nat→Nat→List UInt8
 |0,_=>[]
 |f+1,n=>UInt8.ofNat (n%128)::bY f (n/128)
abbrev Nt:=TVs→Rt
abbrev yR(n:Nat)(x:Den U0.D (.rc n)):TV U0.D:=⟨.rc n,x⟩
abbrev yS(n:Nat)(x:Den U0.D (.sl (.rc n))):TV U0.D:=⟨.sl (.rc n),x⟩
abbrev yI(x:Int):TV U0.D:=⟨.int .i64,x⟩
abbrev yB(x:Bool):TV U0.D:=⟨.bool,x⟩
abbrev yT(x:List UInt8):TV U0.D:=⟨.str,x⟩
section
variable(x:Ins)(c:TC0)(e:Cu)(L:Nat)(π:List Nat)(ct:Cut)
def cu:Cu:=⟨Dx U0 tpI c L,Ex U0 tpI c L⟩
noncomputable def xW:TC:=dW x.sk (fV Go.Rf.cdX x.sig.f)
noncomputable def xC:TC:=at_ (xW x) π
noncomputable def xK:Kt:=finT U0 tpI x.sig (uV Go.Rf.cdX x.sig.f)
noncomputable def xT(K:Kt):Kt:=aGd U0 (kM U0 tpI c e.D e.E (xC x π)) K
noncomputable def xF(d:TVs):Rt:=nN U0 (cutOf x.sig) (fun S M=>kM U0 tpI c e.D e.E (xW x) S M (xK x)) d
noncomputable def xA(K:Kt)(d:TVs):Rt:=nN U0 ct (fun S M=>kM U0 tpI c e.D e.E (xC x π) S M K) d
noncomputable def xL(K:Kt)(n:Nat)(d:TVs):Rt:=aFh U0 ct (fun S M K=>dZ U0 tpI c L (xC x π) S M K) K n d
noncomputable def xD(K:Kt)(d:TVs):Rt:=e.D ct (xC x π) d K
noncomputable def xE(K:Kt)(d:TVs):Rt:=e.E ct (xC x π) d K
theorem aM(K:Kt):xD x (cu c L) π ct K=xA x c (cu c L) π ct K:=funext fun d=>iG ct (fun S M=>(exD (T:=tpI) (c:=c) (L:=L) (xC x π) S M K).symm) d
theorem fO(K:Kt)(n:Nat):xL x c L π ct K (n+1)=xA x c (cu c L) π ct (lpK U0 ct (xL x c L π ct K n) K):=funext fun d=>iG ct (fun S M=>(exD (T:=tpI) (c:=c) (L:=L) (xC x π) S M _).symm) d
end
theorem jQ: ∀{l:List (Nat×Ins)} {i:Nat} {x:Ins},pM l i=some x→(i,x)∈l
 |a::l,i,x,h=>by
  simp only[pM]at h;cases hb:Nat.beq a.1 i with
  |true=>
   rw[hb]at h;simp only[cdt,ojE]at h;have:=nqE hb;subst this;subst h;exact mhE ..
  |false=>rw[hb]at h;exact mtE _ (jQ h)
theorem hb_all:(insL.all fun x=>okS orcI x.2.sig&&Nat.ble x.2.sig.bx.length 100&&aG6 x.2.sig.bx.length x.2.sig.bx)=true:=by kernel_rfl
theorem cg{i:Nat}{x:Ins}(hx:pM insL i=some x)(hf:(Nat.beq x.sig.f orcI.n||Nat.beq x.sig.f orcI.m)=false)(L n:Nat)(d:TVs):CTp L (n+1) i d=xF x (CTp L n) (cu (CTp L n) L) d:=by
 have hs:tpI.sig i=some x.sig:=by show aAQ insL i=_;unfold aAQ;rw[hx];rfl
 have hg:aGe Go.Rf.cdX insL i=some (dW x.sk (fV Go.Rf.cdX x.sig.f),uV Go.Rf.cdX x.sig.f):=by simp only[aGe,hx]
 have hb:(okS tpI.orc x.sig&&Nat.ble x.sig.bx.length 100&&aG6 x.sig.bx.length x.sig.bx)=true:=List.all_eq_true.1 hb_all _ (jQ hx);have ho:orT U0 tpI.orc x.sig d=none:=by
  rw[Bool.or_eq_false_iff]at hf;show orT U0 orcI x.sig d=none;unfold orT;rw[hf.1,hf.2];rfl
 show zY U0 tpI (aGe Go.Rf.cdX insL) L (n+1) i d=_;simp only[zY,hs,hg,hb,cdt,ho];exact(iG _ (fun S M=>exD _ _ _ _) d).symm
end Go.TV
namespace Go.TV
open Go.AI Go.PI Go.Proofs
theorem lE{P:G.O→Prop}(h: ∀k n d s t l,(∀o∈l,P o)→P ⟨k,n,d,s,t,l⟩): ∀o,P o:=fun o=>
 G.O.rec (motive_1:=P) (motive_2:=fun l=> ∀o∈l,P o) (fun k n d s t l ih=>h k n d s t l ih) (fun o ho=>by cases ho)
  (fun o l h1 h2 x hx=>by
   cases hx with
   |head=>exact h1
   |tail _ hx=>exact h2 x hx) o
noncomputable instance:DecidableEq G.O:=fun a b=>Classical.propDecidable _
def pkL:List UInt8:=[108,105,115,112]
def pkU:List UInt8:=[117,115,101,114]
def aA2(s:G.Y):Bool:=(decide (s.package=pkL)||decide (s.package=pkU))&&Nat.ble 1 s.name.length&&Nat.ble s.name.length 20
def okV(s:G.Y):Bool:=decide (s.package=pkU)&&Nat.ble 1 s.name.length&&Nat.ble s.name.length 20
def okX(t:List UInt8):Bool:=Nat.ble t.length 10
def numL:List (List UInt8×List UInt8):=[([48],[49]),([49],[49]),([50],[49]),([51],[49]),([45,49],[49]),([45,50],[49]),([45,51],[49]),([49],[50]),([45,53],[51])]
def okN(n d:List UInt8):Bool:=numL.any fun p=>decide (n=p.1)&&decide (d=p.2)
def wS(s:G.Y):Nat:=bif aA2 s then 0 else 1000000000
theorem okSy_u{w:List UInt8}(h1:1≤w.length)(h2:w.length≤20):aA2 ⟨pkU,w⟩=true:=by simp[aA2,Nat.ble_eq,h1,h2]
theorem okSy_l{w:List UInt8}(h1:1≤w.length)(h2:w.length≤20):aA2 ⟨pkL,w⟩=true:=by simp[aA2,Nat.ble_eq,h1,h2]
theorem okV_u{w:List UInt8}(h1:1≤w.length)(h2:w.length≤20):okV ⟨pkU,w⟩=true:=by simp[okV,Nat.ble_eq,h1,h2]
def okO(k:Int)(n d:List UInt8)(s:G.Y)(t:List UInt8)(l:List G.O):Bool:=
 decide (k=0)&&n.isEmpty&&d.isEmpty&&decide (s=⟨[],[]⟩)&&t.isEmpty&&l.isEmpty||decide (k=1)&&okN n d&&decide (s=⟨[],[]⟩)&&t.isEmpty&&l.isEmpty||decide (k=2)&&aA2 s&&n.isEmpty&&d.isEmpty&&t.isEmpty&&l.isEmpty||
 decide (k=3)&&okX t&&n.isEmpty&&d.isEmpty&&decide (s=⟨[],[]⟩)&&l.isEmpty||decide (k=4)&&n.isEmpty&&d.isEmpty&&decide (s=⟨[],[]⟩)&&t.isEmpty&&decide (l.length=2)
def badO(k:Int)(n d:List UInt8)(s:G.Y)(t:List UInt8)(l:List G.O):Nat:=bif okO k n d s t l then 0 else 1000000000
theorem badO_y(s:G.Y):badO 2 [] [] s [] []=wS s:=by
 unfold badO okO wS;cases aA2 s<;>rfl
theorem badO_x(w:List UInt8)(h:okX w=true):badO 3 [] [] ⟨[],[]⟩ w []=0:=by
 unfold badO okO;rw[h];rfl
theorem aEf(a b:G.O):badO 4 [] [] ⟨[],[]⟩ [] [a,b]=0:=rfl
def aEh(o:G.O):Nat:=bif decide (o.kind=0)then 1000000000 else 0
theorem aAc(n d:List UInt8)(s:G.Y)(t:List UInt8)(l:List G.O):aEh ⟨2,n,d,s,t,l⟩=0:=rfl
theorem bad0x3(n d:List UInt8)(s:G.Y)(t:List UInt8)(l:List G.O):aEh ⟨3,n,d,s,t,l⟩=0:=rfl
theorem aEg(n d:List UInt8)(s:G.Y)(t:List UInt8)(l:List G.O):aEh ⟨4,n,d,s,t,l⟩=0:=rfl
mutual
def osz:G.O→Nat
 |⟨k,n,d,s,t,l⟩=>2+iV l+badO k n d s t l
def iV:List G.O→Nat
 |[]=>0
 |o::l=>osz o+aEh o+iV l+1
end
theorem yE{o:G.O}(h:osz o<1000000000):okO o.kind o.num o.den o.sym o.text o.pair=true:=by
 cases o with|mk k n d s t l=>
 simp only[osz,badO]at h;cases e:okO k n d s t l with
 |true=>exact e
 |false=>rw[e,cdf]at h;omega
theorem eD{k:Nat}(h:k<4000000000000000000):IntKind.i64.wrap ((k:Int)+1)=((k+1:Nat):Int):=by
 unfold IntKind.wrap;simp[IntKind.bits,IntKind.signed];omega
theorem aK{α:Type}(l:List α)(k:Nat):idx l (k:Int)=l[k]?:=by
 unfold idx;have:decide (0≤(k:Int))=true:=by simp
 rw[this];rfl
theorem eE{β:Type}{b:Bool}{K:Bool×Unit→Option β}:obL (D:=U0.D) [.bool] (some [yB b]) K=K (b,()):=rfl
theorem eC{α β:Type}{x:α}{K:α→Option β}:ob (some x) K=K x:=rfl
theorem aJ{β:Type}{A B:Option β}:cnd true A B=A:=rfl
theorem aF{β:Type}{A B:Option β}:cnd false A B=B:=rfl
theorem bB{α:Type}{l:List α}{k:Nat}{x:α}{r:List α}(h:l.drop k=x::r):l[k]?=some x∧k<l.length∧l.drop (k+1)=r:=by
 refine⟨?_,?_,?_⟩
 ·rw[←List.head?_drop,h];rfl
 ·have:=congrArg List.length h;simp at this;omega
 ·rw[←List.tail_drop,h];rfl
theorem bC{α:Type}{l:List α}{k:Nat}(h:l.drop k=[]): ¬k<l.length:=by
 have:=congrArg List.length h;simp at this;omega
def oo(a b:G.O):TVs:=[yR 2 a,yR 2 b]
def bb(b:Bool):TVs:=[yB b]
def wfO(a:G.O):Prop:=osz a<1000000000
theorem aAZ: ∀(l:List G.O),l.length≤iV l
 |[]=>nlR _
 |o::l=>by have:=aAZ l;simp only[lcS,iV];omega
theorem fB: ∀{l:List G.O} {x:G.O},x∈l→osz x≤iV l
 |o::l,x,h=>by
  simp only[iV];cases h with
  |head=>omega
  |tail _ h=>have:=fB h;omega
end Go.TV
