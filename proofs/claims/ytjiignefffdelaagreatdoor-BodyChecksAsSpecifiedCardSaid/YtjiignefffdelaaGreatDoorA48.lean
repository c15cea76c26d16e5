/-
  Parts of the proof of statement 4: KSc, KSg, KSh, KSj, KSi, KSk, KV, KVa, KVb
-/
import Derived.Test.YtjiignefffdelaaGreatDoorA25
import Derived.Test.YtjiignefffdelaaGreatDoorA26
import Derived.Test.YtjiignefffdelaaGreatDoorA27
import Derived.Test.YtjiignefffdelaaGreatDoorA46
import Derived.Test.YtjiignefffdelaaGreatDoorA37
import Derived.Test.YtjiignefffdelaaGreatDoorA23
import Derived.Test.YtjiignefffdelaaGreatDoorA47
import Derived.Test.YtjiignefffdelaaGreatDoorA28
import Derived.Test.YtjiignefffdelaaGreatDoorA45
import Derived.Test.YtjiignefffdelaaGreatDoorRows
import Derived.LaidMore
import Derived.LaidLaws
import Derived.MakeChecks
import Derived.OpenShut
import Derived.Lay
set_option linter.unusedVariables false
set_option maxRecDepth 1000000
set_option maxHeartbeats 16000000
namespace Go.Proofs.YtjiignefffdelaaGreatDoor
open Go Go.Av Go.Geo
def sanT:FT:=.node 67 (.node 33 (.node 17 (.node 11 (.node 9 (.leaf 8 W8.1) (.node 10 (.leaf 9 W9.1) (.leaf 10 W10.1))) (.node 14 (.leaf 11 W11.1) (.node 16 (.leaf 14 W14.1) (.leaf 16 W16.1)))) (.node 29 (.node 18 (.leaf 17 W17.1) (.node 19 (.leaf 18 W18.1) (.leaf 19 W19.1))) (.node 30 (.leaf 29 W29.1) (.node 32 (.leaf 30 W30.1) (.leaf 32 W32.1))))) (.node 46 (.node 43 (.node 34 (.leaf 33 W33.1) (.node 35 (.leaf 34 W34.1) (.leaf 35 W35.1))) (.node 44 (.leaf 43 W43.1) (.node 45 (.leaf 44 W44.1) (.leaf 45 W45.1)))) (.node 49 (.node 47 (.leaf 46 W46.1) (.node 48 (.leaf 47 W47.1) (.leaf 48 W48.1))) (.node 50 (.leaf 49 W49.1) (.node 66 (.leaf 50 W50.1) (.leaf 66 W66.1)))))) (.node 107 (.node 77 (.node 72 (.node 68 (.leaf 67 W67.1) (.node 71 (.leaf 68 W68.1) (.leaf 71 W71.1))) (.node 74 (.leaf 72 W72.1) (.node 75 (.leaf 74 W74.1) (.leaf 75 W75.1)))) (.node 93 (.node 79 (.leaf 77 W77.1) (.node 82 (.leaf 79 W79.1) (.leaf 82 W82.1))) (.node 94 (.leaf 93 W93.1) (.node 95 (.leaf 94 W94.1) (.leaf 95 W95.1))))) (.node 145 (.node 123 (.node 120 (.leaf 107 W107.1) (.node 122 (.leaf 120 W120.1) (.leaf 122 W122.1))) (.node 124 (.leaf 123 W123.1) (.node 125 (.leaf 124 W124.1) (.leaf 125 W125.1)))) (.node 175 (.node 146 (.leaf 145 W145.1) (.node 174 (.leaf 146 W146.1) (.leaf 174 W174.1))) (.node 176 (.leaf 175 W175.1) (.node 216 (.leaf 176 W176.1) (.leaf 216 W216.1))))))
theorem cG:sanT.All fun f F=>∃mu,FnIs Tryz.prog gv mu f F:=⟨⟨⟨⟨⟨⟨false,is8⟩,⟨⟨false,is9⟩,⟨false,bDb⟩⟩⟩,⟨⟨false,bDc⟩,⟨⟨false,bDd⟩,⟨false,bDf⟩⟩⟩⟩,⟨⟨⟨false,bDg⟩,⟨⟨false,bDh⟩,⟨false,bDi⟩⟩⟩,⟨⟨false,bDp⟩,⟨⟨false,bDq⟩,⟨false,bDr⟩⟩⟩⟩⟩,⟨⟨⟨⟨false,bDs⟩,⟨⟨false,bDt⟩,⟨false,bDu⟩⟩⟩,⟨⟨false,bDw⟩,⟨⟨false,bBk⟩,⟨false,bDx⟩⟩⟩⟩,⟨⟨⟨false,bDy⟩,⟨⟨false,bDz⟩,⟨false,bEa⟩⟩⟩,⟨⟨false,bBl⟩,⟨⟨false,bEc⟩,⟨false,bBq⟩⟩⟩⟩⟩⟩,⟨⟨⟨⟨⟨false,bEo⟩,⟨⟨false,bEp⟩,⟨false,bEs⟩⟩⟩,⟨⟨false,bEt⟩,⟨⟨false,bEu⟩,⟨false,bEv⟩⟩⟩⟩,⟨⟨⟨false,bEx⟩,⟨⟨false,bEy⟩,⟨false,bEz⟩⟩⟩,⟨⟨false,bFg⟩,⟨⟨false,bFh⟩,⟨false,bFi⟩⟩⟩⟩⟩,⟨⟨⟨⟨false,aTx⟩,⟨⟨false,aUc⟩,⟨false,aYj⟩⟩⟩,⟨⟨false,aYk⟩,⟨⟨false,aYl⟩,⟨false,aYm⟩⟩⟩⟩,⟨⟨⟨false,aUd⟩,⟨⟨false,aUe⟩,⟨false,aZu⟩⟩⟩,⟨⟨false,aZv⟩,⟨⟨false,aZw⟩,⟨false,bAp⟩⟩⟩⟩⟩⟩⟩
end Go.Proofs.YtjiignefffdelaaGreatDoor
namespace Go.Proofs.YtjiignefffdelaaGreatDoor
open Go Go.Av Go.Num Go.Geo
def dec2:List AV→Option (Int×Int)
 |[.agg a,.agg b]=>match decI a,decI b with
  |some (some x),some (some y)=>some (x,y)
  |_,_=>none
 |_=>none
theorem aHm {args:List AV} {x y:Int} (h:dec2 args=some (x,y)):∃a b,args=[.agg a,.agg b]∧IsI a (some x)∧IsI b (some y):=by
 unfold dec2 at h;split at h
 · rename_i a b
   split at h
   · rename_i x' y' hx hy
     cases h;exact⟨a,b,rfl,gK hx,gK hy⟩
   · cases h
 · cases h
def decR:List AV→Option (Int×Int)
 |[.agg c]=>match decI (c.take 18),decI (c.drop 18) with
  |some (some x),some (some y)=>some (x,y)
  |_,_=>none
 |_=>none
theorem aRf {args:List AV} {x y:Int} (h:decR args=some (x,y)):args=[.agg (cR x y)]:=by
 unfold decR at h;split at h
 · rename_i c
   split at h
   · rename_i x' y' hx hy
     cases h;have e1:=(gK hx).some.1;have e2:=(gK hy).some.1;rw[cR,←e1,←e2,List.take_append_drop]
   · cases h
 · cases h
def goodB (x y:Int):Bool:=Nat.blt x.natAbs (2^64)&&Nat.blt y.natAbs (2^64)&&decide (0<y)&&Nat.beq (Int.gcd x y) 1
def isCube:List AV→Bool
 |[.agg c]=>sameL (fgtL c) [cubeA 0 0]
 |_=>false
def cubeF:List (List AV):=[
 [.int .i64 (-1),.int .i64 0,.int .i64 0,.int .i64 0,.aT 0 1 [[.int .i64 0],[.int .i64 1],[.int .i64 3],[.int .i64 2]]],
 [.int .i64 0,.int .i64 (-1),.int .i64 0,.int .i64 0,.aT 0 1 [[.int .i64 0],[.int .i64 4],[.int .i64 5],[.int .i64 1]]],
 [.int .i64 0,.int .i64 0,.int .i64 (-1),.int .i64 0,.aT 0 1 [[.int .i64 0],[.int .i64 2],[.int .i64 6],[.int .i64 4]]],
 [.int .i64 0,.int .i64 0,.int .i64 1,.int .i64 2,.aT 0 1 [[.int .i64 1],[.int .i64 5],[.int .i64 7],[.int .i64 3]]],
 [.int .i64 0,.int .i64 1,.int .i64 0,.int .i64 2,.aT 0 1 [[.int .i64 2],[.int .i64 3],[.int .i64 7],[.int .i64 6]]],
 [.int .i64 1,.int .i64 0,.int .i64 0,.int .i64 2,.aT 0 1 [[.int .i64 4],[.int .i64 6],[.int .i64 7],[.int .i64 5]]]]
theorem aNl:(cubeS 0 0).map (facC (plX (cubeV 0 0)))=cubeF:=by kernel_rfl
def orcS (f:FuncId) (args:List AV) (H:Heap):Option (Out×Heap):=
 match orcQ f args with
 |some v=>some (.ret v,H)
 |none=>match Nat.beq f 100 with
 |true=>match dec2 args with
  |some (x,y)=>match Nat.blt x.natAbs (2^64)&&Nat.blt y.natAbs (2^64) with
   |true=>some (.ret (.agg (cI (Int.gcd x y))),H)
   |false=>none
  |none=>none
 |false=>match Nat.beq f 51 with
 |true=>match dec2 args with
  |some (x,y)=>match smallB x y with
   |true=>some (.ret (.agg (cR (divS x (mkG2 x y)).1 (divS y (mkG2 x y)).1)),H)
   |false=>none
  |none=>none
 |false=>match Nat.beq f 76 with
 |true=>match decR args with
  |some (x,y)=>match goodB x y with
   |true=>some (.ret (.bool true),H)
   |false=>none
  |none=>none
 |false=>match Nat.beq f 104 with
 |true=>match isCube args with
  |true=>some (.ret (.aT (H.next+2) 5 cubeF),H.alloc .tok)
  |false=>none
 |false=>none
theorem cF:OrcOK Tryz.prog gv orcS:=by
 intro f args H out H' h;unfold orcS at h;split at h
 · rename_i v hv
   cases h;exact aIm hv H
 split at h
 · rename_i hf
   obtain rfl:=Nat.eq_of_beq_eq_true hf;split at h
   · rename_i x y hd
     obtain⟨a,b,rfl,ha,hb⟩:=aHm hd;split at h
     · rename_i hc
       cases h;simp only[Bool.and_eq_true,Nat.blt_eq] at hc;exact qW ha hb hc.1 hc.2 H
     · cases h
   · cases h
 split at h
 · rename_i hf
   obtain rfl:=Nat.eq_of_beq_eq_true hf;split at h
   · rename_i x y hd
     obtain⟨a,b,rfl,ha,hb⟩:=aHm hd;split at h
     · rename_i hc
       cases h;simp only[smallB,Bool.and_eq_true,Bool.not_eq_true',decide_eq_true_eq,decide_eq_false_iff_not] at hc;obtain⟨⟨⟨⟨c1,c2⟩,c3⟩,c4⟩,c5⟩:=hc;exact aMd ha hb c1 c2 c3 c4 c5 H
     · cases h
   · cases h
 split at h
 · rename_i hf
   obtain rfl:=Nat.eq_of_beq_eq_true hf;split at h
   · rename_i x y hd
     obtain rfl:=aRf hd;split at h
     · rename_i hc
       cases h;simp only[goodB,Bool.and_eq_true,decide_eq_true_eq,Nat.blt_eq] at hc;obtain⟨⟨⟨c1,c2⟩,c3⟩,c4⟩:=hc;exact aMc c1 c2 c3 (Nat.eq_of_beq_eq_true c4) H
     · cases h
   · cases h
 split at h
 · rename_i hf
   obtain rfl:=Nat.eq_of_beq_eq_true hf;split at h
   · rename_i hc
     cases h
     obtain⟨c,rfl,hc⟩:∃c,args=[.agg c]∧sameL (fgtL c) [cubeA 0 0]=true:=by
      unfold isCube at hc;split at hc
      · exact⟨_,rfl,hc⟩
      · cases hc
     refine Sound.fgt ?_
     have e:fgtL [AV.agg c]=[.agg [cubeA 0 0]]:=by
      rw[fgtL,fgt,fgtL,eK _ _ hc]
     rw[e,←aNl];exact aRu H
   · cases h
 · cases h
end Go.Proofs.YtjiignefffdelaaGreatDoor
namespace Go.Proofs.YtjiignefffdelaaGreatDoor
open Go Go.Av Go.Geo
def cube0:List AV:=[.agg [cubeA 0 0]]
def body0:AV:=.agg (bodyC [98] (.aT 0 1 [[cubeA 0 0]]) 8 10 500 700)
def body2:AV:=.agg (bodyC [98] (.aT 0 1 [[cubeA 0 0],[cubeA 0 0]]) 8 10 500 700)
def vec1:AV:=.agg (cR 1 1++cR 1 1++cR 1 1)
def mat3 (a b:Int×Int):AV:=.agg [.int .i64 3,.int .i64 3,.aT 0 36 [cR a.1 a.2,cR b.1 b.2,cR b.1 b.2,cR b.1 b.2,cR a.1 a.2,cR b.1 b.2,cR b.1 b.2,cR b.1 b.2,cR a.1 a.2]]
def i3 (a b c:Int):AV:=.agg [.int .i64 a,.int .i64 b,.int .i64 c]
def kA:List Fact:=[
 (6,[body0],.int .i64 0),(6,[body2],.int .i64 150),
 (21,[.agg [cubeA 0 0],.agg [cubeA 1 1]],.bool false),(21,[.agg [cubeA 0 0],.agg [cubeA 2 0]],.bool true)]
theorem bCe:KOK Tryz.prog gv kA:=(((KOK.nil.cons bCl).cons bCk).cons aRt).cons aRs
def k1:Fact:=(43,cube0,.agg (cI 48))
theorem bBv:KOK Tryz.prog gv (k1::kA):=bCe.ran fit bW cG cF bL 0 (by kernel_rfl)
def k2:Fact:=(48,cube0,vec1)
theorem bBw:KOK Tryz.prog gv (k2::k1::kA):=bBv.ran fit bW cG cF bL 0 (by kernel_rfl)
def k3:Fact:=(30,cube0,mat3 (64,3) (-8,1))
theorem bBx:KOK Tryz.prog gv (k3::k2::k1::kA):=bBw.ran fit bW cG cF bL 1 (by kernel_rfl)
def kB:List Fact:=k3::k2::k1::kA
def k4:Fact:=(14,[body0],.agg (cI 48))
theorem bBy:KOK Tryz.prog gv (k4::kB):=bBx.ran fit bW cG cF bL 0 (by kernel_rfl)
def k5:Fact:=(16,[body0],vec1)
theorem bBz:KOK Tryz.prog gv (k5::k4::kB):=bBy.ran fit bW cG cF bL 0 (by kernel_rfl)
def k6:Fact:=(17,[body0],i3 1 1 1)
theorem bCa:KOK Tryz.prog gv (k6::k5::k4::kB):=bBz.ran fit bW cG cF bL 0 (by kernel_rfl)
def k7:Fact:=(10,[body0,.agg (cR 8 1)],mat3 (64,3) (-8,1))
theorem bCb:KOK Tryz.prog gv (k7::k6::k5::k4::kB):=bCa.ran fit bW cG cF bL 1 (by kernel_rfl)
def kC:List Fact:=k7::k6::k5::k4::kB
def k8:Fact:=(11,[body0],.tup [i3 0 0 0,i3 2 2 2])
theorem bCc:KOK Tryz.prog gv (k8::kC):=bCb.ran fit bW cG cF bL 0 (by kernel_rfl)
def k9:Fact:=(19,[body0],.int .i64 12)
theorem bCd:KOK Tryz.prog gv (k9::k8::kC):=bCc.ran fit bW cG cF bL 0 (by kernel_rfl)
def kO (n:Int):Fact:=(9,[.int .i64 n],.agg (cR n 1))
theorem aVy:KOK Tryz.prog gv (kO 1::k9::k8::kC):=bCd.ran fit bW cG cF bL 0 (by kernel_rfl)
theorem aVz:KOK Tryz.prog gv (kO 8::kO 1::k9::k8::kC):=aVy.ran fit bW cG cF bL 0 (by kernel_rfl)
theorem aWa:KOK Tryz.prog gv (kO (-8)::kO 8::kO 1::k9::k8::kC):=aVz.ran fit bW cG cF bL 0 (by kernel_rfl)
def kD:List Fact:=kO (-8)::kO 8::kO 1::k9::k8::kC
def kF:Fact:=(18,[.int .i64 64,.int .i64 3],.agg (cR 64 3))
theorem bCf:KOK Tryz.prog gv (kF::kD):=aWa.ran fit bW cG cF bL 0 (by kernel_rfl)
def kU (o p:Int):Fact:=(8,[i3 o p p,.int .i64 2],.agg [cubeA o p])
theorem aWh:KOK Tryz.prog gv (kU 0 0::kF::kD):=bCf.ran fit bW cG cF bL 1 (by kernel_rfl)
theorem aWi:KOK Tryz.prog gv (kU 1 1::kU 0 0::kF::kD):=aWh.ran fit bW cG cF bL 1 (by kernel_rfl)
theorem aWj:KOK Tryz.prog gv (kU 2 0::kU 1 1::kU 0 0::kF::kD):=aWi.ran fit bW cG cF bL 1 (by kernel_rfl)
def kE:List Fact:=kU 2 0::kU 1 1::kU 0 0::kF::kD
def kP (s:List UInt8) (n:Int):Fact:=(82,[.str s],.tup [.agg (cI n),.int .i64 0])
theorem aWb:KOK Tryz.prog gv (kP [48] 0::kE):=aWj.ran fit bW cG cF bL 0 (by kernel_rfl)
theorem aWc:KOK Tryz.prog gv (kP [50] 2::kP [48] 0::kE):=aWb.ran fit bW cG cF bL 0 (by kernel_rfl)
theorem aWd:KOK Tryz.prog gv (kP [56] 8::kP [50] 2::kP [48] 0::kE):=aWc.ran fit bW cG cF bL 0 (by kernel_rfl)
def kG:List Fact:=kP [56] 8::kP [50] 2::kP [48] 0::kE
theorem aWe:KOK Tryz.prog gv (kP [49,48] 10::kG):=aWd.ran fit bW cG cF bL 0 (by kernel_rfl)
theorem aWf:KOK Tryz.prog gv (kP [53,48,48] 500::kP [49,48] 10::kG):=aWe.ran fit bW cG cF bL 0 (by kernel_rfl)
theorem aWg:KOK Tryz.prog gv (kP [55,48,48] 700::kP [53,48,48] 500::kP [49,48] 10::kG):=aWf.ran fit bW cG cF bL 0 (by kernel_rfl)
def kH:List Fact:=kP [55,48,48] 700::kP [53,48,48] 500::kP [49,48] 10::kG
theorem bCg:KOK Tryz.prog gv kH:=aWg
end Go.Proofs.YtjiignefffdelaaGreatDoor
namespace Go.Proofs.YtjiignefffdelaaGreatDoor
open Go Go.Av Go.Num
def texT:FT:=.node 102 (.node 39 (.node 20 (.node 12 (.leaf 4 W4T.1) (.node 13 (.leaf 12 W12T.1) (.leaf 13 W13T.1))) (.node 37 (.leaf 20 W20T.1) (.node 38 (.leaf 37 W37T.1) (.leaf 38 W38T.1)))) (.node 80 (.node 41 (.leaf 39 W39T.1) (.node 52 (.leaf 41 W41T.1) (.leaf 52 W52T.1))) (.node 87 (.node 81 (.leaf 80 W80T.1) (.leaf 81 W81T.1)) (.node 88 (.leaf 87 W87T.1) (.leaf 88 W88T.1))))) (.node 222 (.node 134 (.node 129 (.leaf 102 W102T.1) (.node 133 (.leaf 129 W129T.1) (.leaf 133 W133T.1))) (.node 137 (.node 136 (.leaf 134 W134T.1) (.leaf 136 W136T.1)) (.node 184 (.leaf 137 W137T.1) (.leaf 184 W184T.1)))) (.node 252 (.node 237 (.leaf 222 W222T.1) (.node 251 (.leaf 237 W237T.1) (.leaf 251 W251T.1))) (.node 281 (.node 253 (.leaf 252 W252T.1) (.leaf 253 W253T.1)) (.node 282 (.leaf 281 W281T.1) (.leaf 282 W282T.1)))))
theorem iS:texT.All fun f F=>∃mu,FnIs Tryz.prog gvT mu f F:=⟨⟨⟨⟨⟨false,bEb⟩,⟨⟨false,aYn⟩,⟨false,aYs⟩⟩⟩,⟨⟨false,bAi⟩,⟨⟨false,bBf⟩,⟨false,bBg⟩⟩⟩⟩,⟨⟨⟨false,bBh⟩,⟨⟨false,bBi⟩,⟨false,bBm⟩⟩⟩,⟨⟨⟨false,bBr⟩,⟨false,bBs⟩⟩,⟨⟨false,bBt⟩,⟨false,bBu⟩⟩⟩⟩⟩,⟨⟨⟨⟨false,aVd⟩,⟨⟨false,aVe⟩,⟨false,aVf⟩⟩⟩,⟨⟨⟨false,aVg⟩,⟨false,aVh⟩⟩,⟨⟨false,aVi⟩,⟨false,aVj⟩⟩⟩⟩,⟨⟨⟨false,aVk⟩,⟨⟨false,aVl⟩,⟨false,aVm⟩⟩⟩,⟨⟨⟨false,aVn⟩,⟨false,aVo⟩⟩,⟨⟨false,aVp⟩,⟨false,aVq⟩⟩⟩⟩⟩⟩
theorem aWo:FnOK Tryz.prog 127:=⟨_,Tryz.func127,by kernel_rfl,by kernel_rfl⟩
theorem aWp:FnOK Tryz.prog 128:=⟨_,Tryz.func128,by kernel_rfl,by kernel_rfl⟩
theorem bCm:FnOK Tryz.prog 40:=⟨_,Tryz.func40,by kernel_rfl,by kernel_rfl⟩
def decS:List (List AV)→Option (List (List UInt8))
 |[]=>some []
 |[.str x]::r=>match decS r with
  |some l=>some (x::l)
  |none=>none
 |_=>none
theorem aHn:∀{els:List (List AV)} {l:List (List UInt8)},decS els=some l→els=strsE l
 |[],l,h=>by cases h;rfl
 |[.str x]::r,l,h=>by
  simp only[decS] at h;split at h
  · rename_i l' hl'
    cases h;rw[aHn hl'];rfl
  · cases h
def orcJ (f:FuncId) (args:List AV) (H:Heap):Option (Out×Heap):=
 match orcQ f args with
 |some v=>match freeL args&&v.free with
  |true=>some (.ret v,H)
  |false=>none
 |none=>match Nat.beq f 127 with
 |true=>match args with
  |[.str s,.str [c]]=>some (.ret (.int .i64 (Lib.countByte s c)),H)
  |_=>none
 |false=>match Nat.beq f 128 with
 |true=>match args with
  |[.str s,.str [c]]=>some (.ret (.int .i64 (Lib.indexByte s c)),H)
  |_=>none
 |false=>match Nat.beq f 40 with
 |true=>match args with
  |[.aT _ 1 els,.str sep]=>match decS els with
   |some xs=>match Nat.blt 0 xs.length&&Nat.ble xs.length 1000&&Nat.ble (Lib.join xs sep).length 1000000 with
    |true=>some (.ret (.str (Lib.join xs sep)),H)
    |false=>none
   |none=>none
  |_=>none
 |false=>none
theorem iQ:OrcOK Tryz.prog gvT orcJ:=by
 intro f args H out H' h;unfold orcJ at h;split at h
 · rename_i v hv
   split at h
   · rename_i hf
     cases h;rw[Bool.and_eq_true] at hf;exact toT hf.1 hf.2 (aIm hv) H
   · cases h
 split at h
 · rename_i hf
   obtain rfl:=Nat.eq_of_beq_eq_true hf;split at h
   · cases h
     rename_i s c _;refine tI aWo (fun w=>?_) H;exact Any.strings_Count_one Tryz.aRm ⟨s.toArray⟩ c w
   · cases h
 split at h
 · rename_i hf
   obtain rfl:=Nat.eq_of_beq_eq_true hf;split at h
   · cases h
     rename_i s c _;refine tI aWp (fun w=>?_) H;exact Any.strings_Index_one Tryz.aRn ⟨s.toArray⟩ c w
   · cases h
 split at h
 · rename_i hf
   obtain rfl:=Nat.eq_of_beq_eq_true hf;split at h
   · rename_i tag els sep _
     split at h
     · rename_i xs hx
       split at h
       · rename_i hc
         cases h;rw[aHn hx];simp only[Bool.and_eq_true,Nat.blt_eq,Nat.ble_eq] at hc;refine aEi bCm moT (fun e=>by subst e;exact absurd hc.1.1 (Nat.lt_irrefl _)) (by omega) (by omega) (fun bk o c ys w h1 h2 h3 h4 h5=>?_) tag H;exact Any.strings_Join Tryz.aRo Tryz.oR bk o c ys ⟨sep.toArray⟩ w h1 h2 h3 h4 h5
       · cases h
     · cases h
   · cases h
 · cases h
end Go.Proofs.YtjiignefffdelaaGreatDoor
namespace Go.Proofs.YtjiignefffdelaaGreatDoor
open Go Go.Av Go.Geo
theorem aVr:KOK Tryz.prog gvT kH:=aXl bCg (by kernel_rfl)
def kN (n:Int) (s:List UInt8):Fact:=(41,[.int .i64 n],.str s)
theorem aVs:KOK Tryz.prog gvT (kN 0 [48]::kH):=aVr.ran wM iX iS iQ bL 0 (by kernel_rfl)
theorem aVt:KOK Tryz.prog gvT (kN 2 [50]::kN 0 [48]::kH):=aVs.ran wM iX iS iQ bL 0 (by kernel_rfl)
theorem aVu:KOK Tryz.prog gvT (kN 8 [56]::kN 2 [50]::kN 0 [48]::kH):=aVt.ran wM iX iS iQ bL 0 (by kernel_rfl)
def kL:List Fact:=kN 8 [56]::kN 2 [50]::kN 0 [48]::kH
theorem aVv:KOK Tryz.prog gvT (kN 10 [49,48]::kL):=aVu.ran wM iX iS iQ bL 0 (by kernel_rfl)
theorem aVw:KOK Tryz.prog gvT (kN 500 [53,48,48]::kN 10 [49,48]::kL):=aVv.ran wM iX iS iQ bL 0 (by kernel_rfl)
theorem aVx:KOK Tryz.prog gvT (kN 700 [55,48,48]::kN 500 [53,48,48]::kN 10 [49,48]::kL):=aVw.ran wM iX iS iQ bL 0 (by kernel_rfl)
def kM:List Fact:=kN 700 [55,48,48]::kN 500 [53,48,48]::kN 10 [49,48]::kL
def txt:List UInt8:=[98,111,100,121,32,98,32,109,97,115,115,32,56,32,49,48,32,114,111,117,103,104,32,53,48,48,32,55,48,48,10,112,97,114,116,32,48,32,48,32,48,32,48,32,48,32,50,32,48,32,50,32,48,32,48,32,50,32,50,32,50,32,48,32,48,32,50,32,48,32,50,32,50,32,50,32,48,32,50,32,50,32,50,10]
def kX:Fact:=(13,[body0],.str txt)
theorem bCi:KOK Tryz.prog gvT (kX::kM):=aVx.ran wM iX iS iQ bL 0 (by kernel_rfl)
def nopP (f:FuncId) (k:Nat):Bool:=Nat.beq f 36&&Nat.beq k 2
theorem aRr:NopOK Tryz.prog gvT nopP:=fun f k h args H ha=>by
 simp only[nopP,Bool.and_eq_true] at h;obtain rfl:=Nat.eq_of_beq_eq_true h.1;obtain rfl:=Nat.eq_of_beq_eq_true h.2;exact aLj args ha H
theorem bCh:KOK Tryz.prog gvT ((4,[],.bool true)::kX::kM):=bCi.ran wM iX iS iQ aRr 0 (by kernel_rfl)
theorem aMe (H:Heap):Sound Tryz.prog gvT 4 [] H (.ret (.bool true)) H:=bCh _ List.mem_cons_self H
end Go.Proofs.YtjiignefffdelaaGreatDoor
namespace Go.Proofs.YtjiignefffdelaaGreatDoor
open Go Go.Av Go.Geo Go.Num
attribute [local congr] aU aN aO aM aW aR aP aL
attribute [local irreducible] FC FOps FD2
theorem aWk {name:List UInt8} (hname:name.length<2^63) {pv:AV} {ps:List (AV×List Geo.V)} (hpv:PartsR pv ps) (hps:∀p∈ps,PartR p) (hpl:ps.length<2^63) (m0 m1 r0 r1:Int) (H:Heap):
 Sound Tryz.prog gvT 3 [.agg (bodyC name pv m0 m1 r0 r1)] H (.ret (.bool true)) H:=by
 refine tH wM iX bDv (Nat.le_of_ble_eq_true rfl) (by simp only[sf,bodyC,hpv.free hps]) (by simp only[sf]) ?_ H;unfold W3T;dsimp only
 have hfr:freeL [AV.agg (bodyC name pv m0 m1 r0 r1)]=true:=by simp only[sf,bodyC,hpv.free hps]
 have hsan:=aMe;have hfew:=toT hfr rfl fun H=>aTa (name:=name) hpv hps hpl m0 m1 r0 r1 H
 have hfl:fewB (ps.map (·.2))=true→(∀p∈ps,p.2.length<2^30)∧ps.length<2^30:=fun h=>by
  simp only[fewB,Bool.and_eq_true,Bool.not_eq_true',List.any_eq_false,decide_eq_true_eq,List.length_map] at h;refine⟨fun p hp=>?_,by omega⟩;have :=h.1 p.2 (List.mem_map.2 ⟨p,hp,rfl⟩);omega
 have hck:=fun h=>toT hfr rfl fun H=>aMr (name:=name) (by omega) hpv hps (hfl h).1 (hfl h).2 m0 m1 r0 r1 H;have hrk:=fun h=>toT hfr rfl fun H=>aLm (name:=name) hname hpv hps (hfl h).1 (hfl h).2 m0 m1 r0 r1 H;have b6:(bodyC name pv m0 m1 r0 r1).length=6:=rfl;generalize bodyC name pv m0 m1 r0 r1=bc at *;generalize chkB name (ps.map (·.2)) m0 m1 r0 r1=z at *;have hz:(z==z)=true:=beq_self_eq_true z;refine aA fun K hK=>?_;simp only[↓zP,zG,Nat.reduceLT,zI];apply hK;clear hK K;refine aA fun K hK=>?_;refine aQ (by decide) ?_;simp only[↓zP,zI];refine cE (hsan _) ?_;simp only[↓zP,zG,Nat.reduceLT,Nat.reduceEqDiff,Nat.reduceAdd,zD,reduceCtorEq,zI,oL b6];refine cE (hfew _) ?_
 cases hfe:fewB (ps.map (·.2)) with
 |false=>
  simp only[↓zP,zG,Nat.reduceLT,Nat.reduceEqDiff,Nat.reduceAdd,zD,reduceCtorEq,zI];apply hK;clear hK K;simp only[↓zP];refine⟨rfl,_,by simp only[↓zP,zR];rfl,?_⟩;rfl
 |true=>
  simp only[↓zP,zG,Nat.reduceLT,Nat.reduceEqDiff,Nat.reduceAdd,zD,reduceCtorEq,zI,oL b6];refine cE (hck hfe _) ?_;simp only[↓zP,zG,Nat.reduceLT,Nat.reduceEqDiff,Nat.reduceAdd,zD,reduceCtorEq,zI,oL b6];refine cE (hrk hfe _) ?_;simp only[↓zP,zG,Nat.reduceLT,Nat.reduceEqDiff,Nat.reduceAdd,zD,reduceCtorEq,zI,hz];apply hK;clear hK K;simp only[↓zP];refine⟨rfl,_,by simp only[↓zP,zR];rfl,?_⟩;rfl
end Go.Proofs.YtjiignefffdelaaGreatDoor
namespace Go.Proofs.YtjiignefffdelaaGreatDoor
open Go Go.Av Go.Geo
open Go.ChangeShapes Go.WideShapes Go.ChangeAt Go.RowKit
section
theorem own:ownKnob Tryz.prog.godebug=none:=by kernel_rfl
theorem laidOut:laidOutB Tryz.prog=true:=by kernel_rfl
def nmAt (i:Nat):String:=(Rows.bodyChecksAsSpecifiedRow.laid.map (·.1)).getD i default
theorem bDa:Tryz.prog.globalNamed (nmAt 2)=some 3:=by kernel_rfl
theorem bFr:(Tryz.prog.globals[3]?).map (·.type)=some 292:=by kernel_rfl
def laid5:List (String×DataW Unit):=[(nmAt 0,Rows.laid_math_bits_deBruijn32tab),(nmAt 1,Rows.laid_math_bits_deBruijn64tab),(nmAt 2,Rows.laid_internal_strconv_uint64pow10),(nmAt 3,Rows.laid_unicode_utf8_acceptRanges),(nmAt 4,Rows.laid_unicode_utf8_first)]
def asLit:AV→DataW Unit
 |.int k n=>.lit (.int k n)
 |_=>.nil
theorem aWx:Rows.laid_internal_strconv_uint64pow10=DataW.agg (pow10C.map asLit):=by kernel_rfl
theorem aRk {W:World} {mo:Bool} {enc:TypeId×Value→Unit} {name:String} {g:Nat} {cs:Array Value} {base fuel:Nat} {sp:Nat→Bool} {hd:Bool} {p:List MemPlace} (hg:Tryz.prog.globalNamed name=some g) (hv:W.var? Tryz.prog name=some cs)
 (h:DataW.trod enc Tryz.prog W base sp hd fuel 292 cs.toList=some (DataW.agg (pow10C.map asLit),p)):VR (fullG mo W) W (.pl pow10C) (.pointer (some ⟨g,0,none⟩)):=by
 obtain⟨xs,m,_,hx,hl,hxl,hel⟩:=DataW.trod_array Tryz.underlying292 h
 have c1:Tryz.prog.cellsOf 84=1:=by kernel_rfl
 simp only[Prod.mk.injEq,DataW.agg.injEq] at hx
 have hr:pow10C.length=20:=by kernel_rfl
 have key:∀j,j<20→∃n,cs[j]?=some (.int .u64 n)∧pow10C.getD j undefA=.int .u64 n:=by
  intro j hj;have h1:=hel j hj;rw[c1,Nat.mul_one,List.getElem?_eq_getElem (by omega)] at h1;obtain⟨n,e1,e2,_⟩:=DataW.trod_int Tryz.underlying84 h1;refine⟨n,?_,?_⟩
  · have h3:(((cs.toList.drop j).take 1))[0]?=some (.int .u64 n):=by rw[e1];rfl
    rw[List.getElem?_take,if_pos (by decide),List.getElem?_drop] at h3;simpa using h3
  · have h2:(pow10C.map asLit)[j]?=some (.lit (.int .u64 n)):=by
     rw[hx.1,List.getElem?_map,List.getElem?_eq_getElem (by omega),e2];rfl
    rw[List.getElem?_map] at h2;rw[List.getD]
    cases hq:pow10C[j]? with
    |none=>rw[hq] at h2;cases h2
    |some a=>
     rw[hq] at h2;simp only[Option.map_some,Option.some.injEq] at h2;cases a<;>simp[asLit] at h2;obtain⟨rfl,rfl⟩:=h2;rfl
 have cell:∀j,W.cell? ⟨g,0+j,none⟩=cs[j]?:=fun j=>by rw[Nat.zero_add];exact World.var?_cell hg hv j
 obtain⟨f,hf⟩:=Go.Deep.choose_lt (α:=Int) (n:=20) (p:=fun j n=>cs[j]?=some (.int .u64 n)∧pow10C.getD j undefA=.int .u64 n) key;refine .pl pow10C g 0 (fun j=>.int .u64 (f j)) (fun j hj=>?_) (fun j hj=>?_)
 · rw[hr] at hj
   have :=hf j hj;refine⟨⟨_,(cell j).trans this.1⟩,(cell j).trans this.1,?_⟩;rw[this.2];rfl
 · rw[hr] at hj
   rw[(hf j hj).2];exact .int _ _
theorem aRl {W:World} (h:laidMetH Tryz.prog laid5 W):WR gvT (fullG false W) ⟨0,.nil⟩ W:=by
 rw[MakeChecks.laidMetH_plain _ _ _ (by kernel_rfl)] at h;obtain⟨ps,⟨g0,t0,cs0,f0,p0,q0,hg0,ht0,hv0,hd0,⟨g1,t1,cs1,f1,p1,q1,hg1,ht1,hv1,hd1,⟨g2,t2,cs2,f2,p2,q2,hg2,ht2,hv2,hd2,_,_⟩,_⟩,_⟩,_,_⟩:=h;obtain rfl:=Option.some.inj (bDa.symm.trans hg2);obtain rfl:=Option.some.inj (bFr.symm.trans ht2);rw[aWx] at hd2;refine aVc fun n cs hn=>?_;have hn:gvalT n=some cs:=hn;unfold gvalT at hn;split at hn
 · rename_i hb
   obtain rfl:=Nat.eq_of_beq_eq_true hb;cases hn;exact aRk hg2 hv2 hd2
 · split at hn
   · cases hn
     exact .pl [] n 0 (fun _=>undef) (fun j hj=>absurd hj (Nat.not_lt_zero _)) (fun j hj=>absurd hj (Nat.not_lt_zero _))
   · cases hn
def ivV:Value→Int
 |.int _ n=>n
 |_=>0
theorem aUz:flatT Tryz.prog 8 25=some [9,22,3,3,3,3]:=by kernel_rfl
theorem aVa:flatT Tryz.prog 8 32=some [30]:=by kernel_rfl
theorem aVb:flatT Tryz.prog 8 35=some [3,3,3]:=by kernel_rfl
section
variable {H:Type} {enc:TypeId×Value→H} {W:World} {base:Nat} {hd:Bool}
theorem aFv {v:Value} {m:Nat} {y:DataW H×List MemPlace} (mo:Bool) (h:DataW.trod enc Tryz.prog W base (fun _=>true) hd m 30 [v]=some y):∃p:AV×List Geo.V,PartR p∧VR (fullG mo W) W p.1 v:=by
 rcases aAg Tryz.underlying30 aVb (fun u hu=>by
  have :u=3:=by simpa using hu
  subst this;exact Tryz.underlying3) (by kernel_rfl) (by decide) mo h with rfl|⟨len,f,hl,hw,hv⟩
 · exact⟨(.nilsl,[]),.inl ⟨rfl,rfl⟩,.nilsl⟩
 · refine⟨(.aT 0 3 (ivE ((List.range len).map fun i=>(⟨f (i*3+0),f (i*3+1),f (i*3+2)⟩:Geo.V))),(List.range len).map fun i=>⟨f (i*3+0),f (i*3+1),f (i*3+2)⟩),.inr rfl,hv _ ?_ ?_ ?_⟩
   · simp[ivE]
   · intro e he
     simp only[ivE,List.mem_map] at he;obtain⟨x,_,rfl⟩:=he;rfl
   · rw[show([3,3,3]:List TypeId).length=3 from rfl,←vF (fun j=>AV.int .i64 (f j)) 3 len]
     simp only[ivE,List.map_map];rfl
theorem aFu {v:Value} {m:Nat} {y:DataW H×List MemPlace} (mo:Bool) (h:DataW.trod enc Tryz.prog W base (fun _=>true) hd m 22 [v]=some y) (hspot:∀a len cap,v=.slice (some a) len cap→a.spot=none):
 ∃(pv:AV) (ps:List (AV×List Geo.V)),PartsR pv ps∧(∀p∈ps,PartR p)∧ps.length<2^63∧VR (fullG mo W) W pv v:=by
 rcases Go.Deep.open_slice Tryz.underlying22 h with ⟨h0,_⟩|⟨a,len,cap,mm,n,D,Pl,hv,hb,hl,hm,hmm,rfl,hx⟩
 · obtain rfl:v=.slice none 0 0:=by simpa using h0
   exact⟨.nilsl,[],.inl ⟨rfl,rfl⟩,by simp,by decide,.nilsl⟩
 obtain rfl:v=.slice (some a) len cap:=by simpa using hv
 have hs:=hspot a len cap rfl;obtain⟨b,o,s⟩:=a;simp only at hs;subst hs
 have hmc:mm=cap:=by simpa using hmm
 have c1:Tryz.prog.cellsOf 32=1:=by kernel_rfl
 have hcap:cap≤2^63 -1:=hm
 obtain⟨f,hf⟩:=Go.Deep.choose_lt (α:=(AV×List Geo.V)×Value) (n:=len) (p:=fun j r=>PartR r.1∧W.cell? ⟨b,o+j,none⟩=some r.2∧VR (fullG mo W) W r.1.1 r.2) (fun j hj=>by
  obtain⟨cs',h1,h2⟩:=hx j (by omega);rw[c1,Nat.mul_one] at h1;obtain⟨_,hlen,hcell⟩:=World.cells?_some h1;obtain⟨u,mu,yu,hu,hyu⟩:=(jP 8 aVa h2) 0 30 rfl;obtain⟨p,hp,hvp⟩:=aFv mo hyu;refine⟨(p,u),hp,?_,hvp⟩;have :=hcell 0 (by omega);rw[hu] at this;rw[←this,aBj]
  rfl)
 refine⟨.aT 0 1 (pvE ((List.range len).map fun j=>(f j).1)),(List.range len).map fun j=>(f j).1,.inr rfl,?_,by simp;omega,?_⟩
 · intro p hp
   obtain⟨j,hj,rfl⟩:=List.mem_map.1 hp;exact(hf j (List.mem_range.1 hj)).1
 · have hel:(pvE ((List.range len).map fun j=>(f j).1)).length=len:=by simp[pvE]
   have hfl:(pvE ((List.range len).map fun j=>(f j).1)).flatten=(List.range len).map fun j=>(f j).1.1:=by
    unfold pvE;rw[List.map_map];generalize List.range len=l
    induction l with
    |nil=>rfl
    |cons x r ih=>rw[List.map_cons,List.flatten_cons,ih];rfl
   have hg:∀j,j<len→(pvE ((List.range len).map fun j=>(f j).1)).flatten.getD j undefA=(f j).1.1:=fun j hj=>by
    rw[hfl,List.getD,List.getElem?_map,List.getElem?_range hj];rfl
   have hfn:(pvE ((List.range len).map fun j=>(f j).1)).flatten.length=len:=by rw[hfl];simp
   have :=VR.aT (G:=fullG mo W) (w:=W) 0 1 (pvE ((List.range len).map fun j=>(f j).1)) b o cap (fun j=>(f j).2)
    (fun e he=>by simp only[pvE,List.mem_map] at he;obtain⟨x,_,rfl⟩:=he;rfl)
    (fun j hj=>by
      rw[hfn] at hj;obtain⟨q1,q2,q3⟩:=hf j hj;refine⟨⟨_,q2⟩,q2,?_⟩;rw[hg j hj]
      rcases q1 with ⟨q,_⟩|q<;>rw[q]<;>rfl)
    (fun j hj=>by
      rw[hfn] at hj;rw[hg j hj]
      exact(hf j hj).2.2)
    ⟨by rw[hel];exact hl,trivial⟩
   rw[hel] at this;exact this
end
end
theorem aAd {W:World} {base:Nat} {t e:TypeId} {v:Value} (ht:Tryz.prog.underlying t=some (.slice e)) (h:Cell.okWide Tryz.prog W .any base t v):∀a len cap,v=.slice (some a) len cap→a.spot=none:=by
 rintro a len cap rfl;simp only[Cell.okWide,Cell.ok,ht] at h;exact h.2.2.2.1
theorem aNh:Tryz.prog.cellTypes Tryz.prog.depth 25=some [9,22,3,3,3,3]:=by kernel_rfl
theorem aAx {G:Gh} {w:World} {cs:List Value} {i:Nat} (h:∃n,cs[i]?=some (.int .i64 n)∧(Lit.int .i64 n).wf=true):VR G w (.int .i64 (ivV (cs.getD i undef))) (cs.getD i undef):=by
 obtain⟨n,hn,_⟩:=h;rw[List.getD,hn];exact .int _ _
theorem aNr (os:Os) (started:os.Started) (H:Type) (enc:TypeId×Value→H):
 ReturnsInHanded {} Tryz.checked os 3 .any (fun w args=>(Rows.bodyChecksAsSpecifiedSpec.pre enc Tryz.prog Tryz.f3 [] false w args∧laidMetH Tryz.prog laid5 w)∧sizedMet enc Tryz.prog Tryz.f3 (OpenSpec.ofChange Rows.bodyChecksAsSpecifiedSpec) false w args)
  (Rows.bodyChecksAsSpecifiedSpec.post enc Tryz.prog Tryz.f3 false true false false):=by
 refine returnsInHanded_of_change_and (C:=Tryz.checked) (X:=fun w _=>laidMetH Tryz.prog laid5 w) (fun _ _ _ hh h=>h.of_heap hh) own started (by kernel_rfl) Tryz.func3
  (ChangeSpec.witness_shaped (enc:=enc) (C:=Tryz.checked) (os:=os) (X:=fun w _=>laidMetH Tryz.prog laid5 w) false (World.laidAll Tryz.prog os laid5) #[.agg #[.string ⟨#[]⟩,.slice none 0 0,.int .i64 0,.int .i64 0,.int .i64 0,.int .i64 0]] 8 (World.laidAll_os _ _ _) (World.shaped_of_ZipB (by kernel_rfl) (by kernel_rfl)) (by kernel_rfl) (by kernel_rfl) (by kernel_rfl) (by rw[MakeChecks.laidMetH_plain _ _ _ (by kernel_rfl)];exact laidMet_laidAll _ (by kernel_rfl) (by kernel_rfl))) ?_
 intro W base args ds gs before hval0 hW _ _ hL _
 have hval:∀(j:Nat) t v,Tryz.f3.params[j]?=some t→args[j]?=some v→Value.okWide Tryz.prog W .any base t v:=hval0
 have hW':=hW;obtain⟨p,q,hA0,hV,rfl,hfz,hnd⟩:=hW;have hA:DataW.TrodAll enc Tryz.prog W 0 (fun _=>true) true Tryz.f3.params.toList args.toList ds p:=hA0;rw[Tryz.params3] at hA hval;obtain⟨v0,d0,rfl,rfl,h0⟩:=trodAll_one hA;obtain⟨rfl,rfl⟩:=trodVars_none hV;have k0:=hval 0 25 v0 rfl rfl;simp only[Value.okWide,Tryz.underlying25] at k0;obtain⟨cs,rfl,hcs,ts,hts,_,hcell⟩:=k0;obtain rfl:=Option.some.inj (aNh.symm.trans hts);have h0k:=h0;obtain⟨f0,h0⟩:=h0
 replace h0:DataW.trod enc Tryz.prog W 0 (fun _=>true) true f0 25 cs.toList=some (d0,p):=h0
 have R:=jP 8 aUz h0
 have hlen:cs.toList.length=6:=by
  rw[Array.length_toList,hcs]
  kernel_rfl
 obtain⟨z,hz,hzs⟩:=aGi R (i:=0) (u:=9) rfl Tryz.underlying9;obtain⟨v1,m1,y1,hv1,hy1⟩:=R 1 22 rfl
 have hv1':cs[1]?=some v1:=by simpa using hv1
 obtain⟨u1,hu1,ok1⟩:=hcell 1 v1 hv1';obtain rfl:u1=22:=(Option.some.inj hu1).symm;obtain⟨pv,ps,hpv,hps,hpl,hvr1⟩:=aFu false hy1 (aAd Tryz.underlying22 ok1)
 have hone:pv.one=true:=by rcases hpv with ⟨rfl,_⟩|rfl<;>rfl
 have hvr0:VR (fullG false W) W (.agg (bodyC z.data.toList pv (ivV (cs.toList.getD 2 undef)) (ivV (cs.toList.getD 3 undef)) (ivV (cs.toList.getD 4 undef)) (ivV (cs.toList.getD 5 undef)))) (.agg cs):=by
  refine .agg _ cs.toList hlen ?_ ?_
  · intro c hc
    simp only[bodyC,List.mem_cons,List.not_mem_nil,or_false] at hc
    rcases hc with rfl|rfl|rfl|rfl|rfl|rfl<;>first|rfl|exact hone
  · intro j hj
    exact match j,hj with
    |0,_=>by
     have :cs.toList.getD 0 undef=.string z:=by rw[List.getD,hz];rfl
     rw[this];exact .str z
    |1,_=>by
     have :cs.toList.getD 1 undef=v1:=by rw[List.getD,hv1];rfl
     rw[this];exact hvr1
    |2,_=>aAx (iF R (i:=2) (u:=3) rfl Tryz.underlying3)
    |3,_=>aAx (iF R (i:=3) (u:=3) rfl Tryz.underlying3)
    |4,_=>aAx (iF R (i:=4) (u:=3) rfl Tryz.underlying3)
    |5,_=>aAx (iF R (i:=5) (u:=3) rfl Tryz.underlying3)
    |n+6,h=>absurd h (by simp only[bodyC,List.length_cons,List.length_nil];omega)
 have hzl:z.data.toList.length<2^63:=by
  have :z.data.toList.length=z.size:=Array.length_toList;have h63:maxLen=2^63 -1:=rfl;omega
 have hS:=(aWk hzl hpv hps hpl (ivV (cs.toList.getD 2 undef)) (ivV (cs.toList.getD 3 undef)) (ivV (cs.toList.getD 4 undef)) (ivV (cs.toList.getD 5 undef)) ⟨0,.nil⟩).2 (fullG false W) W [.agg cs] (aRl hL)
  ⟨rfl,fun j hj=>match j,hj with
    |0,_=>hvr0
    |n+1,h=>absurd h (by simp)⟩
 refine hS.mono fun e W' ⟨G',hw,hE,hO⟩=>?_
 have he:e=.returned (.bool true):=by
  cases e with
  |returned u=>
   cases hO with
   |bool b=>rfl
  |_=>exact hO.elim
 subst he
 have same:∀x:MemPlace,x.block<W.heap.size→W.sameAt W' x:=fun x hx=>by
  cases x with
  |cell b o=>
   have hx':b<W.heap.size:=hx;show W'.cell? ⟨b,o,none⟩=W.cell? ⟨b,o,none⟩;simp only[World.cell?,pK hE hx']
  |map b=>exact pK hE hx
 have hlt:∀x∈p++[],x.block<W.heap.size:=fun x hx=>by simpa using hW'.lt x hx
 have stay:∀{sp:Nat→Bool} {t:TypeId} {v:Value} {d:DataW H} {ps:List MemPlace},Tryz.prog.readableRec t=true→t<Tryz.prog.types.size→DataW.Trod enc Tryz.prog W 0 (fun _=>true) true t v d ps→(∀x∈ps,x∈p++[])→
  (∀x∈p++[],sp x.block=true)→DataW.Trod enc Tryz.prog W' 0 sp true t v d ps:=fun hr hrow h hin hsp=>
  WideElems.Trod_stays laidOut hr hrow h (fun x hx=>same x (hlt x (hin x hx))) fun x hx=>hsp x (hin x hx)
 refine⟨_,rfl,aCx (pa:=p) (pv:=[]) hE hW' (fun _ _ _=>trodAll_mk1 (shut_bool Tryz.underlying4 _)) (fun sp hsp=>?_) (fun _ _=>rfl) (by simp) (ok_one (by kernel_rfl) rfl (okWide_bool_mk Tryz.underlying4 _))⟩;exact trodAll_mk1 (stay (by kernel_rfl) (of_decide_eq_true (by kernel_rfl)) h0k (fun x hx=>by simp[hx]) hsp)
theorem aRi:Rows.BodyChecksAsSpecifiedSaid:=
 OpenClaim.holds_of_wide 3 Tryz.f3 rfl rfl rfl rfl rfl rfl rfl ⟨rfl,rfl,rfl,rfl,rfl⟩ rfl rfl rfl rfl rfl (by kernel_rfl) Tryz.func3 (by kernel_rfl)
  (of_decide_eq_true (by kernel_rfl)) (by unfold Func.isWrapper;rw[if_neg (by decide+kernel)];exact⟨rfl,rfl⟩)
  (fun os started H enc _=>aNr os started H enc)
end Go.Proofs.YtjiignefffdelaaGreatDoor
