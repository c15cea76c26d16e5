/-
  Part of the proof of statement 5
-/
import Derived.Test.YtbndcmnnbiiobaaGreatDoorA19
import Derived.Test.YtbndcmnnbiiobaaGreatDoorRows
import Derived.LaidMore
import Derived.LaidLaws
import Derived.MakeChecks
import Derived.OpenShut
import Derived.Lay
import Derived.ChangeMaps5
set_option linter.unusedVariables false
set_option maxRecDepth 100000
set_option maxHeartbeats 16000000
namespace Go.Proofs.YtbndcmnnbiiobaaGreatDoor
open Go Go.Av Go.aG
open Go.ChangeShapes Go.WideShapes Go.ChangeAt Go.RowKit
theorem UT {W:World} {base:Nat} {t e:TypeId} {v:Value} (ht:Tryz.prog.underlying t=some (.slice e)) (h:Cell.okWide Tryz.prog W .any base t v):∀a len cap,v=.slice (some a) len cap->a.spot=none:=by rintro a len cap rfl;simp only[Cell.okWide,Cell.ok,ht] at h;exact h.2.2.2.1
theorem zq:Tryz.prog.cellTypes Tryz.prog.depth 25=some [9,22,3,3,3,3]:=by kernel_rfl
theorem Uw {G:Gh} {w:World} {cs:List Value} {i:Nat} (h:∃n,cs[i]?=some (.int .i64 n)/\(Lit.int .i64 n).wf=true):VR G w (.int .i64 (ivV (cs.getD i undef))) (cs.getD i undef):=by obtain⟨n,hn,_⟩:=h;rw[List.getD,hn];exact .int _ _
theorem aAl (os:Os) (started:os.Started) (H:Type) (enc:TypeId×Value->H):
 ReturnsInHanded {} Tryz.checked os 3 .any (fun w args=>(Rows.bodyTextsSpec.pre enc Tryz.prog Tryz.f3 [] false w args/\laidMetH Tryz.prog Wr w)/\sizedMet enc Tryz.prog Tryz.f3 (OpenSpec.ofChange Rows.bodyTextsSpec) false w args)
  (Rows.bodyTextsSpec.post enc Tryz.prog Tryz.f3 false true false false):=by
 refine returnsInHanded_of_change_and (C:=Tryz.checked) (X:=fun w _=>laidMetH Tryz.prog Wr w) (fun _ _ _ hh h=>h.of_heap hh) own started (by kernel_rfl) Tryz.func3
  (ChangeSpec.witness_shaped (enc:=enc) (C:=Tryz.checked) (os:=os) (X:=fun w _=>laidMetH Tryz.prog Wr w) false (World.laidAll Tryz.prog os Wr) #[.string ⟨#[]⟩,.agg #[.string ⟨#[]⟩,.slice none 0 0,.int .i64 0,.int .i64 0,.int .i64 0,.int .i64 0]] 8 (World.laidAll_os _ _ _) (World.shaped_of_ZipB (by kernel_rfl) (by kernel_rfl)) (by kernel_rfl) (by kernel_rfl) (by kernel_rfl) (by rw[MakeChecks.laidMetH_plain _ _ _ (by kernel_rfl)];exact laidMet_laidAll _ (by kernel_rfl) (by kernel_rfl))) ?_
 intro W base args ds gs before PF hW _ _ hL _
 have xJ:∀(j:Nat) t v,Tryz.f3.params[j]?=some t->args[j]?=some v->Value.okWide Tryz.prog W .any base t v:=PF
 have hW':=hW;obtain⟨p,q,hA0,hV,rfl,fy,RM⟩:=hW;have hA:DataW.TrodAll enc Tryz.prog W 0 (fun _=>true) true Tryz.f3.params.toList args.toList ds p:=hA0;rw[Tryz.params3] at hA xJ;obtain⟨vs,v0,ds0,d0,ps0,p0,rfl,rfl,rfl,hs0,h0⟩:=trodAll_two hA;obtain⟨rfl,rfl⟩:=trodVars_none hV;obtain⟨sz,rfl,rfl,rfl,jA⟩:=Go.ChangeMaps.open_string Tryz.underlying9 (xJ 0 9 vs rfl rfl) hs0;have k0:=xJ 1 25 v0 rfl rfl;simp only[Value.okWide,Tryz.underlying25] at k0;obtain⟨cs,rfl,KT,ts,hts,_,iB⟩:=k0;obtain rfl:=Aa (zq.symm.trans hts);have h0k:=h0;obtain⟨f0,h0⟩:=h0
 replace h0:DataW.trod enc Tryz.prog W 0 (fun _=>true) true f0 25 cs.toList=some (d0,p0):=h0
 have R:=yC 8 aRd h0
 have hlen:cs.toList.length=6:=by
  rw[Dh,KT]
  kernel_rfl
 obtain⟨z,hz,DL⟩:=bu R (i:=0) (u:=9) rfl Tryz.underlying9;obtain⟨v1,m1,y1,sR,hy1⟩:=R 1 22 rfl
 have bGj:cs[1]?=some v1:=by simpa using sR
 obtain⟨u1,hu1,ok1⟩:=iB 1 v1 bGj;obtain rfl:u1=22:=(Aa hu1).symm;obtain⟨pv,ps,JB,oZ,nP,bGl⟩:=Zw false hy1 (UT Tryz.underlying22 ok1)
 have sP:pv.one=true:=by rcases JB with ⟨rfl,_⟩|rfl<;>rfl
 have bGk:VR (sZ false W) W (.agg (bX z.data.toList pv (ivV (cs.toList.getD 2 undef)) (ivV (cs.toList.getD 3 undef)) (ivV (cs.toList.getD 4 undef)) (ivV (cs.toList.getD 5 undef)))) (.agg cs):=by
  refine .agg _ cs.toList hlen ?_ ?_
  · intro c hc;simp only[bX,Aq,Bx,Em] at hc
    rcases hc with rfl|rfl|rfl|rfl|rfl|rfl<;>first|rfl|exact sP
  intro j hj
  exact match j,hj with
  |0,_=>by have :cs.toList.getD 0 undef=.string z:=(by rw[List.getD,hz];rfl);rw[this];exact .str z
  |1,_=>by have :cs.toList.getD 1 undef=v1:=(by rw[List.getD,sR];rfl);rw[this];exact bGl
  |2,_=>Uw (uO R (i:=2) (u:=3) rfl Tryz.underlying3)
  |3,_=>Uw (uO R (i:=3) (u:=3) rfl Tryz.underlying3)
  |4,_=>Uw (uO R (i:=4) (u:=3) rfl Tryz.underlying3)
  |5,_=>Uw (uO R (i:=5) (u:=3) rfl Tryz.underlying3)
  |n+6,h=>absurd h (by simp only[bX,Ah,Ay];omega)
 have hzl:z.data.toList.length<2^63:=by have :z.data.toList.length=z.size:=Dh;have h63:maxLen=2^63 -1:=rfl;omega
 have hS:=(aUd (s:=sz.data.toList) hzl JB oZ nP (ivV (cs.toList.getD 2 undef)) (ivV (cs.toList.getD 3 undef)) (ivV (cs.toList.getD 4 undef)) (ivV (cs.toList.getD 5 undef)) ⟨0,.nil⟩).2 (sZ false W) W [.string sz,.agg cs] (aHo hL)
  ⟨rfl,fun j hj=>match j,hj with
    |0,_=>.str sz
    |1,_=>bGk
    |n+2,h=>absurd h (by simp)⟩
 refine hS.mono fun e W' ⟨G',hw,hE,hO⟩=>?_
 have he:e=.returned (.bool true):=by
  cases e with
  |returned u=>
   cases hO with
   |bool b=>rfl
  |_=>exact hO.elim
 subst he
 have same:∀x:MemPlace,x.block<W.heap.size->W.sameAt W' x:=fun x hx=>by
  cases x with
  |cell b o=>have VM:b<W.heap.size:=hx;show W'.cell? ⟨b,o,none⟩=W.cell? ⟨b,o,none⟩;simp only[World.cell?,IM hE VM]
  |map b=>exact IM hE hx
 have eQ:∀x∈([]++p0)++[],x.block<W.heap.size:=fun x hx=>by simpa using hW'.lt x hx
 have stay:∀{sp:Nat->Bool} {t:TypeId} {v:Value} {d:DataW H} {ps:List MemPlace},Tryz.prog.readableRec t=true->t<Tryz.prog.types.size->DataW.Trod enc Tryz.prog W 0 (fun _=>true) true t v d ps->(∀x∈ps,x∈([]++p0)++[])->
  (∀x∈([]++p0)++[],sp x.block=true)->DataW.Trod enc Tryz.prog W' 0 sp true t v d ps:=fun hr kY h gD NP=>
  WideElems.Trod_stays laidOut hr kY h (fun x hx=>same x (eQ x (gD x hx))) fun x hx=>NP x (gD x hx)
 refine⟨_,rfl,XL (pa:=[]++p0) (pv:=[]) hE hW' (fun _ _ _=>trodAll_mk1 (shut_bool Tryz.underlying4 _)) (fun sp NP=>?_) (fun _ _=>rfl) (by simp) (ok_one (by kernel_rfl) rfl (okWide_bool_mk Tryz.underlying4 _))⟩;exact trodAll_mk2 (Go.ChangeMaps.shut_string Tryz.underlying9 jA) (stay (by kernel_rfl) (Ea (by kernel_rfl)) h0k (fun x hx=>by simp[hx]) NP)
theorem aGy:Rows.BodyTextsSaid:=
 OpenClaim.holds_of_wide 3 Tryz.f3 rfl rfl rfl rfl rfl rfl rfl ⟨rfl,rfl,rfl,rfl,rfl⟩ rfl rfl rfl rfl rfl (by kernel_rfl) Tryz.func3 (by kernel_rfl)
  (Ea (by kernel_rfl)) (by unfold Func.isWrapper;rw[if_neg (by decide+kernel)];exact⟨rfl,rfl⟩)
  (fun os started H enc _=>aAl os started H enc)
end Go.Proofs.YtbndcmnnbiiobaaGreatDoor
