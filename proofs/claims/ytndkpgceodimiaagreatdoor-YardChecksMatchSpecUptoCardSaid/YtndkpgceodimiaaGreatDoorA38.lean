/-
  Part of the proof of statement 10
-/
import Derived.Test.YtndkpgceodimiaaGreatDoorA26
import Derived.Test.YtndkpgceodimiaaGreatDoorA35
import Derived.Test.YtndkpgceodimiaaGreatDoorA37
import Derived.LaidMore
import Derived.LaidLaws
import Derived.MakeChecks
import Derived.OpenShut
import Derived.Lay
import Derived.ChangeMaps5
import Derived.Deep.DeepHandedRow
set_option linter.unusedVariables false
set_option maxRecDepth 100000
set_option maxHeartbeats 16000000
namespace Go.Proofs.YtndkpgceodimiaaGreatDoor
open Go Go.Av Go.aI
open Go.ChangeShapes Go.WideShapes Go.ChangeAt Go.RowKit
section
theorem own:ownKnob Tryz.prog.godebug=none:=by kernel_rfl
theorem laidOut:laidOutB Tryz.prog=true:=by kernel_rfl
def bk:List (String×DataW Unit):=Rows.yardChecksMatchSpecUptoRow.laid
theorem gUp:Tryz.prog.globalNamed "skewback/contact.up" =some 0:=by kernel_rfl
theorem tUp:(Tryz.prog.globals[0]?).map (·.type)=some 52:=by kernel_rfl
def ZS:AV->DataW Unit
 |.int k n=>.lit (.int k n)
 |_=>.nil
theorem bCb:Rows.laid_skewback_contact_up=DataW.agg (upC.map ZS):=by kernel_rfl
theorem aEr {W:World} {mo:Bool} {enc:TypeId×Value->Unit} {name:String} {g:Nat} {cs:Array Value} {base fuel:Nat} {sp:Nat->Bool} {hd:Bool} {p:List MemPlace} (hg:Tryz.prog.globalNamed name=some g) (hv:W.var? Tryz.prog name=some cs)
 (h:DataW.trod enc Tryz.prog W base sp hd fuel 52 cs.toList=some (DataW.agg (upC.map ZS),p)):VR (nI mo W) W (.pl upC) (.pointer (some ⟨g,0,none⟩))/\∃c el fz,W.heap[g]?=some (.cells c el fz)/\c.size=upC.length:=by
 obtain⟨xs,m,_,hx,hl,RT,Sw⟩:=DataW.trod_array Tryz.underlying52 h;have c1:Tryz.prog.cellsOf 3=1:=by kernel_rfl
 have c3:Tryz.prog.cellsOf 52=3:=by kernel_rfl
 simp only[Ah,DataW.agg.injEq] at hx;have hr:upC.length=3:=rfl
 have key:∀j,j<3->∃n,cs[j]?=some (.int .i64 n)/\upC.getD j aD=.int .i64 n:=by
  intro j hj;have h1:=Sw j hj;rw[c1,Dt,Ab (by omega)] at h1;obtain⟨n,e1,e2,_⟩:=DataW.trod_int Tryz.underlying3 h1;refine⟨n,?_,?_⟩
  · have h3:(((cs.toList.drop j).take 1))[0]?=some (.int .i64 n):=by rw[e1];rfl
    rw[Hu,if_pos (by decide),Fx] at h3;simpa using h3
  have h2:(upC.map ZS)[j]?=some (.lit (.int .i64 n)):=by rw[hx.1,Cz,Ab (by omega),e2];rfl
  rw[Cz] at h2;rw[List.getD]
  cases hq:upC[j]? with
  |none=>rw[hq] at h2;cases h2
  |some a=>rw[hq] at h2;simp only[Bz,Ad] at h2;cases a<;>simp[ZS] at h2;obtain⟨rfl,rfl⟩:=h2;rfl
 have cell:∀j,W.cell? ⟨g,0+j,none⟩=cs[j]?:=fun j=>by rw[Cv];exact World.var?_cell hg hv j
 obtain⟨f,hf⟩:=Go.Deep.choose_lt (α:=Int) (n:=3) (p:=fun j n=>cs[j]?=some (.int .i64 n)/\upC.getD j aD=.int .i64 n) key;refine⟨.pl upC g 0 (fun j=>.int .i64 (f j)) (fun j hj=>?_) (fun j hj=>?_),?_⟩
 · rw[hr] at hj;have :=hf j hj;refine⟨⟨_,(cell j).trans this.1⟩,(cell j).trans this.1,?_⟩;rw[this.2];rfl
 · rw[hr] at hj;rw[(hf j hj).2];exact .int _ _
 unfold World.var? at hv;rw[hg] at hv;simp only[Option.bind_some] at hv;split at hv
 · rename_i c el fz hh;cases hv;exact⟨_,_,_,hh,by rw[hr];rw[c3] at hl;simpa using hl⟩
 cases hv
theorem aFm {W:World} (h:laidMetH Tryz.prog bk W):WR DH (nI false W) ⟨0,.nil⟩ W:=by
 rw[MakeChecks.laidMetH_plain _ _ _ (by kernel_rfl)] at h;obtain⟨ps,⟨g0,t0,cs0,f0,p0,q0,xi,RP,Pf,Xp,⟨g1,t1,cs1,f1,p1,q1,CT,ht1,sQ,Xq,_,_⟩,_⟩,_,_⟩:=h;obtain rfl:=Aa (gUp.symm.trans CT);obtain rfl:=Aa (tUp.symm.trans ht1);rw[bCb] at Xq;have G:=fun mo=>aEr (mo:=mo) CT sQ Xq;refine aQi (fun n cs hn=>?_) fun n cs hn h0=>?_;rotate_left
 · have hn:Np n=some cs:=hn;unfold Np at hn;split at hn
   · rename_i hb;obtain rfl:=Bh hb;cases hn;exact(G false).2
   split at hn
   · cases hn;exact absurd rfl h0
   cases hn
 have hn:Np n=some cs:=hn;unfold Np at hn;split at hn
 · rename_i hb;obtain rfl:=Bh hb;cases hn;exact(G _).1
 split at hn
 · cases hn;exact .pl [] n 0 (fun _=>undef) (fun j hj=>absurd hj (As _)) (fun j hj=>absurd hj (As _))
 cases hn
section
variable {H:Type} {enc:TypeId×Value->H} {W:World} {base:Nat} {hd:Bool}
theorem qG {t:TypeId} {fs:Array Field} {fuel:Nat} {cs:List Value} {x:DataW H×List MemPlace} (ht:Tryz.prog.underlying t=some (.struct fs)) (h:DataW.trod enc Tryz.prog W base (fun _=>true) hd fuel t cs=some x)
 {i:Nat} {f:Field} (hf:fs[i]?=some f) (c1:Tryz.prog.cellsOf f.type=1) (ho:f.offset<Tryz.prog.cellsOf t):
 ∃(v:Value) (m:Nat) (y:DataW H×List MemPlace),cs.getD f.offset undef=v/\DataW.trod enc Tryz.prog W base (fun _=>true) hd m f.type [v]=some y/\Rows.uptoBulk y.1<=Rows.uptoBulk x.1:=by
 obtain⟨xs,n,_,rfl,hl,RT,hfs⟩:=DataW.trod_struct ht h;have h1:=hfs i f hf
 have hi:i<fs.size:=by
  rcases Gd i fs.size with h|h
  · exact h
  rw[Ij h] at hf;cases hf
 have h2:(cs.drop f.offset).take 1=[cs.getD f.offset undef]:=by rw[Ct (by omega),Dl,Es,List.getD,Ab (by omega)];rfl
 rw[c1,h2,Ab (by omega)] at h1;refine⟨_,n,_,rfl,h1,?_⟩;have :=UW (List.mem_map_of_mem (f:=(·.1)) (Ac (l:=xs) (n:=i) (by omega)));simp only[Rows.uptoBulk];omega
theorem lO.one {v:AV} {sz:Nat} {els:List (List AV)} (h:lO v sz els):v.one=true:=by rcases h with ⟨rfl,_⟩|rfl<;>rfl
end
def bCg:Value:=.agg #[.int .i64 0,.int .i64 0,.int .i64 0,.slice none 0 0,.slice none 0 0,.slice none 0 0]
def bCe:Value:=.agg #[.int .i64 0,.int .i64 0,.slice none 0 0]
def bCf:Value:=.agg #[.slice none 0 0,.slice none 0 0,.slice none 0 0,.slice none 0 0,.slice none 0 0,.slice none 0 0]
def z64 {H:Type}:DataW H:=.lit (.int .i64 0)
def bBt {H:Type}:List (DataW H):=[.agg [z64,.agg [z64,z64],.nil,.nil,.nil],.agg [z64,z64,.nil],.agg [.nil,.nil,.nil,.nil,.nil,.nil]]
theorem lifted (os:Os) (started:os.Started) (H:Type) (enc:TypeId×Value->H) (F:Stop.Interp):
 ReturnsInHanded {} Tryz.checked os 3 .any ((Rows.OpenSpec.upto Rows.yardChecksMatchSpecSpec).preRow enc Tryz.prog Tryz.f3 Rows.yardChecksMatchSpecUptoRow.domain false Rows.yardChecksMatchSpecUptoRow.laid) (((Rows.OpenSpec.upto Rows.yardChecksMatchSpecSpec).at F).post enc Tryz.prog Tryz.f3 false true false false):=by
 refine returnsInHanded_of_row (C:=Tryz.checked) (s:=Rows.OpenSpec.upto Rows.yardChecksMatchSpecSpec) own started (by kernel_rfl) Tryz.func3
  ⟨World.laidAll Tryz.prog os bk,fun _ _=>0,⟨#[],#[bCg,bCe,bCf],[]⟩,World.laidAll_os _ _ _,World.shaped_of_ZipB (by kernel_rfl) (by kernel_rfl),rfl,(Input.okWide_of_okWideB (by kernel_rfl)).2,
    OpenSpec.preRow_of_cond 8 (x:=(bBt,[],[])) (by kernel_rfl) (by kernel_rfl) (fun k hk=>by cases hk;kernel_rfl) (by kernel_rfl) (by rw[show Rows.yardChecksMatchSpecUptoRow.laid=bk from rfl,MakeChecks.laidMetH_plain _ _ _ (by kernel_rfl)];exact laidMet_laidAll _ (by kernel_rfl) (by kernel_rfl)),by
    simp only[Assume.holds]
    exact⟨by simp,by simp,by simp,by simp,by simp⟩⟩ ?_
 intro W base args ds gs before OF hW _ eN _ hL _ _;have hL:laidMetH Tryz.prog bk W:=hL
 have IH:∀(j:Nat) t v,Tryz.f3.params[j]?=some t->args[j]?=some v->Value.okWide Tryz.prog W .any base t v:=OF
 have hW':=hW;obtain⟨p,q,hA0,hV,rfl,Zx,QE⟩:=hW;have hA:DataW.TrodAll enc Tryz.prog W 0 (fun _=>true) true Tryz.f3.params.toList args.toList ds p:=hA0;rw[Tryz.params3] at hA IH;obtain⟨v0,v1,v2,d0,d1,d2,p0,p1,p2,rfl,rfl,rfl,h0,h1,h2⟩:=trodAll_three hA;obtain⟨rfl,rfl⟩:=trodVars_none hV
 have wx:Rows.uptoBulk d0+(Rows.uptoBulk d1+Rows.uptoBulk d2)<=1048576:=by have h:Rows.uptoBulkAll ([d0,d1,d2]++[])<=1048576:=Cc (eN _ rfl);simpa only[Cd,Rows.uptoBulkAll,Cy] using h
 have k0:=IH 0 27 v0 rfl rfl;have k1:=IH 1 30 v1 rfl rfl;have k2:=IH 2 34 v2 rfl rfl;simp only[Value.okWide,Tryz.underlying27] at k0;simp only[Value.okWide,Tryz.underlying30] at k1;simp only[Value.okWide,Tryz.underlying34] at k2;obtain⟨c0,rfl,jz,_⟩:=k0;obtain⟨c1,rfl,Sv,_⟩:=k1;obtain⟨c2,rfl,uP,_⟩:=k2;have h0k:=h0;have h1k:=h1;have h2k:=h2;obtain⟨f0,h0⟩:=h0;obtain⟨f1,h1⟩:=h1;obtain⟨f2,h2⟩:=h2
 replace h0:DataW.trod enc Tryz.prog W 0 (fun _=>true) true f0 27 c0.toList=some (d0,p0):=h0
 replace h1:DataW.trod enc Tryz.prog W 0 (fun _=>true) true f1 30 c1.toList=some (d1,p1):=h1
 replace h2:DataW.trod enc Tryz.prog W 0 (fun _=>true) true f2 34 c2.toList=some (d2,p2):=h2
 have l0:c0.toList.length=6:=by rw[Cx,jz];kernel_rfl
 have l1:c1.toList.length=3:=by rw[Cx,Sv];kernel_rfl
 have l2:c2.toList.length=6:=by rw[Cx,uP];kernel_rfl
 have R:=oR 8 (ts:=[3,3,3,23,24,25]) (by kernel_rfl) h0;obtain⟨u3,m3,y3,e3,t3⟩:=R 3 23 rfl;obtain⟨u4,m4,y4,e4,t4⟩:=R 4 24 rfl;obtain⟨u5,m5,y5,e5,t5⟩:=R 5 25 rfl;obtain⟨tv,ts,sH,ht,vt⟩:=Vm false t3;obtain⟨rv,rs,uY,hr,vr,_⟩:=tF (n:=8) false Tryz.underlying24 (by kernel_rfl) (by kernel_rfl) (by decide) t4;obtain⟨uv,us,zF,hu,vu,_⟩:=tF (n:=10) false Tryz.underlying25 (by kernel_rfl) (by kernel_rfl) (by decide) t5
 have hy:VR (nI false W) W (.agg (yC (IL (c0.toList.getD 0 undef)) (IL (c0.toList.getD 1 undef)) (IL (c0.toList.getD 2 undef)) tv rv uv)) (.agg c0):=by
  refine .agg _ c0.toList l0 ?_ ?_
  · intro c hc;simp only[yC,Ap,Br,Dq] at hc
    rcases hc with rfl|rfl|rfl|rfl|rfl|rfl<;>first|rfl|exact lO.one (by assumption)
  intro j hj
  exact match j,hj with
  |0,_=>oJ (fC R (i:=0) (u:=3) rfl Tryz.underlying3)
  |1,_=>oJ (fC R (i:=1) (u:=3) rfl Tryz.underlying3)
  |2,_=>oJ (fC R (i:=2) (u:=3) rfl Tryz.underlying3)
  |3,_=>by rw[show c0.toList.getD 3 undef=u3 from by rw[List.getD,e3];rfl];exact vt
  |4,_=>by rw[show c0.toList.getD 4 undef=u4 from by rw[List.getD,e4];rfl];exact vr
  |5,_=>by rw[show c0.toList.getD 5 undef=u5 from by rw[List.getD,e5];rfl];exact vu
  |n+6,h=>absurd h (by simp only[yC,Aq,Bj];omega)
 have R1:=oR 8 (ts:=[3,3,28]) (by kernel_rfl) h1;obtain⟨w2,n2,x2,g2,s2,b2⟩:=qG Tryz.underlying30 h1 (i:=2) rfl (by kernel_rfl) (by decide+kernel);obtain⟨pv,ps,Ks,hp,vp,bp⟩:=tF (n:=7) false Tryz.underlying28 (by kernel_rfl) (by kernel_rfl) (by decide) s2;dsimp only at b2;have qQ:ps.length<2^62:=by omega
 have ho:VR (nI false W) W (.agg (oC (IL (c1.toList.getD 0 undef)) (IL (c1.toList.getD 1 undef)) pv)) (.agg c1):=by
  refine .agg _ c1.toList l1 ?_ ?_
  · intro c hc;simp only[oC,Ap,Br,Dq] at hc
    rcases hc with rfl|rfl|rfl<;>first|rfl|exact lO.one (by assumption)
  intro j hj
  exact match j,hj with
  |0,_=>oJ (fC R1 (i:=0) (u:=3) rfl Tryz.underlying3)
  |1,_=>oJ (fC R1 (i:=1) (u:=3) rfl Tryz.underlying3)
  |2,_=>by rw[show c1.toList.getD 2 undef=w2 from g2];exact vp
  |n+3,h=>absurd h (by simp only[oC,Aq,Bj];omega)
 obtain⟨a0,i0,z0,q0,r0,o0⟩:=qG Tryz.underlying34 h2 (i:=0) rfl (by kernel_rfl) (by decide+kernel);obtain⟨a1,i1,z1,q1,r1,o1⟩:=qG Tryz.underlying34 h2 (i:=1) rfl (by kernel_rfl) (by decide+kernel);obtain⟨a2,i2,z2,q2,r2,o2⟩:=qG Tryz.underlying34 h2 (i:=2) rfl (by kernel_rfl) (by decide+kernel);obtain⟨a3,i3,z3,q3,r3,o3⟩:=qG Tryz.underlying34 h2 (i:=3) rfl (by kernel_rfl) (by decide+kernel);obtain⟨a4,i4,z4,q4,r4,o4⟩:=qG Tryz.underlying34 h2 (i:=4) rfl (by kernel_rfl) (by decide+kernel);obtain⟨a5,i5,z5,q5,r5,o5⟩:=qG Tryz.underlying34 h2 (i:=5) rfl (by kernel_rfl) (by decide+kernel);obtain⟨sv,st,x0,y0',j0⟩:=FI false r0;obtain⟨sp,sps,x1,k1,y1',j1⟩:=tF (n:=7) false Tryz.underlying28 (by kernel_rfl) (by kernel_rfl) (by decide) r1;obtain⟨vv,vs,x2',k2,y2',j2⟩:=tF (n:=3) false Tryz.underlying32 (by kernel_rfl) (by kernel_rfl) (by decide) r2;obtain⟨wv,ws,x3,k3,y3',j3⟩:=tF (n:=3) false Tryz.underlying32 (by kernel_rfl) (by kernel_rfl) (by decide) r3;obtain⟨av,ta,x4,y4',j4⟩:=FI false r4;obtain⟨cv,ac,x5,y5',j5⟩:=FI false r5;dsimp only at o0 o1 o2 o3 o4 o5;have hs:Sc.OK ⟨sv,sp,vv,wv,av,cv,st,sps,vs,ws,ta,ac⟩:=⟨x0,x1,x2',x3,x4,x5,k1,k2,k3,by show st.length<_;omega,by show sps.length<_;omega,by show vs.length<_;omega,by show ws.length<_;omega,by show ta.length<_;omega,by show ac.length<_;omega⟩
 have hsc:VR (nI false W) W (.agg (Sc.cs ⟨sv,sp,vv,wv,av,cv,st,sps,vs,ws,ta,ac⟩)) (.agg c2):=by
  refine .agg _ c2.toList l2 ?_ ?_
  · intro c hc;simp only[Sc.cs,Ap,Br,Dq] at hc
    rcases hc with rfl|rfl|rfl|rfl|rfl|rfl<;>exact lO.one (by assumption)
  intro j hj
  exact match j,hj with
  |0,_=>by rw[show c2.toList.getD 0 undef=a0 from q0];exact y0'
  |1,_=>by rw[show c2.toList.getD 1 undef=a1 from q1];exact y1'
  |2,_=>by rw[show c2.toList.getD 2 undef=a2 from q2];exact y2'
  |3,_=>by rw[show c2.toList.getD 3 undef=a3 from q3];exact y3'
  |4,_=>by rw[show c2.toList.getD 4 undef=a4 from q4];exact y4'
  |5,_=>by rw[show c2.toList.getD 5 undef=a5 from q5];exact y5'
  |n+6,h=>absurd h (by simp only[Sc.cs,Aq,Bj];omega)
 have hS:=(aFn oi (g:=IL (c0.toList.getD 0 undef)) (r0:=IL (c0.toList.getD 1 undef)) (r1:=IL (c0.toList.getD 2 undef)) (k:=IL (c1.toList.getD 0 undef)) (n:=IL (c1.toList.getD 1 undef)) sH uY zF Ks ht
  (fun r h=>(hr r h).1) (fun r h=>(hu r h).1) hp qQ hs ⟨0,.nil⟩).2 (nI false W) W [.agg c0,.agg c1,.agg c2] (aFm hL)
  ⟨rfl,fun j hj=>match j,hj with
    |0,_=>hy
    |1,_=>ho
    |2,_=>hsc
    |n+3,h=>absurd h (by simp)⟩
 refine hS.mono fun e W' ⟨G',hw,hE,hO⟩=>?_
 have he:e=.returned (.bool true):=by
  cases e with
  |returned u=>
   cases hO with
   |bool b=>rfl
  |_=>exact hO.elim
 subst he
 have same:∀x:MemPlace,x.block<W.heap.size->W.sameAt W' x:=fun x hx=>by
  cases x with
  |cell b o=>have RS:b<W.heap.size:=hx;show W'.cell? ⟨b,o,none⟩=W.cell? ⟨b,o,none⟩;simp only[World.cell?,HP hE RS]
  |map b=>exact HP hE hx
 have eZ:∀x∈(p0++p1++p2)++[],x.block<W.heap.size:=fun x hx=>by simpa using hW'.lt x hx
 have stay:∀{sp:Nat->Bool} {t:TypeId} {v:Value} {d:DataW H} {ps:List MemPlace},Tryz.prog.readableRec t=true->t<Tryz.prog.types.size->DataW.Trod enc Tryz.prog W 0 (fun _=>true) true t v d ps->(∀x∈ps,x∈(p0++p1++p2)++[])->
  (∀x∈(p0++p1++p2)++[],sp x.block=true)->DataW.Trod enc Tryz.prog W' 0 sp true t v d ps:=fun hr tV h gG ya=>
  WideElems.Trod_stays laidOut hr tV h (fun x hx=>same x (eZ x (gG x hx))) fun x hx=>ya x (gG x hx)
 refine⟨_,rfl,Vp (pa:=p0++p1++p2) (pv:=[]) hE hW' (fun _ _ _=>trodAll_mk1 (shut_bool Tryz.underlying4 _)) (fun sp ya=>?_) (fun _ _=>rfl) (by simp) (ok_one (by kernel_rfl) rfl (okWide_bool_mk Tryz.underlying4 _))⟩;rw[Di]
 exact trodAll_mk3 (stay (by kernel_rfl) (Cc (by kernel_rfl)) h0k (fun x hx=>by simp[hx]) ya) (stay (by kernel_rfl) (Cc (by kernel_rfl)) h1k (fun x hx=>by simp[hx]) ya)
  (stay (by kernel_rfl) (Cc (by kernel_rfl)) h2k (fun x hx=>by simp[hx]) ya)
end
end Go.Proofs.YtndkpgceodimiaaGreatDoor
