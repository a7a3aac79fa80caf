/-
  Layer 28,the reference:a dial in memory;out,Hang.
-/
import Derived.Test.YthnbcmlnpdabhaaGreatHXq
import Derived.Test.YthnbcmlnpdabhaaGreatHOq
import Derived.Test.YthnbcmlnpdabhaaGreatIMq
namespace Go.Proofs.YthnbcmlnpdabhaaGreat
open _root_.Go.Proofs.Tryz
set_option maxHeartbeats 8000000
open Go.RowKit
set_option maxRecDepth 100000
set_option linter.unusedVariables false
set_option linter.unusedSimpArgs false
variable {w w':World} {g c:Nat} {A:Option Addr} {o:Oper} {a:Act}
def Ia(vn:Value)(d:Dl)(ds:List Value):List Value:=xY vn d.y++([.string (bs d.uR),.bool d.op,.int .i64 d.st]++ds)
def Dl.oc(d:Dl):Prop:=d.st=0->GQ d.y=0/\d.oct=uA 2 (DA d.y).length++DA d.y
def vZ(w:World)(g:Nat)(d:Dl)(A:Option Addr)(c:Nat):Prop:=∃ds,F w g 163 (Ia (.slice A d.y.q.name.length c) d ds)/\d.y.sv.ip.length=16/\vf w ds d.yr
theorem vf.ads{L cs:List Value}{m:vU}(h:vf w cs m)(hg:w.grownBy w' (some g))(Z:F w g 163 L):vf w' cs m:=h.UZ hg Z az az az
section
variable {vn:Value} {d:Dl} {ds:List Value} (h:d.y.sv.ip.length=16)
include h
theorem abg:(Ia vn d ds).length=26+ds.length:=by simp[Ia,wU h];omega
theorem adt(i:Nat)(hi:i<23):(Ia vn d ds)[i]?=(xY vn d.y)[i]?:=by unfold Ia;rw[List.getElem?_append_left dY]
theorem abh(k:Nat)(z:k<3):(Ia vn d ds)[23+k]?=[Value.string (bs d.uR),.bool d.op,.int .i64 d.st][k]?:=by
 unfold Ia;rw[List.getElem?_append_right dX,wU h,Nat.add_sub_cancel_left,List.getElem?_append_left bh]
theorem afV:((Ia vn d ds).drop 0).take 23=xY vn d.y:=by rw[List.drop_zero];exact List.take_left' (wU h)
theorem afo:((Ia vn d ds).drop 0).take 18=d.y.sv.cells:=by
 rw[List.drop_zero];unfold Ia xY;rw[List.append_assoc];exact List.take_left' (d.y.sv.uT h)
theorem afp:((Ia vn d ds).drop 20).take 3=qC vn d.y.q:=by
 have:=OT (vn:=vn) h;unfold Ia;rw[List.drop_append_of_le_length dX,List.take_append_of_le_length (by simp[wU h])];exact this
theorem acU:(Ia vn d ds).drop 26=ds:=by
 unfold Ia;rw[show(26:Nat)=(xY vn d.y).length+3 by rw[wU h],List.drop_append];simp
theorem aeA(sub:List Value)(hs:sub.length=ds.length):(Ia vn d ds).take 26++sub++(Ia vn d ds).drop (26+sub.length)=Ia vn d sub:=by
 rw[List.drop_of_length_le (by rw[abg h];omega),List.append_nil];have e1:(Ia vn d ds).take 26=xY vn d.y++[.string (bs d.uR),.bool d.op,.int .i64 d.st]:=by unfold Ia;rw[<-List.append_assoc];exact List.take_left' (by simp[wU h])
 rw[e1];simp[Ia]
theorem aeB(k:Nat)(z:k<3)(x:Value):(Ia vn d ds).set (23+k) x=xY vn d.y++([Value.string (bs d.uR),.bool d.op,.int .i64 d.st].set k x++ds):=by
 unfold Ia;rw[List.set_append_right _ _ dX,wU h,Nat.add_sub_cancel_left,List.set_append_left _ _ bh]
end
theorem vZ.G{d:Dl}(h:vZ w g d A c)(Z:al w w'):vZ w' g d A c:=by
 obtain⟨ds,U,X,h3⟩:=h;exact⟨ds,U.G Z U.lt,X,h3.G Z⟩
theorem vZ.lt{d:Dl}(h:vZ w g d A c):g<w.heap.size:=by obtain⟨_,U,_⟩:=h;exact U.lt
theorem vZ.vj{d:Dl}(h:vZ w g d A c):∃L ds,F w g 163 L/\L.length=40/\d.y.sv.ip.length=16/\(L.drop 0).take 23=xY (.slice A d.y.q.name.length c) d.y/\(L.drop 0).take 18=d.y.sv.cells/\(L.drop 20).take 3=qC (.slice A d.y.q.name.length c) d.y.q/\L[18]?=some (.int .i64 d.y.port)/\L[19]?=some (.int .i64 d.y.id)/\L[23]?=some (.string (bs d.uR))/\L[24]?=some (.bool d.op)/\L[25]?=some (.int .i64 d.st)/\(L.drop 26).take 14=ds/\vf w ds d.yr/\
  ∀w' ds' m,w.grownBy w' (some g)->F w' g 163 (L.take 26++ds'++L.drop (26+ds'.length))->vf w ds' m->vZ w' g {d with yr:=m} A c:=by
 obtain⟨ds,Z,h2,hM⟩:=h;have hdl:=hM.len;refine⟨_,ds,Z,by rw[abg h2,hdl],h2,afV h2,afo h2,afp h2,?_,?_,abh h2 0 I,abh h2 1 I,abh h2 2 I,by rw[acU h2,List.take_of_length_le I],hM,?_⟩
 ·rw[adt h2 18 I];exact zd h2 0
 ·rw[adt h2 19 I];exact zd h2 1
 ·intro w' ds' m hg hb' hM';rw[aeA h2 ds' (by rw[hM'.len,hdl])]at hb';exact⟨ds',hb',h2,hM'.ads hg Z⟩
theorem vZ.set{d d':Dl}(h:vZ w g d A c)(k:Nat)(z:k<3)(x:Value)(hy:d'.y=d.y)(hm:d'.yr=d.yr)(hx:[Value.string (bs d.uR),.bool d.op,.int .i64 d.st].set k x=[Value.string (bs d'.uR),.bool d'.op,.int .i64 d'.st]):vZ (w.setCell ⟨g,23+k,none⟩ x) g d' A c:=by
 obtain⟨ds,Z,h2,hM⟩:=h;have hg:w.grownBy (w.setCell ⟨g,23+k,none⟩ x) (some g):=ix;have hb2:=Z.set (23+k) x;rw[aeB h2 k z x,hx,<-hy]at hb2;exact⟨ds,hb2,by rw[hy];exact h2,by rw[hm];exact hM.ads hg Z⟩
theorem xE.grown{n:List (List UInt8)}(h:xE w A c n)(hg:w.grownBy w' (some g))(hA:0<n.length->∀a,A=some a->a.block≠g):xE w' A c n:=by
 refine⟨fun hp=>?_,h.2⟩;obtain⟨b,off,U,X,h3⟩:=h.1 hp;refine⟨b,off,U,Nat.lt_of_lt_of_le X hg.size,fun i hi=>?_⟩;rw[<-h3 i hi];exact y8 hg ⟨b,off+i,none⟩ X fG
def Ud(g:Nat)(A:Option Addr)(c:Nat)(r:Dl×List Ou)(w:World)(e:Ending)(w':World):Prop:=∃v,e= .returned v/\vJ w.heap.size w' v r.2/\vZ w' g r.1 A c/\w.grownBy w' (some g)
theorem abi(f:FuncId)(hf:f=83)(g:Nat)(kind:Int)(data:List UInt8)(L:List Value)(to_:vG)(port:Int)(w:World)(Z:F w g 163 L)(hl:23<=L.length)(h2:to_.ip.length=16)(ha:(L.drop 0).take 18=to_.cells)(hp:L[18]?=some (.int .i64 port)):
  Calls prog f #[.pointer (some ⟨g,0,none⟩),.int .i64 kind,.string (bs data)] w (Qm ⟨kind,to_,port,data⟩ w):=by
 subst hf;have RB:=Y (fun W=>KI kind to_ port data h2 W);have HL:=Dp (o:=⟨kind,to_,port,data⟩) h2;have ON:=Y (fun W=>IK W ⟨kind,to_,port,data⟩ h2);have HA:=Y ha;clear h2 ha;generalize Gs ⟨kind,to_,port,data⟩=oc at*;generalize to_.cells=tc at*;go_enter func83,ntmps83;go_wp2_with fail;refine wp_region_held_drew (S:=fun V=>al w V) (by kernel_rfl) (Below.refl _ _).drew (fun K=>?_)
 (refine ag 0 (some 7) J J (by kernel_rfl) (fun W hW=>rfl) K ?_;simp only[E])
 (refine ag 1 (some 8) J J (by kernel_rfl) (fun W hW=>rfl) K ?_;simp only[E])
 refine ag 2 (some 9) (v:=.pointer (some ⟨g,0,none⟩)) J J (by kernel_rfl) (fun W hW=>by kernel_rfl) K ?_;simp only[E];refine ag 3 (some 10) (v:=.pointer (some ⟨g,0,none⟩)) J J (by kernel_rfl) (fun W hW=>rfl) K ?_;simp only[E];refine ag 4 (some 11) (v:=.pointer (some ⟨g,0,none⟩)) J J (by kernel_rfl) (fun W hW=>rfl) K ?_;simp only[E];refine vK 5 (some 12) 24 (.tmp 11) ⟨g,0,none⟩ J J J J (by kernel_rfl) (by kernel_rfl) (by kernel_rfl) (fun _ _ _ h=>h) (by kernel_rfl) (fun V hV=>(Z.G hV Z.lt).wS 24 0 18 I _ underlying24 J xL _ HA.out) K ?_;simp only[E]
 (refine ag 6 (some 13) J J (by kernel_rfl) (fun W hW=>rfl) K ?_;simp only[E])
 refine ag 7 (some 14) (v:=.pointer (some ⟨g,0,none⟩)) J J (by kernel_rfl) (fun W hW=>by kernel_rfl) K ?_;simp only[E];refine ag 8 (some 15) (v:=.pointer (some ⟨g,0,none⟩)) J J (by kernel_rfl) (fun W hW=>rfl) K ?_;simp only[E];refine ag 9 (some 16) (v:=.pointer (some ⟨g,18,none⟩)) J J (by kernel_rfl) (fun W hW=>rfl) K ?_;simp only[E];refine vK 10 (some 17) 3 (.tmp 16) ⟨g,18,none⟩ J J J J (by kernel_rfl) (by kernel_rfl) (by kernel_rfl) (fun _ _ _ h=>h) (by kernel_rfl) (fun V hV=>uB underlying3 J ((Z.G hV Z.lt).M 18 hp)) K ?_;simp only[E]
 (refine ag 11 (some 18) J J (by kernel_rfl) (fun W hW=>rfl) K ?_;simp only[E])
 refine ag 12 (some 19) (v:=.agg oc.toArray) J J (by kernel_rfl) (fun W hW=>Mw 97 _ J #[(0,.int .i64 kind),(1,.agg tc.toArray),(2,.int .i64 port),(3,.string (bs data))] (by kernel_rfl) (RB.out W)) K ?_;simp only[E];refine uO 13 (by kernel_rfl) ?_;refine vz 13 (some 20) J J (by kernel_rfl) (Jq (.tmp 19) J J (MB _ oc HL)) ?_;have OO:=ON.out w.drew;have hS2:Below w.heap.size w (w.drew.alloc (.cells oc.toArray 97)):=oT;refine⟨hS2,?_⟩;clear K;have K:=hS2;clear hS2;simp only[E]
 (refine ag 14 (some 6) J J (by kernel_rfl) (fun W hW=>rfl) K ?_;simp only[E])
 refine wpAnyH_done (by kernel_rfl) ?_ _;exact uh
theorem vZ.out{d:Dl}(h:vZ w g d A c)(kind:Int)(data:List UInt8):
  Calls prog 83 #[.pointer (some ⟨g,0,none⟩),.int .i64 kind,.string (bs data)] w (Qm ⟨kind,d.y.sv,d.y.port,data⟩ w):=by
 obtain⟨L,ds,Z,hL,h2,_,ha,_,hp,_⟩:=h.vj;exact abi _ J g kind data _ d.y.sv d.y.port w Z I h2 ha hp
theorem YC(g:Nat)(d:Dl)(A:Option Addr)(c:Nat)(w:World)(h:vZ w g d A c):Calls prog 29 #[.pointer (some ⟨g,0,none⟩)] w (Ud g A c (xU d) w):=by
 have h':=h;obtain⟨L,ds,Z,hL,h2,_,_,_,_,_,_,_,c25,_⟩:=h.vj;have a25:=Z.M 25 c25;have f25:=Z.frozen 25;by_cases hs:d.st=0
 case neg=>have e1:xU d=(d,[]):=nZ;rw[e1];have hs':(d.st !=0)=true:=kC;have H:=Y h';clear h' h Z h2 hs e1 c25;generalize d.st=st at*;go_enter func29,ntmps29;exact sY
 have e1:xU d=({d with st:=2},[⟨4,d.y.sv,d.y.port,[]⟩]):=lH;rw[e1];have J2:vZ (w.setCell ⟨g,25,none⟩ (.int .i64 2)) g {d with st:=2} A c:=h.set 2 I (.int .i64 2) J J J;have G2:w.grownBy (w.setCell ⟨g,25,none⟩ (.int .i64 2)) (some g):=ix;have OC:=Y (J2.out 4 []);have HJ:=Y J2;rw[hs]at a25;clear h' h Z h2 hs e1 J2 c25;go_enter func29,ntmps29;go_wp2_with fail;refine OC.out.mono ?_;rintro _ w2 ⟨v,rfl,hO,b2⟩;go_wp2_with fail;go_ret;exact⟨_,J,hO.mono aH,HJ.out.G b2,vR G2 b2⟩
def JC(d:Dl):vU×Bool:=match wN d.y (wl d.uR)with
 |some m=>(m,true)
 |none=>(vU.zero,false)
theorem abj{ba oa k n:Nat}(x y:Operand)(ho:o.op= .indexAddr 25 x y)(hx:a.eval x= .slice (some ⟨ba,oa,none⟩) n c)(hy:a.eval y= .int .i64 k)(z:k<n)(w:World):(execOp a.eval o).run prog w= .ok (.value (.pointer (some ⟨ba,oa+k,none⟩))) w:=by
 have U:(k:Int)<n:=I;have hr:(Instr.indexAt 25 (.slice (some ⟨ba,oa,none⟩) n c) (.int .i64 k)).run prog w= .ok (.pointer (some ⟨ba,oa+k,none⟩)) w:=by
  obtain⟨i,hi,_,adh,_⟩:=info_parts Ei;simp[Instr.indexAt,run_underlying underlying25,asIntOf,sizeOf,typeInfo,hi,adh,U,Addr.add];rw[if_pos z];by_cases h0:k=0
  ·subst h0;simp
  ·rw[if_neg h0]
 exact sU
theorem VF(g:Nat)(d:Dl)(A:Option Addr)(c:Nat)(w:World)(h:vZ w g d A c)(hN:xE w A c d.y.q.name)(hq:vB d.y.q.name<=1000)(Z:d.uR.length<=8796093022208):
  Calls prog 85 #[.pointer (some ⟨g,0,none⟩)] w (Td (JC d) w):=by
 have HX:Below w.heap.size w (w.alloc (.cells uX.toArray 50)):=gF;have BX:=F.new w 50 uX;obtain⟨L,ds,hbw,hL,h2,hqq,_,_,_,_,c23,_⟩:=h.vj;have a23:=hbw.M 23 c23;have hgl:=hbw.lt;have hbk:=hbw.alloc (.cells uX.toArray 50);clear hbw;have hNX:=hN.G HX;have FS:=Y (Vf d.uR (w.alloc (.cells uX.toArray 50)) Z);have hnl:(wl d.uR).length<=8796093022208:=by have:=OX d.uR.length d.uR (Nat.le_refl _);omega
 obtain⟨R,hR⟩:=ao (JC d);have HB:Hid (R=match wN d.y (wl d.uR)with
  |some m=>(m,true)
  |none=>(vU.zero,false)):=Y hR.out.symm
 rw[hR.out];unfold adm at FS;have HQ:=Y hqq;clear h hN Z c23 hqq hR;generalize((d.uR.length-(yA d.uR).length:Nat):Int)=kk at*;generalize wl d.uR=l at*;generalize d.uR=hd at*;go_enter func85,ntmps85;go_wp2_with fail;refine FS.out.mono ?_;rintro _ w1 ⟨v,rfl,hT,b1⟩;obtain⟨A1,c1,hv,-,-⟩:=hT.form;subst hv;have C1:=hbk.G b1 hbk.lt;have B1:=BX.G b1 BX.lt;have HB1:=um HX HX.size b1;have hN1:=hNX.G b1;clear FS a23 hbk BX HX b1 hNX;go_wp2_with fail;go_loopw[6] (fun iv wr=>∃k:Nat,k<=l.length/\iv= .int .i64 k/\wN d.y (l.take k)=none/\al w1 wr) (fun iv _=>l.length-(intOf iv).toNat)
 case atStart=>exact⟨0,Nat.zero_le _,J,J,Below.refl _ _⟩
 obtain⟨k,z,rfl,hno,hW⟩:=hrel;have HN:=Y hno;clear hno;by_cases aB:k<l.length
 case pos=>
  have h1:(k:Int)<l.length:=I;obtain⟨A',c',hA,hTx,hc⟩:=(hT.G hW).form;injection hA with hA1 hA2 hA3;subst hA1 hA3;obtain⟨ba,oa,hA,la,xa⟩:=hTx I;subst hA;have CW:=C1.G hW C1.lt;have FR:=Y (fun W (b:al wr W)=>Nf (xY (.slice A d.y.q.name.length c) d.y) d.y A c l[k] W ⟨J,h2,(hN1.G hW).G b⟩ hq);have XS:Hid (∀V,al wr V->V.cell? ⟨ba,oa+k,none⟩=some (.string (bs l[k]))):=Y (fun V hV=>(hV.cell (p:=⟨ba,oa+k,none⟩) la).trans (xa k aB));have HY:Hid ((xh d.y (xN l[k])).2=true->wN d.y l=some (xh d.y (xN l[k])).1):=m5;have HNO:Hid ((xh d.y (xN l[k])).2=false->wN d.y (l.take (k+1))=none):=nC;clear xa hTx hc HN;generalize xh d.y (xN l[k])=agH at*;generalize l[k]=t at*;generalize xY (.slice A d.y.q.name.length c) d.y=qs at*;go_upto_region 6 with fail;go_cut[7,8] (fun v7 v8 wx=>∃gz es2,v7= .pointer (some ⟨gz,0,none⟩)/\v8= .bool agH.2/\F wx gz 50 es2/\vf wx es2 agH.1/\al wr wx)
  case first=>
   refine wp_region_held_drew (S:=fun V=>al wr V) (by kernel_rfl) (Below.refl _ _).drew (fun K=>?_)
   (refine ag 0 (some 24) J J (by kernel_rfl) (fun W hW=>rfl) K ?_;simp only[E])
   refine ag 1 (some 25) (v:=.pointer (some ⟨g,0,none⟩)) J J (by kernel_rfl) (fun W hW=>by kernel_rfl) K ?_;simp only[E];refine ag 2 (some 26) (v:=.pointer (some ⟨g,0,none⟩)) J J (by kernel_rfl) (fun W hW=>rfl) K ?_;simp only[E];refine vK 3 (some 27) 30 (.tmp 26) ⟨g,0,none⟩ J J J J (by kernel_rfl) (by kernel_rfl) (by kernel_rfl) (fun _ _ _ h=>h) (by kernel_rfl) (fun V hV=>(CW.G hV CW.lt).wS 30 0 23 I _ underlying30 J Dz qs HQ.out) K ?_;simp only[E]
   (refine ag 4 (some 28) J J (by kernel_rfl) (fun W hW=>rfl) K ?_;simp only[E])
   (refine ag 5 (some 29) J J (by kernel_rfl) (fun W hW=>rfl) K ?_;simp only[E])
   refine ag 6 (some 30) (v:=.pointer (some ⟨ba,oa+k,none⟩)) J J (by kernel_rfl) (fun W hW=>abj (.tmp 28) (.tmp 29) J J J aB W) K ?_;simp only[E];refine vK 7 (some 31) 9 (.tmp 30) ⟨ba,oa+k,none⟩ J J J J (by kernel_rfl) (by kernel_rfl) (by kernel_rfl) (fun _ _ _ h=>h) (by kernel_rfl) (fun V hV=>uB underlying9 J (XS.out V hV)) K ?_;simp only[E];refine yi 8 12 (by kernel_rfl) ?_ ?_
   ·
    refine wG 8 (some 32) 20 #[.agg qs.toArray,.string (bs t)] J J (by kernel_rfl) bp (FR.out _ K) ?_;rintro _ w9 ⟨es2,rfl,hM9,b9⟩;have hel:=hM9.len;have he1:=Y hM9.one;have hS3:al wr w9:=um K K.size b9;refine⟨_,J,hS3,?_⟩;clear K;have K:=hS3;clear hS3;simp only[E]
    (refine ag 9 (some 23) J J (by kernel_rfl) (fun W hW=>rfl) K ?_;simp only[E])
    (refine ag 10 (some 33) J J (by kernel_rfl) (fun W hW=>rfl) K ?_;simp only[E])
    (refine ag 11 (some 34) J J (by kernel_rfl) (fun W hW=>rfl) K ?_;simp only[E])
    refine uO 12 (by kernel_rfl) ?_;generalize hWW:w9=WW at*;refine vz 12 (some 7) (v:=.pointer (some ⟨WW.heap.size,0,none⟩)) (w':=WW.alloc (.cells uX.toArray 50)) J J (by kernel_rfl) (by kernel_rfl) ?_;have kn:Below WW.heap.size WW (WW.alloc (.cells uX.toArray 50)):=gF;have Bz:=F.new WW 50 uX;have hS4:=um K K.size kn;have hz:wr.heap.size<=WW.heap.size:=me;refine⟨hS4,?_⟩;clear K;have K:=hS4;clear hS4;simp only[E];replace hM9:=hM9.G kn;clear kn;generalize WW.heap.size=gz at*;refine wu 13 none 50 (.tmp 7) (.tmp 33) (by kernel_rfl) J J J (by kernel_rfl) gz 0 J es2 J Bz dL fH he1.out ?_;intro wa Ba ga _;replace Ba:F wa gz 50 es2:=Hs Ba dL;have hMa:=hM9.vj ga Bz;have hS5:=uq K ga K.size hz;refine⟨hS5,?_⟩;clear K ga Bz hM9;have K:=hS5;clear hS5;simp only[E]
    (refine ag 14 (some 8) J J (by kernel_rfl) (fun W hW=>rfl) K ?_;simp only[E])
    refine wpAnyH_done (by kernel_rfl) ?_ _;exact tu
   ·
    obtain⟨WW,hWW⟩:∃WW,wr.drew=WW:=gG;rw[hWW]at K⊢;refine vz 12 (some 7) (v:=.pointer (some ⟨WW.heap.size,0,none⟩)) (w':=WW.alloc (.cells uX.toArray 50)) J J (by kernel_rfl) (by kernel_rfl) ?_;have kn:Below WW.heap.size WW (WW.alloc (.cells uX.toArray 50)):=gF;have Bz:=F.new WW 50 uX;have hS4:=um K K.size kn;have hz:wr.heap.size<=WW.heap.size:=me;refine⟨hS4,?_⟩;clear K;have K:=hS4;clear hS4;simp only[E];clear kn;refine uO 8 (by kernel_rfl) ?_;refine wG 8 (some 32) 20 #[.agg qs.toArray,.string (bs t)] J J (by kernel_rfl) bp (FR.out _ K) ?_;rintro _ w9 ⟨es2,rfl,hM9,b9⟩;have hel:=hM9.len;have he1:=Y hM9.one;have hS3:al wr w9:=um K K.size b9;refine⟨_,J,hS3,?_⟩;clear K;have K:=hS3;clear hS3;simp only[E];replace Bz:=Bz.G b9 Bz.lt
    (refine ag 9 (some 23) J J (by kernel_rfl) (fun W hW=>rfl) K ?_;simp only[E])
    (refine ag 10 (some 33) J J (by kernel_rfl) (fun W hW=>rfl) K ?_;simp only[E])
    (refine ag 11 (some 34) J J (by kernel_rfl) (fun W hW=>rfl) K ?_;simp only[E])
    generalize WW.heap.size=gz at*;refine wu 13 none 50 (.tmp 7) (.tmp 33) (by kernel_rfl) J J J (by kernel_rfl) gz 0 J es2 J Bz dL fH he1.out ?_;intro wa Ba ga _;replace Ba:F wa gz 50 es2:=Hs Ba dL;have hMa:=hM9.vj ga Bz;have hS5:=uq K ga K.size hz;refine⟨hS5,?_⟩;clear K ga Bz hM9;have K:=hS5;clear hS5;simp only[E]
    (refine ag 14 (some 8) J J (by kernel_rfl) (fun W hW=>rfl) K ?_;simp only[E])
    refine wpAnyH_done (by kernel_rfl) ?_ _;exact tu
  obtain⟨gz,es2,rfl,rfl,Bz,hMz,bz⟩:=hcut;have hel:=hMz.len;have he1:=Y hMz.one;have HWz:=um hW hW.size bz;have BR:=B1.G HWz B1.lt;have HBz:=um HB1 HB1.size HWz;clear FR XS CW bz;cases hf:agH.2 with
  |false=>
   have hn:=HNO.out hf;have HN:=Y hn;clear hn HNO HY hf hMz Bz BR;go_wp2_with fail;go_roundw
   case rel=>exact⟨k+1,I,gp,HN.out,HWz⟩
   case measure=>simp[intOf];omega
  |true=>
   have HR2:Hid (R=(agH.1,true)):=Y (by rw[HB.out,HY.out hf]);clear HNO HY hf HB;go_wp2_with(first
    |(refine ur (.load 50 (.tmp 7)) rfl ?_;go_must(refine uu rfl _ _ rfl gz 0 rfl Bz 14 I _ underlying50 rfl uW es2 (wP I) ?_))
    |(refine ur (.store 50 (.tmp 2) (.tmp 36)) rfl (ab rfl w.heap.size 0 es2 BR dL fH he1.out ?_)))
   intro w8 B8 g8 _;replace B8:F w8 w.heap.size 50 es2:=Hs B8 dL;have HB8:=uq HBz g8 HBz.size (Nat.le_refl _);have hM8:=hMz.vj g8 BR;clear g8 BR Bz HBz hMz;go_wp2_with fail;refine vg J w.heap.size J B8 _ underlying50 J fH J (.bool true) J ?_;rw[HR2.out];exact⟨es2,J,hM8,HB8⟩
 obtain rfl:k=l.length:=I;have h1:¬(l.length:Int)<l.length:=I;have hn:=HN.out;rw[List.take_of_length_le (Nat.le_refl _)]at hn;have HR2:Hid (R=(vU.zero,false)):=Y (by rw[HB.out,hn]);have BR:=B1.G hW B1.lt;have HBz:=um HB1 HB1.size hW;clear hn HN HB C1 B1 hT hN1;go_wp2_with(refine ur (.store 50 (.tmp 2) (.tmp 37)) J (ab J w.heap.size 0 uX BR dL uW xy ?_));intro w8 B8 g8 _;replace B8:F w8 w.heap.size 50 uX:=by first|exact B8|exact Hs B8 dL
 have HB8:=uq HBz g8 HBz.size (Nat.le_refl _);clear g8 BR HBz;go_wp2_with fail;refine vg J w.heap.size J B8 _ underlying50 J uW J (.bool false) J ?_;rw[HR2.out];exact⟨uX,J,vf.zero _,HB8⟩
theorem YD(g:Nat)(d:Dl)(e:Ev)(A:Option Addr)(c:Nat)(w:World)(h:vZ w g d A c)(hN:xE w A c d.y.q.name)(hA:0<d.y.q.name.length->∀a,A=some a->a.block≠g)(hq:vB d.y.q.name<=1000)(hoc:d.oc)(h2:e.fr.ip.length=16)(Z:d.uR.length+e.data.length<=8796093022208):
  Calls prog 27 #[.pointer (some ⟨g,0,none⟩),.agg (yj e).toArray] w (Ud g A c (vM d e) w):=by
 have E0:(yj e)[0]?=some (.int .i64 e.kind):=rfl;have E20:(yj e)[20]?=some (.int .i64 e.port):=CZ h2 1;have E21:(yj e)[21]?=some (.string (bs e.data)):=CZ h2 2;have HX:Below w.heap.size w (w.alloc (.cells (yj e).toArray 42)):=gF;have aeH:=F.new w 42 (yj e);have HNm:=Y (fun W (b:al w W)=>hN.G b);obtain⟨L,ds,hbk,hL,_,_,_,_,c18,_,_,_,c25,_⟩:=(h.G HX).vj;replace c18:=hbk.M 18 c18;replace c25:=hbk.M 25 c25;have d20:=aeH.M 20 E20;obtain⟨R,hR⟩:=ao (vM d e);rw[hR.out];have HOC:=Y hoc;have ayf:=h.lt;clear hbk hL h2 E20 hN hoc;generalize hes:yj e=es at*;clear hes;by_cases hs:d.st=0
 case neg=>have HR2:Hid (R=(d,[])):=Y eh;have hs':(d.st !=0)=true:=kC;have HH:=Lib.hid h;clear hs hR HOC HNm h;go_enter func27,ntmps27;go_wp2_with fail;go_quiet(fail);go_wp2_with fail;go_ret;rw[HR2.out];exact⟨_,J,vJ.nil _ _,HH.out.G (below_drewN HX _),uM (below_drewN HX _) _⟩
 rw[hs]at c25;by_cases hpo:e.port=d.y.port
 case neg=>
  have HR2:Hid (R=(d,[])):=Y ei;have axJ:(e.port !=d.y.port)=true:=by simpa using hpo
  clear hpo hR HOC HNm;go_enter func27,ntmps27;go_wp2_with fail;go_quiet(fail);go_wp2_with fail;go_ret;rw[HR2.out];exact⟨_,J,vJ.nil _ _,h.G (below_drewN HX _),uM (below_drewN HX _) _⟩
 have H0:Hid (¬(d.st≠0\/e.port≠d.y.port)):=Y (by rw[hs,hpo];simp);have HS:=Y hs;rw[hpo]at d20;clear hs hpo;by_cases hk3:e.kind=3
 case pos=>
  rw[hk3]at E0;cases hop:d.op with
  |true=>have HR2:Hid (R=(d,[])):=Y ej;clear hk3 hR HOC HNm;exact pz
  |false=>
   have HR2:Hid (R=({d with op:=true},[⟨3,d.y.sv,d.y.port,d.oct⟩])):=Y gj;clear hk3 hR;go_enter func27,ntmps27;go_wp2_with fail;go_quiet(fail);obtain⟨W,hW⟩:∃W,W=(w.alloc (.cells es.toArray 42)).drewN nq:=gG;rw[<-hW];have HW:al w W:=ij;have EW:F W w.heap.size 42 es:=iH;have JW:=h.G HW;clear hW c18 c25 d20 aeH h HX;obtain⟨L,ds,hbk,hL,_,_,_,_,_,_,c23,c24,c25,_⟩:=JW.vj;have a23:=hbk.M 23 c23;have a24:=hbk.M 24 c24;have a25:=hbk.M 25 c25;have f23:=hbk.frozen 23;have f24:=hbk.frozen 24;have f25:=hbk.frozen 25;have d0:=EW.M 0 E0;have d21:=EW.M 21 E21;clear c23 c24 c25 EW hL;rw[hop]at a24;have J6:vZ (W.setCell ⟨g,24,none⟩ (.bool true)) g {d with op:=true} A c:=JW.set 1 I (.bool true) J J J;have G6:w.grownBy (W.setCell ⟨g,24,none⟩ (.bool true)) (some g):=hH;have N6:xE (W.setCell ⟨g,24,none⟩ (.bool true)) A c d.y.q.name:=(HNm.out W HW).grown (uS (World.grownBy.refl _ _) _ _) hA;have auv:Hid (d.oct=uA 2 (DA d.y).length++DA d.y):=Y (HOC.out HS.out).2;have hol:Hid ((DA d.y).length<=65535):=Y (by
    rcases OZ d.y.q d.y.id false with h|⟨_,h,_⟩
    ·exact absurd (HOC.out HS.out).1 h
    ·
     exact h)
   clear hop JW HOC HNm a23 a25 f23 f25 d21 hbk;obtain⟨L6,_,hb6,hL6,_,_,_,hq3,_,c19,_⟩:=J6.vj;have BU:=Y (fun V (b:Below (W.setCell ⟨g,24,none⟩ (.bool true)).heap.size (W.setCell ⟨g,24,none⟩ (.bool true)) V)=>Ck A c d.y.q d.y.id false V (N6.G b));have OC:=Y (fun V (b:Below (W.setCell ⟨g,24,none⟩ (.bool true)).heap.size (W.setCell ⟨g,24,none⟩ (.bool true)) V)=>(J6.G b).out 3 d.oct);rw[auv.out]at OC;have HJ:=Y J6;have HQ3:=Y hq3;clear J6 N6 hq3;go_wp2_with fail;clear a24 f24 d0;generalize hV6:W.setCell ⟨g,24,none⟩ (.bool true)=V6 at*;clear hV6;unfold qC at HQ3;refine wp_region_held_drew (S:=fun V=>al V6 V) (by kernel_rfl) (Below.refl _ _).drew (fun K=>?_)
   (refine ag 0 (some 38) J J (by kernel_rfl) (fun W hW=>rfl) K ?_;simp only[E])
   refine ag 1 (some 39) (v:=.pointer (some ⟨g,0,none⟩)) J J (by kernel_rfl) (fun W hW=>by kernel_rfl) K ?_;simp only[E];refine ag 2 (some 40) (v:=.pointer (some ⟨g,0,none⟩)) J J (by kernel_rfl) (fun W hW=>rfl) K ?_;simp only[E];refine ag 3 (some 41) (v:=.pointer (some ⟨g,20,none⟩)) J J (by kernel_rfl) (fun W hW=>rfl) K ?_;simp only[E];refine vK 4 (some 42) 28 (.tmp 41) ⟨g,20,none⟩ J J J J (by kernel_rfl) (by kernel_rfl) (by kernel_rfl) (fun _ _ _ h=>h) (by kernel_rfl) (fun V hV=>(hb6.G hV hb6.lt).wS 28 20 3 I _ underlying28 J xu _ HQ3.out) K ?_;simp only[E]
   (refine ag 5 (some 43) J J (by kernel_rfl) (fun W hW=>rfl) K ?_;simp only[E])
   refine ag 6 (some 44) (v:=.pointer (some ⟨g,0,none⟩)) J J (by kernel_rfl) (fun W hW=>by kernel_rfl) K ?_;simp only[E];refine ag 7 (some 45) (v:=.pointer (some ⟨g,0,none⟩)) J J (by kernel_rfl) (fun W hW=>rfl) K ?_;simp only[E];refine ag 8 (some 46) (v:=.pointer (some ⟨g,19,none⟩)) J J (by kernel_rfl) (fun W hW=>rfl) K ?_;simp only[E];refine vK 9 (some 47) 3 (.tmp 46) ⟨g,19,none⟩ J J J J (by kernel_rfl) (by kernel_rfl) (by kernel_rfl) (fun _ _ _ h=>h) (by kernel_rfl) (fun V hV=>uB underlying3 J ((hb6.G hV hb6.lt).M 19 c19)) K ?_;simp only[E];refine uO 10 (by kernel_rfl) ?_;refine wG 10 (some 48) 82 #[.agg #[.slice A d.y.q.name.length c,.int .i64 d.y.q.O,.int .i64 d.y.q.N],.int .i64 d.y.id,.bool false] J J (by kernel_rfl) bp (BU.out _ K) ?_;rintro _ w8 ⟨rfl,b8⟩;have hS2:al V6 w8:=um K K.size b8;refine⟨_,J,hS2,?_⟩;clear K b8;have K:=hS2;clear hS2;simp only[E];refine ag 11 (some 37) (v:=.tuple #[.string (bs (vN (vW d.y.q d.y.id false) false).1),.int .i64 (vN (vW d.y.q d.y.id false) false).2]) J J (by kernel_rfl) (fun W hW=>rfl) K ?_;simp only[E];refine ag 12 (some 49) (v:=.string (bs (vN (vW d.y.q d.y.id false) false).1)) J J (by kernel_rfl) (fun W hW=>rfl) K ?_;simp only[E];refine ag 13 (some 50) (v:=.int .i64 (vN (vW d.y.q d.y.id false) false).2) J J (by kernel_rfl) (fun W hW=>rfl) K ?_;simp only[E];refine ag 14 (some 5) (v:=.string (bs (vN (vW d.y.q d.y.id false) false).1)) J J (by kernel_rfl) (fun W hW=>rfl) K ?_;simp only[E];refine ag 15 (some 6) (v:=.int .i64 (vN (vW d.y.q d.y.id false) false).2) J J (by kernel_rfl) (fun W hW=>rfl) K ?_;simp only[E];refine wpAnyH_done (by kernel_rfl) ?_ _;have RPu:=Y (fun V=>wZ 2 (DA d.y).length V);rw[show hw 2=2 from J]at RPu;unfold DA at*;generalize(vN (vW d.y.q d.y.id false) false).1=o1 at*;have aF7:=hol.out;have hpl:=uy 2 (o1.length:Int);have axK:(uA 2 (o1.length:Int)).length<=2:=I;clear BU hb6 c19 HQ3 hpl;go_wp2_with fail;refine(RPu.out _).mono ?_;rintro _ w9 ⟨rfl,b9⟩;have hS9:=um K K.size b9;clear K b9 RPu;go_wp2_with fail;refine(OC.out _ hS9).mono ?_;rintro _ w10 ⟨v,rfl,hO,b10⟩;have hSa:=um hS9 hS9.size b10;go_wp2_with fail;go_ret;rw[HR2.out];refine⟨_,J,?_,HJ.out.G hSa,vR G6 hSa⟩;rw[auv.out];exact hO.mono (Nat.le_trans G6.size hS9.size)
 have aj5:(e.kind==3)=false:=by simpa using hk3
 by_cases hk4:e.kind=4
 case pos=>
  rw[hk4]at E0;cases hop:d.op with
  |true=>
   have HR2:Hid (R=match wN d.y (wl (d.uR++e.data))with
    |some m=>({d with uR:=d.uR++e.data,yr:=m,st:=1},[⟨4,d.y.sv,d.y.port,[]⟩])
    |none=>({d with uR:=d.uR++e.data},[])):=Y (by rw[<-hR.out];unfold vM;rw[if_neg H0.out,if_neg hk3,if_pos hk4,if_pos hop];rfl)
   clear hk3 hk4 aj5 hR;go_enter func27,ntmps27;go_wp2_with fail;go_quiet(fail);obtain⟨W,hW⟩:∃W,W=(w.alloc (.cells es.toArray 42)).drewN nq:=gG;rw[<-hW];have HW:al w W:=ij;have EW:F W w.heap.size 42 es:=iH;have JW:=h.G HW;clear hW c18 c25 d20 aeH h HX;obtain⟨L,ds,hbk,hL,_,_,_,_,_,_,c23,c24,c25,_⟩:=JW.vj;have a23:=hbk.M 23 c23;have a24:=hbk.M 24 c24;have a25:=hbk.M 25 c25;have f23:=hbk.frozen 23;have f24:=hbk.frozen 24;have f25:=hbk.frozen 25;have d0:=EW.M 0 E0;have d21:=EW.M 21 E21;clear c23 c24 c25 EW hL;rw[hop]at a24;clear hop hbk;go_wp2_with fail;go_region;have J6:vZ (W.setCell ⟨g,23,none⟩ (.string (bs (d.uR++e.data)))).drew g {d with uR:=d.uR++e.data} A c:=(JW.set (d':={d with uR:=d.uR++e.data}) 0 I (.string (bs (d.uR++e.data))) J J J).G (Below.refl _ _).drew;have G6:w.grownBy (W.setCell ⟨g,23,none⟩ (.string (bs (d.uR++e.data)))).drew (some g):=yv (uC (uM HW _) (uS (World.grownBy.refl _ _) _ _) (.inl J));have N6:xE (W.setCell ⟨g,23,none⟩ (.string (bs (d.uR++e.data)))).drew A c d.y.q.name:=(HNm.out W HW).grown (yv (uS (World.grownBy.refl _ _) _ _)) hA;have d0':(W.setCell ⟨g,23,none⟩ (.string (bs (d.uR++e.data)))).drew.cell? ⟨w.heap.size,0,none⟩=some (.int .i64 4):=by have:=y8 (yv (uS (World.grownBy.refl W (some g)) 23 (.string (bs (d.uR++e.data))))) ⟨w.heap.size,0,none⟩ (by have:=d0;exact World.block_lt_of_cell? _ _ this) aA;rw[this];exact d0
   have FC:=Y (VF g {d with uR:=d.uR++e.data} A c _ J6 N6 hq aM);have HJ:=Y J6;have HF:Hid (R=if(JC {d with uR:=d.uR++e.data}).2 then({d with uR:=d.uR++e.data,yr:=(JC {d with uR:=d.uR++e.data}).1,st:=1},[⟨4,d.y.sv,d.y.port,[]⟩])else({d with uR:=d.uR++e.data},[])):=Y (by
    rw[HR2.out];have e1:JC {d with uR:=d.uR++e.data}=match wN d.y (wl (d.uR++e.data))with
     |some m=>(m,true)
     |none=>(vU.zero,false):=rfl
    rw[e1];cases wN d.y (wl (d.uR++e.data))<;>rfl)
   clear HR2 J6 N6 JW HNm a23 a24 a25 f23 f24 f25 d0 d21 HOC;generalize JC {d with uR:=d.uR++e.data}=agH at*;generalize hV6:(W.setCell ⟨g,23,none⟩ (.string (bs (d.uR++e.data)))).drew=V6 at*;clear hV6;go_wp2_with fail;refine FC.out.mono ?_;rintro _ w7 ⟨ds2,rfl,hM7,b7⟩;have hdl:=hM7.len;have hd1:=Y hM7.one;have J7:=HJ.out.G b7;have G7:=vR G6 b7;have aqb:=(b7.cell (p:=⟨w.heap.size,0,none⟩) (World.block_lt_of_cell? _ _ d0')).trans d0';clear FC HJ G6 b7 d0';go_wp2_with(refine ur (.store 50 (.tmp 7) (.tmp 80)) J (ab J w7.heap.size 0 ds2 (F.wE _ _ uX _ J) dJ dK hd1.out ?_));intro w8 B8 g8 zs;clear zs;replace B8:F w8 w7.heap.size 50 ds2:=Hs B8 dL;have k8:al w7 w8:=uq ((Below.refl _ _).alloc (Nat.le_refl _) _) g8 ap (Nat.le_refl _);have J8:=J7.G k8;have G8:=vR G7 k8;have M8:=hM7.G k8;have d08:=(k8.cell (p:=⟨w.heap.size,0,none⟩) (World.block_lt_of_cell? _ _ aqb)).trans aqb;clear g8 k8 J7 G7 hM7 aqb;generalize w7.heap.size=g7 at*;cases hf:agH.2 with
   |false=>have HR3:Hid (R=({d with uR:=d.uR++e.data},[])):=Y fI;have HJ8:=Y J8;clear hf HF B8 M8 J8;go_wp2_with fail;go_ret;rw[HR3.out];exact⟨_,J,vJ.nil _ _,HJ8.out,G8⟩
   |true=>
    have HR3:Hid (R=({d with uR:=d.uR++e.data,yr:=agH.1,st:=1},[⟨4,d.y.sv,d.y.port,[]⟩])):=Y fI;obtain⟨L8,_,hb8,hL8,_,_,_,_,_,_,_,_,_,_,_,aj2⟩:=J8.vj;have HP:=Y aj2;clear hf HF aj2 J8;go_wp2_with(first
     |(refine ur (.load 50 (.tmp 7)) rfl ?_;go_must(refine uu rfl _ _ rfl g7 0 rfl B8 14 I _ underlying50 rfl uW ds2 (wP I) ?_))
     |(refine ur (.store 50 (.tmp 86) (.tmp 84)) rfl (ab rfl g 26 ds2 hb8 (by rw[hdl,hL8];omega) dK hd1.out ?_)))
    intro w9 B9 g9 zs;clear zs;have J9:=HP.out w9 ds2 agH.1 g9 (by rw[hdl];first|exact B9|(rw[List.append_assoc];exact B9)) M8;have G9:=uC G8 g9 (.inl J);obtain⟨L9,_,hb9,_,_,_,_,_,_,_,_,_,c25,_⟩:=J9.vj;have a25:=hb9.M 25 c25;have f25:=hb9.frozen 25;have Ja:vZ (w9.setCell ⟨g,25,none⟩ (.int .i64 1)) g {d with uR:=d.uR++e.data,yr:=agH.1,st:=1} A c:=J9.set 2 I (.int .i64 1) J J J;have Ga:w.grownBy (w9.setCell ⟨g,25,none⟩ (.int .i64 1)) (some g):=uC G9 (uS (World.grownBy.refl _ _) _ _) (.inl J);have OC:=Y (Ja.out 4 []);have HJ:=Y Ja;clear HP B9 g9 M8 B8 hb8 G8 J9 G9 Ja hb9 c25;go_wp2_with fail;refine OC.out.mono ?_;rintro _ wb ⟨v,rfl,hO,bb⟩;go_wp2_with fail;go_ret;rw[HR3.out];exact⟨_,J,hO.mono Ga.size,HJ.out.G bb,vR Ga bb⟩
  |false=>have HR2:Hid (R=(d,[])):=Y gk;clear hk3 hk4 aj5 hR HOC HNm;exact pz
 have apz:(e.kind==4)=false:=by simpa using hk4
 by_cases hk5:e.kind=5
 case pos=>have HR2:Hid (R=({d with st:=2},[])):=Y eo;rw[hk5]at E0;clear hk3 hk4 hk5 aj5 apz hR HOC HNm;go_enter func27,ntmps27;go_wp2_with fail;go_quiet(fail);obtain⟨W,hW⟩:∃W,W=(w.alloc (.cells es.toArray 42)).drewN nq:=gG;rw[<-hW];have HW:al w W:=ij;have EW:F W w.heap.size 42 es:=iH;have JW:=h.G HW;clear hW c18 c25 d20 aeH h HX;obtain⟨L,ds,hbk,hL,_,_,_,_,_,_,c23,c24,c25,_⟩:=JW.vj;have a23:=hbk.M 23 c23;have a24:=hbk.M 24 c24;have a25:=hbk.M 25 c25;have f23:=hbk.frozen 23;have f24:=hbk.frozen 24;have f25:=hbk.frozen 25;have d0:=EW.M 0 E0;have d21:=EW.M 21 E21;clear c23 c24 c25 EW hL;have J6:vZ (W.setCell ⟨g,25,none⟩ (.int .i64 2)) g {d with st:=2} A c:=JW.set 2 I (.int .i64 2) J J J;have G6:w.grownBy (W.setCell ⟨g,25,none⟩ (.int .i64 2)) (some g):=hH;have HJ:=Y J6;clear J6 JW hbk;go_wp2_with fail;go_ret;rw[HR2.out];exact⟨_,J,vJ.nil _ _,HJ.out,G6⟩
 have HR2:Hid (R=(d,[])):=Y et;have ax3:(e.kind==5)=false:=by simpa using hk5
 clear hk3 hk4 hk5 hR HOC HNm;generalize e.kind=kd at*;go_enter func27,ntmps27;go_wp2_with fail;go_quiet(fail);obtain⟨W,hW⟩:∃W,W=(w.alloc (.cells es.toArray 42)).drewN nq:=gG;rw[<-hW];have HW:al w W:=ij;have EW:F W w.heap.size 42 es:=iH;have JW:=h.G HW;clear hW c18 c25 d20 aeH h HX;obtain⟨L,ds,hbk,hL,_,_,_,_,_,_,c23,c24,c25,_⟩:=JW.vj;have a23:=hbk.M 23 c23;have a24:=hbk.M 24 c24;have a25:=hbk.M 25 c25;have f23:=hbk.frozen 23;have f24:=hbk.frozen 24;have f25:=hbk.frozen 25;have d0:=EW.M 0 E0;have d21:=EW.M 21 E21;clear c23 c24 c25 EW hL;clear hbk;go_wp2_with fail;go_ret;rw[HR2.out];exact⟨_,J,vJ.nil _ _,JW,uM HW _⟩
def dl2(y:Qy):Dl:=⟨y,[],2,false,[],vU.zero⟩
theorem YE(fam hk port id:Int)(q:Qn)(b0 b1 b2 b3 b4 b5 b6 b7 b8 b9 b10 b11 b12 b13 b14 b15:UInt8)(vn:Value)(W:World):
  (Instr.build 163 #[(0,.agg (xY vn ⟨⟨fam,[b0,b1,b2,b3,b4,b5,b6,b7,b8,b9,b10,b11,b12,b13,b14,b15],hk⟩,port,id,q⟩).toArray)]).run prog W= .ok (.agg (Ia vn (dl0 ⟨⟨fam,[b0,b1,b2,b3,b4,b5,b6,b7,b8,b9,b10,b11,b12,b13,b14,b15],hk⟩,port,id,q⟩) uX).toArray) W/\
  (Instr.build 163 #[(0,.agg (xY vn ⟨⟨fam,[b0,b1,b2,b3,b4,b5,b6,b7,b8,b9,b10,b11,b12,b13,b14,b15],hk⟩,port,id,q⟩).toArray),(3,.int .i64 2)]).run prog W= .ok (.agg (Ia vn (dl2 ⟨⟨fam,[b0,b1,b2,b3,b4,b5,b6,b7,b8,b9,b10,b11,b12,b13,b14,b15],hk⟩,port,id,q⟩) uX).toArray) W:=by
 constructor<;>kernel_rfl
theorem acV(vn:Value)(y:Qy)(h:y.sv.ip.length=16)(W:World):(Instr.build 163 #[(0,.agg (xY vn y).toArray)]).run prog W= .ok (.agg (Ia vn (dl0 y) uX).toArray) W/\(Instr.build 163 #[(0,.agg (xY vn y).toArray),(3,.int .i64 2)]).run prog W= .ok (.agg (Ia vn (dl2 y) uX).toArray) W:=by
 obtain⟨⟨fam,ip,hk⟩,port,id,q⟩:=y;have h':ip.length=16:=h;clear h;match ip,h' with
 |[b0,b1,b2,b3,b4,b5,b6,b7,b8,b9,b10,b11,b12,b13,b14,b15],_=>exact YE fam hk port id q b0 b1 b2 b3 b4 b5 b6 b7 b8 b9 b10 b11 b12 b13 b14 b15 vn W
def adu(y:Qy)(A:Option Addr)(c:Nat)(w:World)(e:Ending)(w':World):Prop:=∃g v,e= .returned (.tuple #[.pointer (some ⟨g,0,none⟩),v])/\vZ w' g (zw y).1 A c/\vJ (g+1) w' v (zw y).2/\al w w'/\w.heap.size<=g
theorem abk(cs:List Value)(y:Qy)(A:Option Addr)(c:Nat)(w:World)(h:Ho w cs y A c):
  Calls prog 24 #[.agg cs.toArray] w (adu y A c w):=by
 have h2:=h.ip;have hcl:cs.length=23:=nT;have L19:cs[19]?=some (.int .i64 y.id):=by rw[h.hS];exact zd h2 1
 have Q3:Hid ((cs.drop 20).take 3=qC (.slice A y.q.name.length c) y.q):=Y (by rw[h.hS];exact OT h2);have RB:=Y (fun W=>acV (.slice A y.q.name.length c) y h2 W);rw[<-h.hS]at RB;have B1:=F.new w 30 cs;have HB1:Below w.heap.size w (w.alloc (.cells cs.toArray 30)):=gF;have BU:=Y (Ck A c y.q y.id false _ (h.nm.G HB1));have a19:=B1.M 19 L19;have HLL:Hid (∀(d:Dl) W g,d.y=y->d.yr=vU.zero->F W g 163 (Ia (.slice A y.q.name.length c) d uX)->vZ W g d A c):=Y (fun d W g hy hm Z=>⟨uX,by rw[hy];exact Z,by rw[hy];exact h2,by rw[hm];exact vf.zero _⟩);obtain⟨R,hR⟩:=ao (zw y);unfold adu;rw[hR.out];obtain⟨LL,hLL⟩:=ao (Ia (.slice A y.q.name.length c) (dl0 y) uX);obtain⟨L2,hL2⟩:=ao (Ia (.slice A y.q.name.length c) (dl2 y) uX);rw[hLL.out,hL2.out]at RB;clear h L19;unfold qC at Q3;go_enter func24,ntmps24;go_wp2_with(refine ur (.load 28 (.tmp 8)) J ?_;go_must(refine uu J _ _ J w.heap.size 20 J B1 3 I _ underlying28 J xu _ Q3.out ?_));refine BU.out.mono ?_;rintro _ w3 ⟨rfl,b3⟩;have C3:=B1.G b3 B1.lt;have HB3:=um HB1 HB1.size b3;clear B1 HB1 BU a19 b3 Q3;by_cases he:GQ y=0
 case neg=>
  have HR2:Hid (R=(dl2 y,[])):=Y (by rw[<-hR.out];unfold zw;rw[if_neg he];rfl);have he2:(GQ y !=0)=true:=iE;have D4:=F.new w3 163 L2;have H4:=HB3.alloc HB3.size (.cells L2.toArray 163);have J4:=HLL.out (dl2 y) (w3.alloc (.cells L2.toArray 163)) w3.heap.size J J (by rw[hL2.out];exact D4);have HJ:=Y J4;clear he hR J4 D4 hL2 hLL;unfold GQ at*;generalize(vN (vW y.q y.id false) false).1=o1 at*;generalize(vN (vW y.q y.id false) false).2=o2 at*;go_wp2_with(first
   |(refine ur (.load 30 (.tmp 1)) rfl ?_;go_must(refine uu rfl _ _ rfl w.heap.size 0 rfl C3 23 I _ underlying30 rfl Dz cs (wP I) ?_))
   |(refine ur (.build 163 #[(0,.tmp 17),(3,.const (.int .i64 2))]) rfl ?_;go_must(refine wi rfl 163 _ rfl #[(0,.agg cs.toArray),(3,.int .i64 2)] ee (RB.out _).2 ?_)))
  go_ret2;rw[HR2.out];exact⟨w3.heap.size,_,J,HJ.out,vJ.nil _ _,H4,HB3.size⟩
 have HR2:Hid (R=(⟨y,uA 2 (DA y).length++DA y,0,false,[],vU.zero⟩,[⟨2,y.sv,y.port,[]⟩])):=Y eg;have D4:=F.new w3 163 LL;have H4:=HB3.alloc HB3.size (.cells LL.toArray 163);have J4:=HLL.out ⟨y,uA 2 (DA y).length++DA y,0,false,[],vU.zero⟩ (w3.alloc (.cells LL.toArray 163)) w3.heap.size J J (by show F _ _ _ (Ia (.slice A y.q.name.length c) (dl0 y) uX);rw[hLL.out];exact D4);have OC:=Y (J4.out 2 []);have HJ:=Y J4;clear hR J4 D4 hL2 hLL HLL;unfold GQ at he;generalize uA 2 (DA y).length++DA y=o9 at*;generalize(vN (vW y.q y.id false) false).1=o1 at*;rw[he];clear he;go_wp2_with(first
  |(refine ur (.load 30 (.tmp 1)) rfl ?_;go_must(refine uu rfl _ _ rfl w.heap.size 0 rfl C3 23 I _ underlying30 rfl Dz cs (wP I) ?_))
  |(refine ur (.build 163 #[(0,.tmp 20)]) rfl ?_;go_must(refine wi rfl 163 _ rfl #[(0,.agg cs.toArray)] ee (RB.out _).1 ?_)))
 refine OC.out.mono ?_;rintro _ w5 ⟨v,rfl,hO,b5⟩;have H6:=um H4 H4.size b5;go_wp2_with fail;go_ret2;rw[HR2.out];exact⟨w3.heap.size,_,J,HJ.out.G b5,hO.mono ap,H6,HB3.size⟩
theorem acW(y:Qy):(zw y).1.oc:=by
 unfold zw;split
 ·rename_i h;intro _;exact⟨h,J⟩
 ·intro h;cases h
theorem abl(d:Dl)(e:Ev)(h:d.oc):(vM d e).1.oc:=by
 unfold vM;split
 ·exact h
 ·
  split
  ·split<;>exact h
  ·
   split
   ·
    split
    ·exact tM
    ·exact h
   ·exact tM
theorem KL:(prog.info? 97).map (·.size)=some 21:=by kernel_rfl
theorem VG{x y:Ou}(p q:Operand)(ho:o.op= .binOp .neq 97 p q 97)(hx:a.eval p= .agg (Gs x).toArray)(hy:a.eval q= .agg (Gs y).toArray)(U:x.to_.ip.length=16)(X:y.to_.ip.length=16)(w:World):(execOp a.eval o).run prog w= .ok (.value (.bool (!decide (x=y)))) w:=by
 have hr:=aaI x y U X w;have hg:(eqGuard .neq 97 p q (.agg (Gs x).toArray) (.agg (Gs y).toArray)).run prog w= .ok () w:=run_eqGuard_agg w _ _ _ _ _ _ Tryz.eqGuardType97;unfold execOp;simp only[ho,hx,hy,Sem.run_bind,hg,run_neq_struct,hr,Result.andThen_ok,Sem.run_pure]
theorem EK(A B:Option Addr)(ca cb:Nat)(la lb:List Ou)(w:World)(hA:Yb w A la)(hB:Yb w B lb)(hl:la.length<=100000000)(hl2:lb.length<=100000000):
  Calls prog 25 #[.slice A la.length ca,.slice B lb.length cb] w (uI (.bool (decide (la=lb))) w):=by
 obtain⟨R,hR⟩:=ao (decide (la=lb));rw[hR.out];by_cases hll:la.length=lb.length
 case neg=>have hR2:Hid (R=false):=Y (by rw[<-hR.out];exact decide_eq_false (fun h=>hll bK));have apu:((la.length:Int) !=lb.length)=true:=aA;clear hll hR;go_enter func25,ntmps25;go_wp2_with fail;go_ret;rw[hR2.out];exact uI.mk J (Below.refl _ _)
 have apu:((la.length:Int) !=lb.length)=false:=aA;go_enter func25,ntmps25;go_wp2_with fail;go_loopw[5] (fun iv wr=>∃k:Nat,k<=la.length/\iv= .int .i64 k/\(∀i (U:i<k) (X:i<la.length) (h3:i<lb.length),la[i]=lb[i])/\al w wr) (fun iv _=>la.length-(intOf iv).toNat)
 case atStart=>exact⟨0,Nat.zero_le _,J,fun i h=>absurd h I,Below.refl _ _⟩
 obtain⟨k,z,rfl,he,hW⟩:=hrel;have HE:=Y he;clear he;by_cases aB:k<la.length
 case pos=>
  have h1:(k:Int)<la.length:=I;have agS:k<lb.length:=I;obtain⟨ba,oa,hA1,la1,xa⟩:=hA.2 I;obtain⟨bb,ob,hB1,lb1,xb⟩:=hB.2 I;subst hA1 hB1;have ra:=xa k aB;have rb:=xb k agS;have ia:=hA.1 _ (List.getElem_mem aB);have ib:=hB.1 _ (List.getElem_mem agS);have HD:Hid (la[k]≠lb[k]->la≠lb):=Y (fun h=>adj aB agS h);have HY:Hid (la[k]=lb[k]->∀i (U:i<k+1) (X:i<la.length) (h3:i<lb.length),la[i]=lb[i]):=Y (fun h i U X h3=>by
   by_cases hik:i<k
   ·exact HE.out i hik X h3
   ·
    obtain rfl:i=k:=I;exact h)
  clear xa xb HE;generalize la[k]=x at*;generalize lb[k]=y at*;go_wp2_with fail;refine wY (by kernel_rfl) (by kernel_rfl) ?_
  (refine ux (v:=(.slice (some ⟨ba,oa,none⟩) la.length ca)) J (fun W hW=>by first|(go_simp;done)|(go_simp;omega)) ?_;simp only[E])
  (refine ux (v:=(.int .i64 k)) J (fun W hW=>by first|(go_simp;done)|(go_simp;omega)) ?_;simp only[E])
  refine ux (v:=.pointer (some ⟨ba,oa+k*21,none⟩)) J (fun W hW=>yV underlying34 KL I (.tmp 17) (.tmp 18) J J J aB W) ?_;simp only[E];refine vr (v:=.agg (Gs x).toArray) 97 (.tmp 19) J ⟨ba,oa+k*21,none⟩ J J (fun V hV=>yM (uD (uD ra hW la1) hV (Nat.lt_of_lt_of_le la1 hW.size)) underlying97 J (by rw[Dp ia];exact KL)) ?_;simp only[E]
  (refine ux (v:=(.slice (some ⟨bb,ob,none⟩) lb.length cb)) J (fun W hW=>by first|(go_simp;done)|(go_simp;omega)) ?_;simp only[E])
  (refine ux (v:=(.int .i64 k)) J (fun W hW=>by first|(go_simp;done)|(go_simp;omega)) ?_;simp only[E])
  refine ux (v:=.pointer (some ⟨bb,ob+k*21,none⟩)) J (fun W hW=>yV underlying34 KL I (.tmp 21) (.tmp 22) J J J agS W) ?_;simp only[E];refine vr (v:=.agg (Gs y).toArray) 97 (.tmp 23) J ⟨bb,ob+k*21,none⟩ J J (fun V hV=>yM (uD (uD rb hW lb1) hV (Nat.lt_of_lt_of_le lb1 hW.size)) underlying97 J (by rw[Dp ib];exact KL)) ?_;simp only[E];refine ux (v:=.bool (!decide (x=y))) J (fun W hW=>VG (.tmp 20) (.tmp 24) J J J ia ib W) ?_;simp only[E];refine wpQuiet_nil ?_;intro w4 hB4;have HW:=um hW hW.size hB4;clear hW hB4 ra rb;by_cases hxy:x=y
  case neg=>have hn:=HD.out hxy;have hR2:Hid (R=false):=Y (by rw[<-hR.out];exact decide_eq_false hn);rw[decide_eq_false hxy];clear hxy hn hR HD HY;go_wp2_with fail;go_ret;rw[hR2.out];exact uI.mk J HW
  have hy:=HY.out hxy;have HE:=Y hy;rw[decide_eq_true hxy];clear hxy hy HD HY;go_wp2_with fail;go_roundw
  case rel=>exact⟨k+1,I,gp,HE.out,HW⟩
  case measure=>simp[intOf];omega
 obtain rfl:k=la.length:=I;have h1:¬(la.length:Int)<la.length:=I;have hR2:Hid (R=true):=Y (by
  rw[<-hR.out];exact decide_eq_true (List.ext_getElem hll (fun i U X=>HE.out i U U X)))
 clear HE hR;go_wp2_with fail;go_ret;rw[hR2.out];exact uI.mk J hW
end Go.Proofs.YthnbcmlnpdabhaaGreat
