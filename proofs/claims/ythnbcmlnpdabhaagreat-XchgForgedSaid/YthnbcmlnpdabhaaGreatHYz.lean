/-
  Layer 28,the reference:a dial in memory;out,Hang.
-/
import Derived.Test.YthnbcmlnpdabhaaGreatHXz
import Derived.Test.YthnbcmlnpdabhaaGreatHOz
import Derived.Test.YthnbcmlnpdabhaaGreatIMz
namespace Go.Proofs.YthnbcmlnpdabhaaGreat
open _root_.Go.Proofs.Tryz
set_option maxHeartbeats 8000000
open Go.RowKit
set_option maxRecDepth 100000
set_option linter.unusedVariables false
set_option linter.unusedSimpArgs false
variable {w w':World} {g c:Nat} {A:Option Addr} {o:Oper} {a:Act}
def GV(vn:Value)(d:Dl)(ds:List Value):List Value:=xX vn d.y++([.string (bs d.aA),.bool d.op,.int .i64 d.st]++ds)
def Dl.oc(d:Dl):Prop:=d.st=0->Gf d.y=0/\d.oct=tT 2 (CR d.y).length++CR d.y
def vA(w:World)(g:Nat)(d:Dl)(A:Option Addr)(c:Nat):Prop:=∃ds,Z w g 163 (GV (.slice A d.y.q.name.length c) d ds)/\d.y.sv.ip.length=16/\uA w ds d.xP
theorem uA.acA{L cs:List Value}{m:vo}(h:uA w cs m)(hg:w.grownBy w' (some g))(F:Z w g 163 L):uA w' cs m:=h.Lj hg F ax ax ax
section
variable {vn:Value} {d:Dl} {ds:List Value} (h:d.y.sv.ip.length=16)
include h
theorem aau:(GV vn d ds).length=26+ds.length:=by simp[GV,xi h];omega
theorem acB(i:Nat)(hi:i<23):(GV vn d ds)[i]?=(xX vn d.y)[i]?:=by unfold GV;rw[List.getElem?_append_left dX]
theorem aav(k:Nat)(O:k<3):(GV vn d ds)[23+k]?=[Value.string (bs d.aA),.bool d.op,.int .i64 d.st][k]?:=by
 unfold GV;rw[List.getElem?_append_right dW,xi h,Nat.add_sub_cancel_left,List.getElem?_append_left bf]
theorem ae7:((GV vn d ds).drop 0).take 23=xX vn d.y:=by rw[List.drop_zero];exact List.take_left' (xi h)
theorem aeC:((GV vn d ds).drop 0).take 18=d.y.sv.cells:=by
 rw[List.drop_zero];unfold GV xX;rw[List.append_assoc];exact List.take_left' (d.y.sv.ur h)
theorem aeD:((GV vn d ds).drop 20).take 3=qC vn d.y.q:=by
 have:=Vw (vn:=vn) h;unfold GV;rw[List.drop_append_of_le_length dW,List.take_append_of_le_length (by simp[xi h])];exact this
theorem ab5:(GV vn d ds).drop 26=ds:=by
 unfold GV;rw[show(26:Nat)=(xX vn d.y).length+3 by rw[xi h],List.drop_append];simp
theorem adL(sub:List Value)(hs:sub.length=ds.length):(GV vn d ds).take 26++sub++(GV vn d ds).drop (26+sub.length)=GV vn d sub:=by
 rw[List.drop_of_length_le (by rw[aau h];omega),List.append_nil];have e1:(GV vn d ds).take 26=xX vn d.y++[.string (bs d.aA),.bool d.op,.int .i64 d.st]:=by unfold GV;rw[<-List.append_assoc];exact List.take_left' (by simp[xi h])
 rw[e1];simp[GV]
theorem adM(k:Nat)(O:k<3)(x:Value):(GV vn d ds).set (23+k) x=xX vn d.y++([Value.string (bs d.aA),.bool d.op,.int .i64 d.st].set k x++ds):=by
 unfold GV;rw[List.set_append_right _ _ dW,xi h,Nat.add_sub_cancel_left,List.set_append_left _ _ bf]
end
theorem vA.G{d:Dl}(h:vA w g d A c)(F:al w w'):vA w' g d A c:=by
 obtain⟨ds,U,X,h3⟩:=h;exact⟨ds,U.G F U.lt,X,h3.G F⟩
theorem vA.lt{d:Dl}(h:vA w g d A c):g<w.heap.size:=by obtain⟨_,U,_⟩:=h;exact U.lt
theorem vA.uG{d:Dl}(h:vA w g d A c):∃L ds,Z w g 163 L/\L.length=40/\d.y.sv.ip.length=16/\(L.drop 0).take 23=xX (.slice A d.y.q.name.length c) d.y/\(L.drop 0).take 18=d.y.sv.cells/\(L.drop 20).take 3=qC (.slice A d.y.q.name.length c) d.y.q/\L[18]?=some (.int .i64 d.y.port)/\L[19]?=some (.int .i64 d.y.id)/\L[23]?=some (.string (bs d.aA))/\L[24]?=some (.bool d.op)/\L[25]?=some (.int .i64 d.st)/\(L.drop 26).take 14=ds/\uA w ds d.xP/\
  ∀w' ds' m,w.grownBy w' (some g)->Z w' g 163 (L.take 26++ds'++L.drop (26+ds'.length))->uA w ds' m->vA w' g {d with xP:=m} A c:=by
 obtain⟨ds,F,ty,hM⟩:=h;have hdl:=hM.len;refine⟨_,ds,F,by rw[aau ty,hdl],ty,ae7 ty,aeC ty,aeD ty,?_,?_,aav ty 0 I,aav ty 1 I,aav ty 2 I,by rw[ab5 ty,List.take_of_length_le I],hM,?_⟩
 ·rw[acB ty 18 I];exact zj ty 0
 ·rw[acB ty 19 I];exact zj ty 1
 ·intro w' ds' m hg hb' hM';rw[adL ty ds' (by rw[hM'.len,hdl])]at hb';exact⟨ds',hb',ty,hM'.acA hg F⟩
theorem vA.set{d d':Dl}(h:vA w g d A c)(k:Nat)(O:k<3)(x:Value)(hy:d'.y=d.y)(hm:d'.xP=d.xP)(hx:[Value.string (bs d.aA),.bool d.op,.int .i64 d.st].set k x=[Value.string (bs d'.aA),.bool d'.op,.int .i64 d'.st]):vA (w.setCell ⟨g,23+k,none⟩ x) g d' A c:=by
 obtain⟨ds,F,ty,hM⟩:=h;have hg:w.grownBy (w.setCell ⟨g,23+k,none⟩ x) (some g):=ig;have hb2:=F.set (23+k) x;rw[adM ty k O x,hx,<-hy]at hb2;exact⟨ds,hb2,by rw[hy];exact ty,by rw[hm];exact hM.acA hg F⟩
theorem xj.grown{n:List (List UInt8)}(h:xj w A c n)(hg:w.grownBy w' (some g))(hA:0<n.length->∀a,A=some a->a.block≠g):xj w' A c n:=by
 refine⟨fun hp=>?_,h.2⟩;obtain⟨b,off,U,X,h3⟩:=h.1 hp;refine⟨b,off,U,Nat.lt_of_lt_of_le X hg.size,fun i hi=>?_⟩;rw[<-h3 i hi];exact yH hg ⟨b,off+i,none⟩ X fE
def S7(g:Nat)(A:Option Addr)(c:Nat)(r:Dl×List Ou)(w:World)(e:Ending)(w':World):Prop:=∃v,e= .returned v/\vI w.heap.size w' v r.2/\vA w' g r.1 A c/\w.grownBy w' (some g)
theorem aaw(f:FuncId)(hf:f=83)(g:Nat)(kind:Int)(data:List UInt8)(L:List Value)(to_:uV)(port:Int)(w:World)(F:Z w g 163 L)(hl:23<=L.length)(ty:to_.ip.length=16)(ha:(L.drop 0).take 18=to_.cells)(hp:L[18]?=some (.int .i64 port)):
  Calls prog f #[.pointer (some ⟨g,0,none⟩),.int .i64 kind,.string (bs data)] w (PE ⟨kind,to_,port,data⟩ w):=by
 subst hf;have RB:=Y (fun W=>Kc kind to_ port data ty W);have HL:=Cy (o:=⟨kind,to_,port,data⟩) ty;have ON:=Y (fun W=>Ig W ⟨kind,to_,port,data⟩ ty);have HA:=Y ha;clear ty ha;generalize Ft ⟨kind,to_,port,data⟩=oc at*;generalize to_.cells=tc at*;go_enter func83,ntmps83;go_wp2_with fail;refine wp_region_held_drew (S:=fun V=>al w V) (by kernel_rfl) (Below.refl _ _).drew (fun M=>?_)
 (refine ag 0 (some 7) J J (by kernel_rfl) (fun W hW=>rfl) M ?_;simp only[z])
 (refine ag 1 (some 8) J J (by kernel_rfl) (fun W hW=>rfl) M ?_;simp only[z])
 refine ag 2 (some 9) (v:=.pointer (some ⟨g,0,none⟩)) J J (by kernel_rfl) (fun W hW=>by kernel_rfl) M ?_;simp only[z];refine ag 3 (some 10) (v:=.pointer (some ⟨g,0,none⟩)) J J (by kernel_rfl) (fun W hW=>rfl) M ?_;simp only[z];refine ag 4 (some 11) (v:=.pointer (some ⟨g,0,none⟩)) J J (by kernel_rfl) (fun W hW=>rfl) M ?_;simp only[z];refine uZ 5 (some 12) 24 (.tmp 11) ⟨g,0,none⟩ J J J J (by kernel_rfl) (by kernel_rfl) (by kernel_rfl) (fun _ _ _ h=>h) (by kernel_rfl) (fun V hV=>(F.G hV F.lt).wk 24 0 18 I _ underlying24 J xJ _ HA.out) M ?_;simp only[z]
 (refine ag 6 (some 13) J J (by kernel_rfl) (fun W hW=>rfl) M ?_;simp only[z])
 refine ag 7 (some 14) (v:=.pointer (some ⟨g,0,none⟩)) J J (by kernel_rfl) (fun W hW=>by kernel_rfl) M ?_;simp only[z];refine ag 8 (some 15) (v:=.pointer (some ⟨g,0,none⟩)) J J (by kernel_rfl) (fun W hW=>rfl) M ?_;simp only[z];refine ag 9 (some 16) (v:=.pointer (some ⟨g,18,none⟩)) J J (by kernel_rfl) (fun W hW=>rfl) M ?_;simp only[z];refine uZ 10 (some 17) 3 (.tmp 16) ⟨g,18,none⟩ J J J J (by kernel_rfl) (by kernel_rfl) (by kernel_rfl) (fun _ _ _ h=>h) (by kernel_rfl) (fun V hV=>tV underlying3 J ((F.G hV F.lt).K 18 hp)) M ?_;simp only[z]
 (refine ag 11 (some 18) J J (by kernel_rfl) (fun W hW=>rfl) M ?_;simp only[z])
 refine ag 12 (some 19) (v:=.agg oc.toArray) J J (by kernel_rfl) (fun W hW=>Ly 97 _ J #[(0,.int .i64 kind),(1,.agg tc.toArray),(2,.int .i64 port),(3,.string (bs data))] (by kernel_rfl) (RB.out W)) M ?_;simp only[z];refine um 13 (by kernel_rfl) ?_;refine uM 13 (some 20) J J (by kernel_rfl) (IQ (.tmp 19) J J (LC _ oc HL)) ?_;have OO:=ON.out w.drew;have hS2:Below w.heap.size w (w.drew.alloc (.cells oc.toArray 97)):=ol;refine⟨hS2,?_⟩;clear M;have M:=hS2;clear hS2;simp only[z]
 (refine ag 14 (some 6) J J (by kernel_rfl) (fun W hW=>rfl) M ?_;simp only[z])
 refine wpAnyH_done (by kernel_rfl) ?_ _;exact tG
theorem vA.out{d:Dl}(h:vA w g d A c)(kind:Int)(data:List UInt8):
  Calls prog 83 #[.pointer (some ⟨g,0,none⟩),.int .i64 kind,.string (bs data)] w (PE ⟨kind,d.y.sv,d.y.port,data⟩ w):=by
 obtain⟨L,ds,F,hL,ty,_,ha,_,hp,_⟩:=h.uG;exact aaw _ J g kind data _ d.y.sv d.y.port w F I ty ha hp
theorem XG(g:Nat)(d:Dl)(A:Option Addr)(c:Nat)(w:World)(h:vA w g d A c):Calls prog 29 #[.pointer (some ⟨g,0,none⟩)] w (S7 g A c (xB d) w):=by
 have h':=h;obtain⟨L,ds,F,hL,ty,_,_,_,_,_,_,_,c25,_⟩:=h.uG;have a25:=F.K 25 c25;have f25:=F.frozen 25;by_cases hs:d.st=0
 case neg=>have e1:xB d=(d,[]):=nD;rw[e1];have hs':(d.st !=0)=true:=ki;have H:=Y h';clear h' h F ty hs e1 c25;generalize d.st=st at*;go_enter func29,ntmps29;exact sA
 have e1:xB d=({d with st:=2},[⟨4,d.y.sv,d.y.port,[]⟩]):=kZ;rw[e1];have J2:vA (w.setCell ⟨g,25,none⟩ (.int .i64 2)) g {d with st:=2} A c:=h.set 2 I (.int .i64 2) J J J;have G2:w.grownBy (w.setCell ⟨g,25,none⟩ (.int .i64 2)) (some g):=ig;have OC:=Y (J2.out 4 []);have HJ:=Y J2;rw[hs]at a25;clear h' h F ty hs e1 J2 c25;go_enter func29,ntmps29;go_wp2_with fail;refine OC.out.mono ?_;rintro _ w2 ⟨v,rfl,hO,b2⟩;go_wp2_with fail;go_ret;exact⟨_,J,hO.mono aG,HJ.out.G b2,vk G2 b2⟩
def Jb(d:Dl):vo×Bool:=match v9 d.y (vF d.aA)with
 |some m=>(m,true)
 |none=>(vo.zero,false)
theorem aax{ba oa k n:Nat}(x y:Operand)(ho:o.op= .indexAddr 25 x y)(hx:a.eval x= .slice (some ⟨ba,oa,none⟩) n c)(hy:a.eval y= .int .i64 k)(O:k<n)(w:World):(execOp a.eval o).run prog w= .ok (.value (.pointer (some ⟨ba,oa+k,none⟩))) w:=by
 have U:(k:Int)<n:=I;have hr:(Instr.indexAt 25 (.slice (some ⟨ba,oa,none⟩) n c) (.int .i64 k)).run prog w= .ok (.pointer (some ⟨ba,oa+k,none⟩)) w:=by
  obtain⟨i,hi,_,adT,_⟩:=info_parts DB;simp[Instr.indexAt,run_underlying underlying25,asIntOf,sizeOf,typeInfo,hi,adT,U,Addr.add];rw[if_pos O];by_cases h0:k=0
  ·subst h0;simp
  ·rw[if_neg h0]
 exact sq
theorem UO(g:Nat)(d:Dl)(A:Option Addr)(c:Nat)(w:World)(h:vA w g d A c)(hN:xj w A c d.y.q.name)(hq:uQ d.y.q.name<=1000)(F:d.aA.length<=8796093022208):
  Calls prog 85 #[.pointer (some ⟨g,0,none⟩)] w (Rw (Jb d) w):=by
 have HX:Below w.heap.size w (w.alloc (.cells uw.toArray 50)):=gj;have BX:=Z.new w 50 uw;obtain⟨L,ds,hbw,hL,ty,hqq,_,_,_,_,c23,_⟩:=h.uG;have a23:=hbw.K 23 c23;have hgl:=hbw.lt;have hbk:=hbw.alloc (.cells uw.toArray 50);clear hbw;have hNX:=hN.G HX;have FS:=Y (Um d.aA (w.alloc (.cells uw.toArray 50)) F);have hnl:(vF d.aA).length<=8796093022208:=by have:=Oe d.aA.length d.aA (Nat.le_refl _);omega
 obtain⟨R,hR⟩:=ao (Jb d);have HB:Hid (R=match v9 d.y (vF d.aA)with
  |some m=>(m,true)
  |none=>(vo.zero,false)):=Y hR.out.symm
 rw[hR.out];unfold acu at FS;have HQ:=Y hqq;clear h hN F c23 hqq hR;generalize((d.aA.length-(yb d.aA).length:Nat):Int)=kk at*;generalize vF d.aA=l at*;generalize d.aA=hd at*;go_enter func85,ntmps85;go_wp2_with fail;refine FS.out.mono ?_;rintro _ w1 ⟨v,rfl,hT,b1⟩;obtain⟨A1,c1,hv,-,-⟩:=hT.form;subst hv;have C1:=hbk.G b1 hbk.lt;have B1:=BX.G b1 BX.lt;have HB1:=tL HX HX.size b1;have hN1:=hNX.G b1;clear FS a23 hbk BX HX b1 hNX;go_wp2_with fail;go_loopw[6] (fun iv wr=>∃k:Nat,k<=l.length/\iv= .int .i64 k/\v9 d.y (l.take k)=none/\al w1 wr) (fun iv _=>l.length-(intOf iv).toNat)
 case atStart=>exact⟨0,Nat.zero_le _,J,J,Below.refl _ _⟩
 obtain⟨k,O,rfl,hno,hW⟩:=hrel;have HN:=Y hno;clear hno;by_cases Hh:k<l.length
 case pos=>
  have tQ:(k:Int)<l.length:=I;obtain⟨A',c',hA,hTx,hc⟩:=(hT.G hW).form;injection hA with hA1 hA2 hA3;subst hA1 hA3;obtain⟨ba,oa,hA,la,xa⟩:=hTx I;subst hA;have CW:=C1.G hW C1.lt;have FR:=Y (fun W (b:al wr W)=>Mp (xX (.slice A d.y.q.name.length c) d.y) d.y A c l[k] W ⟨J,ty,(hN1.G hW).G b⟩ hq);have XS:Hid (∀V,al wr V->V.cell? ⟨ba,oa+k,none⟩=some (.string (bs l[k]))):=Y (fun V hV=>(hV.cell (p:=⟨ba,oa+k,none⟩) la).trans (xa k Hh));have HY:Hid ((wH d.y (xo l[k])).2=true->v9 d.y l=some (wH d.y (xo l[k])).1):=mN;have HNO:Hid ((wH d.y (xo l[k])).2=false->v9 d.y (l.take (k+1))=none):=m8;clear xa hTx hc HN;generalize wH d.y (xo l[k])=afW at*;generalize l[k]=t at*;generalize xX (.slice A d.y.q.name.length c) d.y=qs at*;go_upto_region 6 with fail;go_cut[7,8] (fun v7 v8 wx=>∃gz es2,v7= .pointer (some ⟨gz,0,none⟩)/\v8= .bool afW.2/\Z wx gz 50 es2/\uA wx es2 afW.1/\al wr wx)
  case first=>
   refine wp_region_held_drew (S:=fun V=>al wr V) (by kernel_rfl) (Below.refl _ _).drew (fun M=>?_)
   (refine ag 0 (some 24) J J (by kernel_rfl) (fun W hW=>rfl) M ?_;simp only[z])
   refine ag 1 (some 25) (v:=.pointer (some ⟨g,0,none⟩)) J J (by kernel_rfl) (fun W hW=>by kernel_rfl) M ?_;simp only[z];refine ag 2 (some 26) (v:=.pointer (some ⟨g,0,none⟩)) J J (by kernel_rfl) (fun W hW=>rfl) M ?_;simp only[z];refine uZ 3 (some 27) 30 (.tmp 26) ⟨g,0,none⟩ J J J J (by kernel_rfl) (by kernel_rfl) (by kernel_rfl) (fun _ _ _ h=>h) (by kernel_rfl) (fun V hV=>(CW.G hV CW.lt).wk 30 0 23 I _ underlying30 J DX qs HQ.out) M ?_;simp only[z]
   (refine ag 4 (some 28) J J (by kernel_rfl) (fun W hW=>rfl) M ?_;simp only[z])
   (refine ag 5 (some 29) J J (by kernel_rfl) (fun W hW=>rfl) M ?_;simp only[z])
   refine ag 6 (some 30) (v:=.pointer (some ⟨ba,oa+k,none⟩)) J J (by kernel_rfl) (fun W hW=>aax (.tmp 28) (.tmp 29) J J J Hh W) M ?_;simp only[z];refine uZ 7 (some 31) 9 (.tmp 30) ⟨ba,oa+k,none⟩ J J J J (by kernel_rfl) (by kernel_rfl) (by kernel_rfl) (fun _ _ _ h=>h) (by kernel_rfl) (fun V hV=>tV underlying9 J (XS.out V hV)) M ?_;simp only[z];refine xu 8 12 (by kernel_rfl) ?_ ?_
   ·
    refine vO 8 (some 32) 20 #[.agg qs.toArray,.string (bs t)] J J (by kernel_rfl) bm (FR.out _ M) ?_;rintro _ w9 ⟨es2,rfl,hM9,b9⟩;have hel:=hM9.len;have he1:=Y hM9.one;have hS3:al wr w9:=tL M M.size b9;refine⟨_,J,hS3,?_⟩;clear M;have M:=hS3;clear hS3;simp only[z]
    (refine ag 9 (some 23) J J (by kernel_rfl) (fun W hW=>rfl) M ?_;simp only[z])
    (refine ag 10 (some 33) J J (by kernel_rfl) (fun W hW=>rfl) M ?_;simp only[z])
    (refine ag 11 (some 34) J J (by kernel_rfl) (fun W hW=>rfl) M ?_;simp only[z])
    refine um 12 (by kernel_rfl) ?_;generalize hWW:w9=WW at*;refine uM 12 (some 7) (v:=.pointer (some ⟨WW.heap.size,0,none⟩)) (w':=WW.alloc (.cells uw.toArray 50)) J J (by kernel_rfl) (by kernel_rfl) ?_;have kn:Below WW.heap.size WW (WW.alloc (.cells uw.toArray 50)):=gj;have Bz:=Z.new WW 50 uw;have hS4:=tL M M.size kn;have hz:wr.heap.size<=WW.heap.size:=lm;refine⟨hS4,?_⟩;clear M;have M:=hS4;clear hS4;simp only[z];replace hM9:=hM9.G kn;clear kn;generalize WW.heap.size=gz at*;refine vz 13 none 50 (.tmp 7) (.tmp 33) (by kernel_rfl) J J J (by kernel_rfl) gz 0 J es2 J Bz dK fF he1.out ?_;intro wa Ba ga _;replace Ba:Z wa gz 50 es2:=GJ Ba dK;have hMa:=hM9.uG ga Bz;have hS5:=tN M ga M.size hz;refine⟨hS5,?_⟩;clear M ga Bz hM9;have M:=hS5;clear hS5;simp only[z]
    (refine ag 14 (some 8) J J (by kernel_rfl) (fun W hW=>rfl) M ?_;simp only[z])
    refine wpAnyH_done (by kernel_rfl) ?_ _;exact sN
   ·
    obtain⟨WW,hWW⟩:∃WW,wr.drew=WW:=gp;rw[hWW]at M⊢;refine uM 12 (some 7) (v:=.pointer (some ⟨WW.heap.size,0,none⟩)) (w':=WW.alloc (.cells uw.toArray 50)) J J (by kernel_rfl) (by kernel_rfl) ?_;have kn:Below WW.heap.size WW (WW.alloc (.cells uw.toArray 50)):=gj;have Bz:=Z.new WW 50 uw;have hS4:=tL M M.size kn;have hz:wr.heap.size<=WW.heap.size:=lm;refine⟨hS4,?_⟩;clear M;have M:=hS4;clear hS4;simp only[z];clear kn;refine um 8 (by kernel_rfl) ?_;refine vO 8 (some 32) 20 #[.agg qs.toArray,.string (bs t)] J J (by kernel_rfl) bm (FR.out _ M) ?_;rintro _ w9 ⟨es2,rfl,hM9,b9⟩;have hel:=hM9.len;have he1:=Y hM9.one;have hS3:al wr w9:=tL M M.size b9;refine⟨_,J,hS3,?_⟩;clear M;have M:=hS3;clear hS3;simp only[z];replace Bz:=Bz.G b9 Bz.lt
    (refine ag 9 (some 23) J J (by kernel_rfl) (fun W hW=>rfl) M ?_;simp only[z])
    (refine ag 10 (some 33) J J (by kernel_rfl) (fun W hW=>rfl) M ?_;simp only[z])
    (refine ag 11 (some 34) J J (by kernel_rfl) (fun W hW=>rfl) M ?_;simp only[z])
    generalize WW.heap.size=gz at*;refine vz 13 none 50 (.tmp 7) (.tmp 33) (by kernel_rfl) J J J (by kernel_rfl) gz 0 J es2 J Bz dK fF he1.out ?_;intro wa Ba ga _;replace Ba:Z wa gz 50 es2:=GJ Ba dK;have hMa:=hM9.uG ga Bz;have hS5:=tN M ga M.size hz;refine⟨hS5,?_⟩;clear M ga Bz hM9;have M:=hS5;clear hS5;simp only[z]
    (refine ag 14 (some 8) J J (by kernel_rfl) (fun W hW=>rfl) M ?_;simp only[z])
    refine wpAnyH_done (by kernel_rfl) ?_ _;exact sN
  obtain⟨gz,es2,rfl,rfl,Bz,hMz,bz⟩:=hcut;have hel:=hMz.len;have he1:=Y hMz.one;have HWz:=tL hW hW.size bz;have BR:=B1.G HWz B1.lt;have HBz:=tL HB1 HB1.size HWz;clear FR XS CW bz;cases hf:afW.2 with
  |false=>
   have hn:=HNO.out hf;have HN:=Y hn;clear hn HNO HY hf hMz Bz BR;go_wp2_with fail;go_roundw
   case rel=>exact⟨k+1,I,fU,HN.out,HWz⟩
   case measure=>simp[intOf];omega
  |true=>
   have HR2:Hid (R=(afW.1,true)):=Y (by rw[HB.out,HY.out hf]);clear HNO HY hf HB;go_wp2_with(first
    |(refine tO (.load 50 (.tmp 7)) rfl ?_;go_must(refine tP rfl _ _ rfl gz 0 rfl Bz 14 I _ underlying50 rfl ux es2 (wg I) ?_))
    |(refine tO (.store 50 (.tmp 2) (.tmp 36)) rfl (ab rfl w.heap.size 0 es2 BR dK fF he1.out ?_)))
   intro w8 B8 g8 _;replace B8:Z w8 w.heap.size 50 es2:=GJ B8 dK;have HB8:=tN HBz g8 HBz.size (Nat.le_refl _);have hM8:=hMz.uG g8 BR;clear g8 BR Bz HBz hMz;go_wp2_with fail;refine uH J w.heap.size J B8 _ underlying50 J fF J (.bool true) J ?_;rw[HR2.out];exact⟨es2,J,hM8,HB8⟩
 obtain rfl:k=l.length:=I;have tQ:¬(l.length:Int)<l.length:=I;have hn:=HN.out;rw[List.take_of_length_le (Nat.le_refl _)]at hn;have HR2:Hid (R=(vo.zero,false)):=Y (by rw[HB.out,hn]);have BR:=B1.G hW B1.lt;have HBz:=tL HB1 HB1.size hW;clear hn HN HB C1 B1 hT hN1;go_wp2_with(refine tO (.store 50 (.tmp 2) (.tmp 37)) J (ab J w.heap.size 0 uw BR dK ux wT ?_));intro w8 B8 g8 _;replace B8:Z w8 w.heap.size 50 uw:=by first|exact B8|exact GJ B8 dK
 have HB8:=tN HBz g8 HBz.size (Nat.le_refl _);clear g8 BR HBz;go_wp2_with fail;refine uH J w.heap.size J B8 _ underlying50 J ux J (.bool false) J ?_;rw[HR2.out];exact⟨uw,J,uA.zero _,HB8⟩
theorem XH(g:Nat)(d:Dl)(e:Ev)(A:Option Addr)(c:Nat)(w:World)(h:vA w g d A c)(hN:xj w A c d.y.q.name)(hA:0<d.y.q.name.length->∀a,A=some a->a.block≠g)(hq:uQ d.y.q.name<=1000)(hoc:d.oc)(ty:e.fr.ip.length=16)(F:d.aA.length+e.data.length<=8796093022208):
  Calls prog 27 #[.pointer (some ⟨g,0,none⟩),.agg (xA e).toArray] w (S7 g A c (uW d e) w):=by
 have E0:(xA e)[0]?=some (.int .i64 e.kind):=rfl;have E20:(xA e)[20]?=some (.int .i64 e.port):=z7 ty 1;have E21:(xA e)[21]?=some (.string (bs e.data)):=z7 ty 2;have HX:Below w.heap.size w (w.alloc (.cells (xA e).toArray 42)):=gj;have aeq:=Z.new w 42 (xA e);have HNm:=Y (fun W (b:al w W)=>hN.G b);obtain⟨L,ds,hbk,hL,_,_,_,_,c18,_,_,_,c25,_⟩:=(h.G HX).uG;replace c18:=hbk.K 18 c18;replace c25:=hbk.K 25 c25;have d20:=aeq.K 20 E20;obtain⟨R,hR⟩:=ao (uW d e);rw[hR.out];have HOC:=Y hoc;have aw8:=h.lt;clear hbk hL ty E20 hN hoc;generalize hes:xA e=es at*;clear hes;by_cases hs:d.st=0
 case neg=>have HR2:Hid (R=(d,[])):=Y eg;have hs':(d.st !=0)=true:=ki;have HH:=Lib.hid h;clear hs hR HOC HNm h;go_enter func27,ntmps27;go_wp2_with fail;go_quiet(fail);go_wp2_with fail;go_ret;rw[HR2.out];exact⟨_,J,vI.nil _ _,HH.out.G (below_drewN HX _),uj (below_drewN HX _) _⟩
 rw[hs]at c25;by_cases hpo:e.port=d.y.port
 case neg=>
  have HR2:Hid (R=(d,[])):=Y eh;have awE:(e.port !=d.y.port)=true:=by simpa using hpo
  clear hpo hR HOC HNm;go_enter func27,ntmps27;go_wp2_with fail;go_quiet(fail);go_wp2_with fail;go_ret;rw[HR2.out];exact⟨_,J,vI.nil _ _,h.G (below_drewN HX _),uj (below_drewN HX _) _⟩
 have H0:Hid (¬(d.st≠0\/e.port≠d.y.port)):=Y (by rw[hs,hpo];simp);have HS:=Y hs;rw[hpo]at d20;clear hs hpo;by_cases hk3:e.kind=3
 case pos=>
  rw[hk3]at E0;cases hop:d.op with
  |true=>have HR2:Hid (R=(d,[])):=Y ei;clear hk3 hR HOC HNm;exact oW
  |false=>
   have HR2:Hid (R=({d with op:=true},[⟨3,d.y.sv,d.y.port,d.oct⟩])):=Y fR;clear hk3 hR;go_enter func27,ntmps27;go_wp2_with fail;go_quiet(fail);obtain⟨W,hW⟩:∃W,W=(w.alloc (.cells es.toArray 42)).drewN nq:=gp;rw[<-hW];have HW:al w W:=gX;have EW:Z W w.heap.size 42 es:=iy;have JW:=h.G HW;clear hW c18 c25 d20 aeq h HX;obtain⟨L,ds,hbk,hL,_,_,_,_,_,_,c23,c24,c25,_⟩:=JW.uG;have a23:=hbk.K 23 c23;have a24:=hbk.K 24 c24;have a25:=hbk.K 25 c25;have f23:=hbk.frozen 23;have f24:=hbk.frozen 24;have f25:=hbk.frozen 25;have d0:=EW.K 0 E0;have d21:=EW.K 21 E21;clear c23 c24 c25 EW hL;rw[hop]at a24;have J6:vA (W.setCell ⟨g,24,none⟩ (.bool true)) g {d with op:=true} A c:=JW.set 1 I (.bool true) J J J;have G6:w.grownBy (W.setCell ⟨g,24,none⟩ (.bool true)) (some g):=gQ;have N6:xj (W.setCell ⟨g,24,none⟩ (.bool true)) A c d.y.q.name:=(HNm.out W HW).grown (uq (World.grownBy.refl _ _) _ _) hA;have atB:Hid (d.oct=tT 2 (CR d.y).length++CR d.y):=Y (HOC.out HS.out).2;have hol:Hid ((CR d.y).length<=65535):=Y (by
    rcases Og d.y.q d.y.id false with h|⟨_,h,_⟩
    ·exact absurd (HOC.out HS.out).1 h
    ·
     exact h)
   clear hop JW HOC HNm a23 a25 f23 f25 d21 hbk;obtain⟨L6,_,hb6,hL6,_,_,_,hq3,_,c19,_⟩:=J6.uG;have BU:=Y (fun V (b:Below (W.setCell ⟨g,24,none⟩ (.bool true)).heap.size (W.setCell ⟨g,24,none⟩ (.bool true)) V)=>Bj A c d.y.q d.y.id false V (N6.G b));have OC:=Y (fun V (b:Below (W.setCell ⟨g,24,none⟩ (.bool true)).heap.size (W.setCell ⟨g,24,none⟩ (.bool true)) V)=>(J6.G b).out 3 d.oct);rw[atB.out]at OC;have HJ:=Y J6;have HQ3:=Y hq3;clear J6 N6 hq3;go_wp2_with fail;clear a24 f24 d0;generalize hV6:W.setCell ⟨g,24,none⟩ (.bool true)=V6 at*;clear hV6;unfold qC at HQ3;refine wp_region_held_drew (S:=fun V=>al V6 V) (by kernel_rfl) (Below.refl _ _).drew (fun M=>?_)
   (refine ag 0 (some 38) J J (by kernel_rfl) (fun W hW=>rfl) M ?_;simp only[z])
   refine ag 1 (some 39) (v:=.pointer (some ⟨g,0,none⟩)) J J (by kernel_rfl) (fun W hW=>by kernel_rfl) M ?_;simp only[z];refine ag 2 (some 40) (v:=.pointer (some ⟨g,0,none⟩)) J J (by kernel_rfl) (fun W hW=>rfl) M ?_;simp only[z];refine ag 3 (some 41) (v:=.pointer (some ⟨g,20,none⟩)) J J (by kernel_rfl) (fun W hW=>rfl) M ?_;simp only[z];refine uZ 4 (some 42) 28 (.tmp 41) ⟨g,20,none⟩ J J J J (by kernel_rfl) (by kernel_rfl) (by kernel_rfl) (fun _ _ _ h=>h) (by kernel_rfl) (fun V hV=>(hb6.G hV hb6.lt).wk 28 20 3 I _ underlying28 J xh _ HQ3.out) M ?_;simp only[z]
   (refine ag 5 (some 43) J J (by kernel_rfl) (fun W hW=>rfl) M ?_;simp only[z])
   refine ag 6 (some 44) (v:=.pointer (some ⟨g,0,none⟩)) J J (by kernel_rfl) (fun W hW=>by kernel_rfl) M ?_;simp only[z];refine ag 7 (some 45) (v:=.pointer (some ⟨g,0,none⟩)) J J (by kernel_rfl) (fun W hW=>rfl) M ?_;simp only[z];refine ag 8 (some 46) (v:=.pointer (some ⟨g,19,none⟩)) J J (by kernel_rfl) (fun W hW=>rfl) M ?_;simp only[z];refine uZ 9 (some 47) 3 (.tmp 46) ⟨g,19,none⟩ J J J J (by kernel_rfl) (by kernel_rfl) (by kernel_rfl) (fun _ _ _ h=>h) (by kernel_rfl) (fun V hV=>tV underlying3 J ((hb6.G hV hb6.lt).K 19 c19)) M ?_;simp only[z];refine um 10 (by kernel_rfl) ?_;refine vO 10 (some 48) 82 #[.agg #[.slice A d.y.q.name.length c,.int .i64 d.y.q.E,.int .i64 d.y.q.N],.int .i64 d.y.id,.bool false] J J (by kernel_rfl) bm (BU.out _ M) ?_;rintro _ w8 ⟨rfl,b8⟩;have hS2:al V6 w8:=tL M M.size b8;refine⟨_,J,hS2,?_⟩;clear M b8;have M:=hS2;clear hS2;simp only[z];refine ag 11 (some 37) (v:=.tuple #[.string (bs (vg (vw d.y.q d.y.id false) false).1),.int .i64 (vg (vw d.y.q d.y.id false) false).2]) J J (by kernel_rfl) (fun W hW=>rfl) M ?_;simp only[z];refine ag 12 (some 49) (v:=.string (bs (vg (vw d.y.q d.y.id false) false).1)) J J (by kernel_rfl) (fun W hW=>rfl) M ?_;simp only[z];refine ag 13 (some 50) (v:=.int .i64 (vg (vw d.y.q d.y.id false) false).2) J J (by kernel_rfl) (fun W hW=>rfl) M ?_;simp only[z];refine ag 14 (some 5) (v:=.string (bs (vg (vw d.y.q d.y.id false) false).1)) J J (by kernel_rfl) (fun W hW=>rfl) M ?_;simp only[z];refine ag 15 (some 6) (v:=.int .i64 (vg (vw d.y.q d.y.id false) false).2) J J (by kernel_rfl) (fun W hW=>rfl) M ?_;simp only[z];refine wpAnyH_done (by kernel_rfl) ?_ _;have RPu:=Y (fun V=>wC 2 (CR d.y).length V);rw[show hw 2=2 from J]at RPu;unfold CR at*;generalize(vg (vw d.y.q d.y.id false) false).1=o1 at*;have aE4:=hol.out;have hpl:=tR 2 (o1.length:Int);have awF:(tT 2 (o1.length:Int)).length<=2:=I;clear BU hb6 c19 HQ3 hpl;go_wp2_with fail;refine(RPu.out _).mono ?_;rintro _ w9 ⟨rfl,b9⟩;have hS9:=tL M M.size b9;clear M b9 RPu;go_wp2_with fail;refine(OC.out _ hS9).mono ?_;rintro _ w10 ⟨v,rfl,hO,b10⟩;have hSa:=tL hS9 hS9.size b10;go_wp2_with fail;go_ret;rw[HR2.out];refine⟨_,J,?_,HJ.out.G hSa,vk G6 hSa⟩;rw[atB.out];exact hO.mono (Nat.le_trans G6.size hS9.size)
 have ajh:(e.kind==3)=false:=by simpa using hk3
 by_cases hk4:e.kind=4
 case pos=>
  rw[hk4]at E0;cases hop:d.op with
  |true=>
   have HR2:Hid (R=match v9 d.y (vF (d.aA++e.data))with
    |some m=>({d with aA:=d.aA++e.data,xP:=m,st:=1},[⟨4,d.y.sv,d.y.port,[]⟩])
    |none=>({d with aA:=d.aA++e.data},[])):=Y (by rw[<-hR.out];unfold uW;rw[if_neg H0.out,if_neg hk3,if_pos hk4,if_pos hop];rfl)
   clear hk3 hk4 ajh hR;go_enter func27,ntmps27;go_wp2_with fail;go_quiet(fail);obtain⟨W,hW⟩:∃W,W=(w.alloc (.cells es.toArray 42)).drewN nq:=gp;rw[<-hW];have HW:al w W:=gX;have EW:Z W w.heap.size 42 es:=iy;have JW:=h.G HW;clear hW c18 c25 d20 aeq h HX;obtain⟨L,ds,hbk,hL,_,_,_,_,_,_,c23,c24,c25,_⟩:=JW.uG;have a23:=hbk.K 23 c23;have a24:=hbk.K 24 c24;have a25:=hbk.K 25 c25;have f23:=hbk.frozen 23;have f24:=hbk.frozen 24;have f25:=hbk.frozen 25;have d0:=EW.K 0 E0;have d21:=EW.K 21 E21;clear c23 c24 c25 EW hL;rw[hop]at a24;clear hop hbk;go_wp2_with fail;go_region;have J6:vA (W.setCell ⟨g,23,none⟩ (.string (bs (d.aA++e.data)))).drew g {d with aA:=d.aA++e.data} A c:=(JW.set (d':={d with aA:=d.aA++e.data}) 0 I (.string (bs (d.aA++e.data))) J J J).G (Below.refl _ _).drew;have G6:w.grownBy (W.setCell ⟨g,23,none⟩ (.string (bs (d.aA++e.data)))).drew (some g):=xV (tU (uj HW _) (uq (World.grownBy.refl _ _) _ _) (.inl J));have N6:xj (W.setCell ⟨g,23,none⟩ (.string (bs (d.aA++e.data)))).drew A c d.y.q.name:=(HNm.out W HW).grown (xV (uq (World.grownBy.refl _ _) _ _)) hA;have d0':(W.setCell ⟨g,23,none⟩ (.string (bs (d.aA++e.data)))).drew.cell? ⟨w.heap.size,0,none⟩=some (.int .i64 4):=by have:=yH (xV (uq (World.grownBy.refl W (some g)) 23 (.string (bs (d.aA++e.data))))) ⟨w.heap.size,0,none⟩ (by have:=d0;exact World.block_lt_of_cell? _ _ this) az;rw[this];exact d0
   have FC:=Y (UO g {d with aA:=d.aA++e.data} A c _ J6 N6 hq aL);have HJ:=Y J6;have HF:Hid (R=if(Jb {d with aA:=d.aA++e.data}).2 then({d with aA:=d.aA++e.data,xP:=(Jb {d with aA:=d.aA++e.data}).1,st:=1},[⟨4,d.y.sv,d.y.port,[]⟩])else({d with aA:=d.aA++e.data},[])):=Y (by
    rw[HR2.out];have e1:Jb {d with aA:=d.aA++e.data}=match v9 d.y (vF (d.aA++e.data))with
     |some m=>(m,true)
     |none=>(vo.zero,false):=rfl
    rw[e1];cases v9 d.y (vF (d.aA++e.data))<;>rfl)
   clear HR2 J6 N6 JW HNm a23 a24 a25 f23 f24 f25 d0 d21 HOC;generalize Jb {d with aA:=d.aA++e.data}=afW at*;generalize hV6:(W.setCell ⟨g,23,none⟩ (.string (bs (d.aA++e.data)))).drew=V6 at*;clear hV6;go_wp2_with fail;refine FC.out.mono ?_;rintro _ w7 ⟨ds2,rfl,hM7,b7⟩;have hdl:=hM7.len;have hd1:=Y hM7.one;have J7:=HJ.out.G b7;have G7:=vk G6 b7;have api:=(b7.cell (p:=⟨w.heap.size,0,none⟩) (World.block_lt_of_cell? _ _ d0')).trans d0';clear FC HJ G6 b7 d0';go_wp2_with(refine tO (.store 50 (.tmp 7) (.tmp 80)) J (ab J w7.heap.size 0 ds2 (Z.vP _ _ uw _ J) dI dJ hd1.out ?_));intro w8 B8 g8 zs;clear zs;replace B8:Z w8 w7.heap.size 50 ds2:=GJ B8 dK;have k8:al w7 w8:=tN ((Below.refl _ _).alloc (Nat.le_refl _) _) g8 ap (Nat.le_refl _);have J8:=J7.G k8;have G8:=vk G7 k8;have M8:=hM7.G k8;have d08:=(k8.cell (p:=⟨w.heap.size,0,none⟩) (World.block_lt_of_cell? _ _ api)).trans api;clear g8 k8 J7 G7 hM7 api;generalize w7.heap.size=g7 at*;cases hf:afW.2 with
   |false=>have HR3:Hid (R=({d with aA:=d.aA++e.data},[])):=Y fG;have HJ8:=Y J8;clear hf HF B8 M8 J8;go_wp2_with fail;go_ret;rw[HR3.out];exact⟨_,J,vI.nil _ _,HJ8.out,G8⟩
   |true=>
    have HR3:Hid (R=({d with aA:=d.aA++e.data,xP:=afW.1,st:=1},[⟨4,d.y.sv,d.y.port,[]⟩])):=Y fG;obtain⟨L8,_,hb8,hL8,_,_,_,_,_,_,_,_,_,_,_,aje⟩:=J8.uG;have HP:=Y aje;clear hf HF aje J8;go_wp2_with(first
     |(refine tO (.load 50 (.tmp 7)) rfl ?_;go_must(refine tP rfl _ _ rfl g7 0 rfl B8 14 I _ underlying50 rfl ux ds2 (wg I) ?_))
     |(refine tO (.store 50 (.tmp 86) (.tmp 84)) rfl (ab rfl g 26 ds2 hb8 (by rw[hdl,hL8];omega) dJ hd1.out ?_)))
    intro w9 B9 g9 zs;clear zs;have J9:=HP.out w9 ds2 afW.1 g9 (by rw[hdl];first|exact B9|(rw[List.append_assoc];exact B9)) M8;have G9:=tU G8 g9 (.inl J);obtain⟨L9,_,hb9,_,_,_,_,_,_,_,_,_,c25,_⟩:=J9.uG;have a25:=hb9.K 25 c25;have f25:=hb9.frozen 25;have Ja:vA (w9.setCell ⟨g,25,none⟩ (.int .i64 1)) g {d with aA:=d.aA++e.data,xP:=afW.1,st:=1} A c:=J9.set 2 I (.int .i64 1) J J J;have Ga:w.grownBy (w9.setCell ⟨g,25,none⟩ (.int .i64 1)) (some g):=tU G9 (uq (World.grownBy.refl _ _) _ _) (.inl J);have OC:=Y (Ja.out 4 []);have HJ:=Y Ja;clear HP B9 g9 M8 B8 hb8 G8 J9 G9 Ja hb9 c25;go_wp2_with fail;refine OC.out.mono ?_;rintro _ wb ⟨v,rfl,hO,bb⟩;go_wp2_with fail;go_ret;rw[HR3.out];exact⟨_,J,hO.mono Ga.size,HJ.out.G bb,vk Ga bb⟩
  |false=>have HR2:Hid (R=(d,[])):=Y fS;clear hk3 hk4 ajh hR HOC HNm;exact oW
 have aoH:(e.kind==4)=false:=by simpa using hk4
 by_cases hk5:e.kind=5
 case pos=>have HR2:Hid (R=({d with st:=2},[])):=Y en;rw[hk5]at E0;clear hk3 hk4 hk5 ajh aoH hR HOC HNm;go_enter func27,ntmps27;go_wp2_with fail;go_quiet(fail);obtain⟨W,hW⟩:∃W,W=(w.alloc (.cells es.toArray 42)).drewN nq:=gp;rw[<-hW];have HW:al w W:=gX;have EW:Z W w.heap.size 42 es:=iy;have JW:=h.G HW;clear hW c18 c25 d20 aeq h HX;obtain⟨L,ds,hbk,hL,_,_,_,_,_,_,c23,c24,c25,_⟩:=JW.uG;have a23:=hbk.K 23 c23;have a24:=hbk.K 24 c24;have a25:=hbk.K 25 c25;have f23:=hbk.frozen 23;have f24:=hbk.frozen 24;have f25:=hbk.frozen 25;have d0:=EW.K 0 E0;have d21:=EW.K 21 E21;clear c23 c24 c25 EW hL;have J6:vA (W.setCell ⟨g,25,none⟩ (.int .i64 2)) g {d with st:=2} A c:=JW.set 2 I (.int .i64 2) J J J;have G6:w.grownBy (W.setCell ⟨g,25,none⟩ (.int .i64 2)) (some g):=gQ;have HJ:=Y J6;clear J6 JW hbk;go_wp2_with fail;go_ret;rw[HR2.out];exact⟨_,J,vI.nil _ _,HJ.out,G6⟩
 have HR2:Hid (R=(d,[])):=Y eo;have awW:(e.kind==5)=false:=by simpa using hk5
 clear hk3 hk4 hk5 hR HOC HNm;generalize e.kind=kd at*;go_enter func27,ntmps27;go_wp2_with fail;go_quiet(fail);obtain⟨W,hW⟩:∃W,W=(w.alloc (.cells es.toArray 42)).drewN nq:=gp;rw[<-hW];have HW:al w W:=gX;have EW:Z W w.heap.size 42 es:=iy;have JW:=h.G HW;clear hW c18 c25 d20 aeq h HX;obtain⟨L,ds,hbk,hL,_,_,_,_,_,_,c23,c24,c25,_⟩:=JW.uG;have a23:=hbk.K 23 c23;have a24:=hbk.K 24 c24;have a25:=hbk.K 25 c25;have f23:=hbk.frozen 23;have f24:=hbk.frozen 24;have f25:=hbk.frozen 25;have d0:=EW.K 0 E0;have d21:=EW.K 21 E21;clear c23 c24 c25 EW hL;clear hbk;go_wp2_with fail;go_ret;rw[HR2.out];exact⟨_,J,vI.nil _ _,JW,uj HW _⟩
def dl2(y:Qy):Dl:=⟨y,[],2,false,[],vo.zero⟩
theorem XI(fam cl port id:Int)(q:Qn)(b0 b1 b2 b3 b4 b5 b6 b7 b8 b9 b10 b11 b12 b13 b14 b15:UInt8)(vn:Value)(W:World):
  (Instr.build 163 #[(0,.agg (xX vn ⟨⟨fam,[b0,b1,b2,b3,b4,b5,b6,b7,b8,b9,b10,b11,b12,b13,b14,b15],cl⟩,port,id,q⟩).toArray)]).run prog W= .ok (.agg (GV vn (dl0 ⟨⟨fam,[b0,b1,b2,b3,b4,b5,b6,b7,b8,b9,b10,b11,b12,b13,b14,b15],cl⟩,port,id,q⟩) uw).toArray) W/\
  (Instr.build 163 #[(0,.agg (xX vn ⟨⟨fam,[b0,b1,b2,b3,b4,b5,b6,b7,b8,b9,b10,b11,b12,b13,b14,b15],cl⟩,port,id,q⟩).toArray),(3,.int .i64 2)]).run prog W= .ok (.agg (GV vn (dl2 ⟨⟨fam,[b0,b1,b2,b3,b4,b5,b6,b7,b8,b9,b10,b11,b12,b13,b14,b15],cl⟩,port,id,q⟩) uw).toArray) W:=by
 constructor<;>kernel_rfl
theorem ab6(vn:Value)(y:Qy)(h:y.sv.ip.length=16)(W:World):(Instr.build 163 #[(0,.agg (xX vn y).toArray)]).run prog W= .ok (.agg (GV vn (dl0 y) uw).toArray) W/\(Instr.build 163 #[(0,.agg (xX vn y).toArray),(3,.int .i64 2)]).run prog W= .ok (.agg (GV vn (dl2 y) uw).toArray) W:=by
 obtain⟨⟨fam,ip,cl⟩,port,id,q⟩:=y;have h':ip.length=16:=h;clear h;match ip,h' with
 |[b0,b1,b2,b3,b4,b5,b6,b7,b8,b9,b10,b11,b12,b13,b14,b15],_=>exact XI fam cl port id q b0 b1 b2 b3 b4 b5 b6 b7 b8 b9 b10 b11 b12 b13 b14 b15 vn W
def acC(y:Qy)(A:Option Addr)(c:Nat)(w:World)(e:Ending)(w':World):Prop:=∃g v,e= .returned (.tuple #[.pointer (some ⟨g,0,none⟩),v])/\vA w' g (yW y).1 A c/\vI (g+1) w' v (yW y).2/\al w w'/\w.heap.size<=g
theorem aay(cs:List Value)(y:Qy)(A:Option Addr)(c:Nat)(w:World)(h:Ib w cs y A c):
  Calls prog 24 #[.agg cs.toArray] w (acC y A c w):=by
 have ty:=h.ip;have hcl:cs.length=23:=nx;have L19:cs[19]?=some (.int .i64 y.id):=by rw[h.hcs];exact zj ty 1
 have Q3:Hid ((cs.drop 20).take 3=qC (.slice A y.q.name.length c) y.q):=Y (by rw[h.hcs];exact Vw ty);have RB:=Y (fun W=>ab6 (.slice A y.q.name.length c) y ty W);rw[<-h.hcs]at RB;have B1:=Z.new w 30 cs;have HB1:Below w.heap.size w (w.alloc (.cells cs.toArray 30)):=gj;have BU:=Y (Bj A c y.q y.id false _ (h.nm.G HB1));have a19:=B1.K 19 L19;have HLL:Hid (∀(d:Dl) W g,d.y=y->d.xP=vo.zero->Z W g 163 (GV (.slice A y.q.name.length c) d uw)->vA W g d A c):=Y (fun d W g hy hm F=>⟨uw,by rw[hy];exact F,by rw[hy];exact ty,by rw[hm];exact uA.zero _⟩);obtain⟨R,hR⟩:=ao (yW y);unfold acC;rw[hR.out];obtain⟨LL,hLL⟩:=ao (GV (.slice A y.q.name.length c) (dl0 y) uw);obtain⟨L2,hL2⟩:=ao (GV (.slice A y.q.name.length c) (dl2 y) uw);rw[hLL.out,hL2.out]at RB;clear h L19;unfold qC at Q3;go_enter func24,ntmps24;go_wp2_with(refine tO (.load 28 (.tmp 8)) J ?_;go_must(refine tP J _ _ J w.heap.size 20 J B1 3 I _ underlying28 J xh _ Q3.out ?_));refine BU.out.mono ?_;rintro _ w3 ⟨rfl,b3⟩;have C3:=B1.G b3 B1.lt;have HB3:=tL HB1 HB1.size b3;clear B1 HB1 BU a19 b3 Q3;by_cases he:Gf y=0
 case neg=>
  have HR2:Hid (R=(dl2 y,[])):=Y (by rw[<-hR.out];unfold yW;rw[if_neg he];rfl);have he2:(Gf y !=0)=true:=iu;have D4:=Z.new w3 163 L2;have H4:=HB3.alloc HB3.size (.cells L2.toArray 163);have J4:=HLL.out (dl2 y) (w3.alloc (.cells L2.toArray 163)) w3.heap.size J J (by rw[hL2.out];exact D4);have HJ:=Y J4;clear he hR J4 D4 hL2 hLL;unfold Gf at*;generalize(vg (vw y.q y.id false) false).1=o1 at*;generalize(vg (vw y.q y.id false) false).2=o2 at*;go_wp2_with(first
   |(refine tO (.load 30 (.tmp 1)) rfl ?_;go_must(refine tP rfl _ _ rfl w.heap.size 0 rfl C3 23 I _ underlying30 rfl DX cs (wg I) ?_))
   |(refine tO (.build 163 #[(0,.tmp 17),(3,.const (.int .i64 2))]) rfl ?_;go_must(refine wl rfl 163 _ rfl #[(0,.agg cs.toArray),(3,.int .i64 2)] ea (RB.out _).2 ?_)))
  go_ret2;rw[HR2.out];exact⟨w3.heap.size,_,J,HJ.out,vI.nil _ _,H4,HB3.size⟩
 have HR2:Hid (R=(⟨y,tT 2 (CR y).length++CR y,0,false,[],vo.zero⟩,[⟨2,y.sv,y.port,[]⟩])):=Y ee;have D4:=Z.new w3 163 LL;have H4:=HB3.alloc HB3.size (.cells LL.toArray 163);have J4:=HLL.out ⟨y,tT 2 (CR y).length++CR y,0,false,[],vo.zero⟩ (w3.alloc (.cells LL.toArray 163)) w3.heap.size J J (by show Z _ _ _ (GV (.slice A y.q.name.length c) (dl0 y) uw);rw[hLL.out];exact D4);have OC:=Y (J4.out 2 []);have HJ:=Y J4;clear hR J4 D4 hL2 hLL HLL;unfold Gf at he;generalize tT 2 (CR y).length++CR y=o9 at*;generalize(vg (vw y.q y.id false) false).1=o1 at*;rw[he];clear he;go_wp2_with(first
  |(refine tO (.load 30 (.tmp 1)) rfl ?_;go_must(refine tP rfl _ _ rfl w.heap.size 0 rfl C3 23 I _ underlying30 rfl DX cs (wg I) ?_))
  |(refine tO (.build 163 #[(0,.tmp 20)]) rfl ?_;go_must(refine wl rfl 163 _ rfl #[(0,.agg cs.toArray)] ea (RB.out _).1 ?_)))
 refine OC.out.mono ?_;rintro _ w5 ⟨v,rfl,hO,b5⟩;have H6:=tL H4 H4.size b5;go_wp2_with fail;go_ret2;rw[HR2.out];exact⟨w3.heap.size,_,J,HJ.out.G b5,hO.mono ap,H6,HB3.size⟩
theorem ab7(y:Qy):(yW y).1.oc:=by
 unfold yW;split
 ·rename_i h;intro _;exact⟨h,J⟩
 ·intro h;cases h
theorem aaz(d:Dl)(e:Ev)(h:d.oc):(uW d e).1.oc:=by
 unfold uW;split
 ·exact h
 ·
  split
  ·split<;>exact h
  ·
   split
   ·
    split
    ·exact tf
    ·exact h
   ·exact tf
theorem Kg:(prog.info? 97).map (·.size)=some 21:=by kernel_rfl
theorem UP{x y:Ou}(p q:Operand)(ho:o.op= .binOp .neq 97 p q 97)(hx:a.eval p= .agg (Ft x).toArray)(hy:a.eval q= .agg (Ft y).toArray)(U:x.to_.ip.length=16)(X:y.to_.ip.length=16)(w:World):(execOp a.eval o).run prog w= .ok (.value (.bool (!decide (x=y)))) w:=by
 have hr:=ZT x y U X w;have hg:(eqGuard .neq 97 p q (.agg (Ft x).toArray) (.agg (Ft y).toArray)).run prog w= .ok () w:=run_eqGuard_agg w _ _ _ _ _ _ Tryz.eqGuardType97;unfold execOp;simp only[ho,hx,hy,Sem.run_bind,hg,run_neq_struct,hr,Result.andThen_ok,Sem.run_pure]
theorem PZ(A B:Option Addr)(ca cb:Nat)(la lb:List Ou)(w:World)(hA:adj w A la)(hB:adj w B lb)(hl:la.length<=100000000)(hl2:lb.length<=100000000):
  Calls prog 25 #[.slice A la.length ca,.slice B lb.length cb] w (uf (.bool (decide (la=lb))) w):=by
 obtain⟨R,hR⟩:=ao (decide (la=lb));rw[hR.out];by_cases hll:la.length=lb.length
 case neg=>have hR2:Hid (R=false):=Y (by rw[<-hR.out];exact decide_eq_false (fun h=>hll bK));have aoB:((la.length:Int) !=lb.length)=true:=az;clear hll hR;go_enter func25,ntmps25;go_wp2_with fail;go_ret;rw[hR2.out];exact uf.mk J (Below.refl _ _)
 have aoB:((la.length:Int) !=lb.length)=false:=az;go_enter func25,ntmps25;go_wp2_with fail;go_loopw[5] (fun iv wr=>∃k:Nat,k<=la.length/\iv= .int .i64 k/\(∀i (U:i<k) (X:i<la.length) (h3:i<lb.length),la[i]=lb[i])/\al w wr) (fun iv _=>la.length-(intOf iv).toNat)
 case atStart=>exact⟨0,Nat.zero_le _,J,fun i h=>absurd h I,Below.refl _ _⟩
 obtain⟨k,O,rfl,he,hW⟩:=hrel;have HE:=Y he;clear he;by_cases Hh:k<la.length
 case pos=>
  have tQ:(k:Int)<la.length:=I;have af8:k<lb.length:=I;obtain⟨ba,oa,hA1,la1,xa⟩:=hA.2 I;obtain⟨bb,ob,hB1,lb1,xb⟩:=hB.2 I;subst hA1 hB1;have ra:=xa k Hh;have rb:=xb k af8;have ia:=hA.1 _ (List.getElem_mem Hh);have ib:=hB.1 _ (List.getElem_mem af8);have HD:Hid (la[k]≠lb[k]->la≠lb):=Y (fun h=>acq Hh af8 h);have HY:Hid (la[k]=lb[k]->∀i (U:i<k+1) (X:i<la.length) (h3:i<lb.length),la[i]=lb[i]):=Y (fun h i U X h3=>by
   by_cases hik:i<k
   ·exact HE.out i hik X h3
   ·
    obtain rfl:i=k:=I;exact h)
  clear xa xb HE;generalize la[k]=x at*;generalize lb[k]=y at*;go_wp2_with fail;refine xz (by kernel_rfl) (by kernel_rfl) ?_
  (refine tW (v:=(.slice (some ⟨ba,oa,none⟩) la.length ca)) J (fun W hW=>by first|(go_simp;done)|(go_simp;omega)) ?_;simp only[z])
  (refine tW (v:=(.int .i64 k)) J (fun W hW=>by first|(go_simp;done)|(go_simp;omega)) ?_;simp only[z])
  refine tW (v:=.pointer (some ⟨ba,oa+k*21,none⟩)) J (fun W hW=>yA underlying34 Kg I (.tmp 17) (.tmp 18) J J J Hh W) ?_;simp only[z];refine vr (v:=.agg (Ft x).toArray) 97 (.tmp 19) J ⟨ba,oa+k*21,none⟩ J J (fun V hV=>yo (tX (tX ra hW la1) hV (Nat.lt_of_lt_of_le la1 hW.size)) underlying97 J (by rw[Cy ia];exact Kg)) ?_;simp only[z]
  (refine tW (v:=(.slice (some ⟨bb,ob,none⟩) lb.length cb)) J (fun W hW=>by first|(go_simp;done)|(go_simp;omega)) ?_;simp only[z])
  (refine tW (v:=(.int .i64 k)) J (fun W hW=>by first|(go_simp;done)|(go_simp;omega)) ?_;simp only[z])
  refine tW (v:=.pointer (some ⟨bb,ob+k*21,none⟩)) J (fun W hW=>yA underlying34 Kg I (.tmp 21) (.tmp 22) J J J af8 W) ?_;simp only[z];refine vr (v:=.agg (Ft y).toArray) 97 (.tmp 23) J ⟨bb,ob+k*21,none⟩ J J (fun V hV=>yo (tX (tX rb hW lb1) hV (Nat.lt_of_lt_of_le lb1 hW.size)) underlying97 J (by rw[Cy ib];exact Kg)) ?_;simp only[z];refine tW (v:=.bool (!decide (x=y))) J (fun W hW=>UP (.tmp 20) (.tmp 24) J J J ia ib W) ?_;simp only[z];refine wpQuiet_nil ?_;intro w4 hB4;have HW:=tL hW hW.size hB4;clear hW hB4 ra rb;by_cases hxy:x=y
  case neg=>have hn:=HD.out hxy;have hR2:Hid (R=false):=Y (by rw[<-hR.out];exact decide_eq_false hn);rw[decide_eq_false hxy];clear hxy hn hR HD HY;go_wp2_with fail;go_ret;rw[hR2.out];exact uf.mk J HW
  have hy:=HY.out hxy;have HE:=Y hy;rw[decide_eq_true hxy];clear hxy hy HD HY;go_wp2_with fail;go_roundw
  case rel=>exact⟨k+1,I,fU,HE.out,HW⟩
  case measure=>simp[intOf];omega
 obtain rfl:k=la.length:=I;have tQ:¬(la.length:Int)<la.length:=I;have hR2:Hid (R=true):=Y (by
  rw[<-hR.out];exact decide_eq_true (List.ext_getElem hll (fun i U X=>HE.out i U U X)))
 clear HE hR;go_wp2_with fail;go_ret;rw[hR2.out];exact uf.mk J hW
end Go.Proofs.YthnbcmlnpdabhaaGreat
