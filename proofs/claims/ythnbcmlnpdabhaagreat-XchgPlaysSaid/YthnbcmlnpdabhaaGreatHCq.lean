/-
  Layer 13 (rdata):name,getTarget,getAddr,getSRV.
-/
import Derived.Test.YthnbcmlnpdabhaaGreatHAq
namespace Go.Proofs.YthnbcmlnpdabhaaGreat
open _root_.Go.Proofs.Tryz
set_option maxHeartbeats 8000000
open Go.RowKit
set_option maxRecDepth 100000
set_option linter.unusedVariables false
set_option linter.unusedSimpArgs false
variable {m:List UInt8} {a:Nat} {w:World}
def nE(o:GO):Int:=if Xe o=1 then 5 else Xe o
def Wi(o:GO)(w:World)(e:Ending)(w':World):Prop:=
 ∃v,e= .returned (.tuple #[v,.int .i64 (goB o),.int .i64 (nE o)])/\wO w' v (goN o)/\al w w'
theorem Oj(m:List UInt8)(a:Nat)(w:World)(hl:m.length<=4000000):Calls prog 262 #[.string (bs m),.int .i64 a] w (Wi (Ch m a) w):=by
 have agc:=Y (VX m a w hl);generalize Ch m a=o at*;have hE:Hid (nE o=if Xe o=1 then 5 else Xe o):=nL;unfold Dw at agc;unfold Wi;generalize nE o=y at*;generalize Xe o=x at*;generalize goB o=b at*;go_enter func262,ntmps262;exact qd
theorem LY{l:List (List UInt8)}{n:Nat}(h:Ch m a= .ok l n)(w:World)(hl:m.length<=4000000):
  Calls prog 262 #[.string (bs m),.int .i64 a] w (fun e w'=>∃v,e= .returned (.tuple #[v,.int .i64 (n:Int),.int .i64 0])/\wO w' v l/\al w w'):=by
 have:=Oj m a w hl;exact tU
theorem L7{x:Int}(h:Ch m a= .err x)(w:World)(hl:m.length<=4000000):
  Calls prog 262 #[.string (bs m),.int .i64 a] w (fun e w'=>∃v,e= .returned (.tuple #[v,.int .i64 0,.int .i64 (if x=1 then 5 else x)])/\wO w' v []/\al w w'):=by
 have:=Oj m a w hl;exact tU
def adk(g:Nat)(L:List Value)(o:Except Int (List (List UInt8)))(w:World)(e:Ending)(w':World):Prop:=
 match o with
 | .error x=>x≠0/\e= .returned (.int .i64 x)/\F w' g 119 L/\w.grownBy w' (some g)
 | .ok l=>∃v,e= .returned (.int .i64 0)/\F w' g 119 (L.set 22 v)/\AB w' v l/\w.grownBy w' (some g)
theorem Ha(g:Nat)(L:List Value)(s:List UInt8)(a:Nat)(w:World)(Z:F w g 119 L)(hl:L.length=33)(hs:s.length<=4000000):
  Calls prog 257 #[.pointer (some ⟨g,0,none⟩),.string (bs s),.int .i64 a] w (adk g L (xF s a) w):=by
 have hg:=Z.lt;rcases yI s a with⟨l,n,U,X,h3,h4,h5⟩|⟨x,U,X,h3,h4⟩
 ·
  have ae:=Y (LY U w hs);unfold xF;rw[X];clear U X;by_cases hn:n=s.length
  ·subst hn;simp only[if_true];go_enter func257,ntmps257;go_wp2_with fail;refine ae.out.mono ?_;rintro _ w1 ⟨v,rfl,hT,hB⟩;have B1:=Z.G hB hg;obtain⟨A,c,hv,-,-⟩:=hT.form;subst hv;clear ae hs;go_wp2_with(refine ur (.store 26 (.tmp 27) (.tmp 25)) J (af J g 22 _ B1 I vO ?_));intro w2 hb2 hg2 hs2;have hT2:=AB.mk' (hT.grown hg2 B1 az) h4 h5;clear hT;go_wp2_with fail;go_ret;exact⟨_,J,hb2,hT2,uC (uM hB _) hg2 (.inl J)⟩
  ·have hn':((n:Int) !=(s.length:Int))=true:=aA;simp only[hn,if_false];clear hn h3;go_enter func257,ntmps257;go_wp2_with fail;refine ae.out.mono ?_;rintro _ w1 ⟨v,rfl,hT,hB⟩;go_wp2_with fail;go_ret;exact⟨az,J,Z.G hB hg,uM hB _⟩
 ·have ae:=Y (L7 U w hs);unfold xF;rw[X];generalize(if x=1 then 5 else x)=y at*;have hy:=h4.nz;clear U X h3;go_enter func257,ntmps257;go_wp2_with fail;refine ae.out.mono ?_;rintro _ w1 ⟨v,rfl,hT,hB⟩;go_wp2_with fail;go_ret;exact⟨h4.ne,J,Z.G hB hg,uM hB _⟩
theorem PQ{a:World}{g:Nat}(h:a.grownBy w (some g))(ds:Array Value):a.grownBy (w.setRow g ds) (some g):=
 uC h ⟨J,J,J,ap,fun k z hne=>setRow_other _ _ _ _ (fun e=>hne (by rw[e]))⟩ (.inl J)
theorem Sn(w:World){ops:Array Oper}{rest:List Oper}{o:Oper}{a:Act}{Q:Exit->Act->World->Prop}(hgd:o.guard=none)(d x:Operand)
  (ho:o.op= .call {callee:=.builtin .copy,args:= #[d,x],argTypes:= #[145,9]}) (g off len cap:Nat) (hd:a.eval d= .slice (some ⟨g,off,none⟩) len cap) (s:List UInt8) (hx:a.eval x= .string (bs s))
  {t:TypeId} {L:List Value} (Z:F w g t L) (hle:s.length<=len) (apH:off+s.length<=L.length)
  (h:∀w',F w' g t (L.take off++vT s++L.drop (off+s.length))->w.grownBy w' (some g)->wpList prog ops Q rest (a.put o.dst (.int .i64 s.length)) w'):wpList prog ops Q (o::rest) a w:=by
 refine wpList_plain hgd fun hb hK=>?_
 have hr:=Lib.run_copy_row_string (P:=prog) w 145 9 o.type 5 g off len cap (bs s) L.toArray t underlying145 byteSize Z (by simpa using hle) (by simpa using apH);have e:Lib.byteCells (bs s).data.toList=vT s:=by simp[bs,Lib.byteCells,vT]
 rw[e,xK]at hr;unfold Oper.wp execOp;simp only[ho,resolve,invoke,builtin,Sem.run_bind,Sem.run_pure,Result.andThen_ok,List.map_toArray,List.map_cons,List.map_nil,hd,hx,hr];exact hK _ _ (h _ (Hg Z _) (PQ (World.grownBy.refl _ _) _))
def Nj(fam:Int)(d:List UInt8):RR:={RR.zero with ad:=⟨fam,d++List.replicate (16-d.length) 0,0⟩}
theorem Xw(fam:Int)(d:List UInt8)(hd:d.length=4\/d.length=16):
  (wm.set 4 (.int .i64 fam)).take 5++vT d++(wm.set 4 (.int .i64 fam)).drop (5+d.length)=vX uz uz uz (Nj fam d):=by
 rcases hd with hd|hd
 ·
  have:Nj fam d={RR.zero with ad:=⟨fam,d++List.replicate 12 0,0⟩}:=by unfold Nj;rw[hd]
  exact sM
 ·
  have:Nj fam d={RR.zero with ad:=⟨fam,d++List.replicate 0 0,0⟩}:=by unfold Nj;rw[hd]
  exact sM
def ae5(g:Nat)(L:List Value)(w:World)(e:Ending)(w':World):Prop:=e= .returned (.int .i64 0)/\F w' g 119 L/\w.grownBy w' (some g)
theorem UX(g:Nat)(d:List UInt8)(fam:Int)(w:World)(Z:F w g 119 wm)(hd:d.length=4\/d.length=16):
  Calls prog 256 #[.pointer (some ⟨g,0,none⟩),.string (bs d),.int .i64 d.length,.int .i64 fam] w (ae5 g (vX uz uz uz (Nj fam d)) w):=by
 have hl:=FM;have RC:=Y (Xw fam d hd);have ayn:d.length<=16:=I;generalize vX uz uz uz (Nj fam d)=L1 at*;generalize wm=L at*;go_enter func256,ntmps256;go_wp2_with(refine ur (.store 3 (.tmp 17) (.tmp 14)) J (af J g 4 _ Z I uZ ?_));intro w1 hb1 hg1 hs1;have hl1:(L.set 4 (.int .i64 fam)).length=33:=by simpa using hl
 go_wp2_with(refine ur (.call {callee:=.builtin .copy,args:= #[.tmp 22,.tmp 23],argTypes:= #[145,9]}) J ?_;go_must(refine Sn _ J (.tmp 22) (.tmp 23) J g 5 16 16 J d J hb1 ayn I ?_));intro w2 hb2 hg2;rw[<-List.append_assoc,RC.out]at hb2;go_wp2_with fail;go_ret;exact⟨J,hb2,uC hg1 hg2 (.inl J)⟩
theorem Md(g:Nat)(d:List UInt8)(wd:Nat)(fam:Int)(w:World)(hd:d.length≠wd):
  Calls prog 256 #[.pointer (some ⟨g,0,none⟩),.string (bs d),.int .i64 wd,.int .i64 fam] w (xX (.int .i64 5) w):=by
 have hd':((d.length:Int) !=(wd:Int))=true:=aA;clear hd;go_enter func256,ntmps256;exact pv
theorem Xx(l:List UInt8)(h:l.length<6):yQ (yZ (yZ l false 2) (yQ l false 2) 2) (yQ (yZ l false 2) (yQ l false 2) 2) 2=true:=by
 by_cases U:l.length<2
 ·simp[yQ,yZ,U]
 ·
  by_cases X:l.length-2<2
  ·simp[yQ,yZ,U,X]
  ·simp[yQ,yZ,U,X];omega
theorem ZX(l:List UInt8)(h:6<=l.length):yQ l false 2=false/\yZ l false 2=l.drop 2/\zP l false 2=l.take 2/\yQ (l.drop 2) false 2=false/\yZ (l.drop 2) false 2=l.drop 4/\zP (l.drop 2) false 2=(l.drop 2).take 2/\yQ (l.drop 4) false 2=false/\yZ (l.drop 4) false 2=l.drop 6/\zP (l.drop 4) false 2=(l.drop 4).take 2:=by
 have U:¬l.length<2:=I;have X:¬l.length-2<2:=I;have h3:¬l.length-4<2:=I;simp[yQ,yZ,zP,U,X,h3]
theorem Ok(l:List UInt8)(b:Bool)(n:Int):(yZ l b n).length<=l.length:=by unfold yZ;split<;>simp
def Xy(L:List Value)(a b c:Int):List Value:=((L.set 24 (.int .i64 a)).set 25 (.int .i64 b)).set 26 (.int .i64 c)
structure Nxt (d:List UInt8) (sh:Bool) (n:Nat) (d':List UInt8) (sh':Bool):Prop where
 hn:n=vw (zP d sh 2)
 hd:d'=yZ d sh 2
 hs:sh'=yQ d sh 2
theorem Gj(gy:Nat)(d:List UInt8)(sh:Bool)(w:World)(h:AR w gy d sh)(hm:d.length<=maxLen):
  Calls prog 177 #[.pointer (some ⟨gy,0,none⟩),.int .i64 2] w (fun e w'=>∃n d' sh',e= .returned (.int .i64 (n:Nat))/\Hid (Nxt d sh n d' sh')/\Hid (d'.length<=maxLen)/\AR w' gy d' sh'/\w.grownBy w' (some gy)):=by
 refine(Ky gy d sh 2 w h hm).mono ?_;rintro _ w' ⟨rfl,U,X⟩;exact⟨_,_,_,J,Y ⟨J,J,J⟩,Y (Nat.le_trans (Ok _ _ _) hm),U,X⟩
theorem PR(g:Nat)(L:List Value)(s:List UInt8)(a:Nat)(w:World)(Z:F w g 119 L)(hl:L.length=33)(ha:a<=s.length)(hn:s.length<a+6)(hs0:s.length<=4000000):
  Calls prog 258 #[.pointer (some ⟨g,0,none⟩),.string (bs s),.int .i64 a] w (fun e w'=>e= .returned (.int .i64 5)/\w.grownBy w' (some g)):=by
 have aeH:=Y (Xx (s.drop a) aA);have hgl:=Z.lt;have ha':(a:Int)<=s.length:=I;have hm:(s.drop a).length<=maxLen:=lZ;clear hs0;go_enter func258,ntmps258;go_wp2_with fail;refine(Eg (s.drop a) w).mono ?_;rintro _ w1 ⟨rfl,e1,b1⟩;have B1:=Z.G b1 Z.lt;have G1:=uM b1 (some g);have hgn:w.heap.size≠g:=I;obtain⟨gy,hgy⟩:∃gy,gy=w.heap.size:=gG;rw[<-hgy]at e1 hgn⊢;replace hgy:w.heap.size<=gy:=I;generalize hd0:s.drop a=d0 at*;clear hd0;have HM:=Y hm;clear hm;go_wp2_with fail;refine(Gj gy d0 false w1 e1 HM.out).mono ?_;rintro _ w2 ⟨n1,d1,s1,rfl,x1,m1,e2,g2⟩;have B2:=B1.grown g2 bV;have G2:=uC G1 g2 (.inr (fun k z=>by injection z with z;omega));clear e1 b1 B1 G1 g2;go_wp2_with fail;refine(Gj gy d1 s1 w2 e2 m1.out).mono ?_;rintro _ w3 ⟨n2,d2,s2,rfl,x2,m2,e3,g3⟩;have B3:=B2.grown g3 bV;have G3:=uC G2 g3 (.inr (fun k z=>by injection z with z;omega));clear e2 B2 G2 g3;go_wp2_with fail;refine(Gj gy d2 s2 w3 e3 m2.out).mono ?_;rintro _ w4 ⟨n3,d3,s3,rfl,x3,m3,e4,g4⟩;have B4:=B3.grown g4 bV;have G4:=uC G3 g4 (.inr (fun k z=>by injection z with z;omega));clear e3 B3 G3 g4;obtain rfl:s3=true:=by rw[x3.out.hs,x2.out.hd,x2.out.hs,x1.out.hd,x1.out.hs];exact aeH.out
 clear aeH x1 x2 x3;go_wp2_with(refine ur (.store 3 (.tmp 22) (.tmp 16)) J (af J g 24 _ B4 I uZ ?_));intro w5 B5 g5 _;have E5:=e4.grown g5 bX;have G5:=uC G4 g5 (.inl J);clear B4 G4 g5 e4;go_wp2_with(refine ur (.store 3 (.tmp 24) (.tmp 18)) J (af J g 25 _ B5 bY uZ ?_));intro w6 B6 g6 _;have E6:=E5.grown g6 bX;have G6:=uC G5 g6 (.inl J);clear B5 G5 g6 E5;go_wp2_with(refine ur (.store 3 (.tmp 26) (.tmp 20)) J (af J g 26 _ B6 bY uZ ?_));intro w7 B7 g7 _;have E7:=E6.grown g7 bX;have G7:=uC G6 g7 (.inl J);clear B6 G6 g7 E6;go_wp2_with fail;refine(Ic gy d3 true w7 E7).mono ?_;rintro _ w8 ⟨rfl,rfl⟩;simp only[if_true];go_wp2_with fail;go_ret;exact⟨J,G7⟩
theorem So(g:Nat)(L:List Value)(s:List UInt8)(a:Nat)(w:World)(Z:F w g 119 L)(hl:L.length=33)(ha:a<=s.length)(hn:a+6<=s.length)(hs0:s.length<=4000000):
  Calls prog 258 #[.pointer (some ⟨g,0,none⟩),.string (bs s),.int .i64 a] w (fun e w'=>∃w1,w.grownBy w1 (some g)/\adk g (Xy L (vw ((s.drop a).take 2)) (vw (((s.drop a).drop 2).take 2)) (vw (((s.drop a).drop 4).take 2))) (xF s (a+6)) w1 e w'):=by
 have aeH:=Y (ZX (s.drop a) aA);have hdl:((s.drop a).drop 6).length=s.length-(a+6):=by rw[List.drop_drop,List.length_drop]
 have hgl:=Z.lt;have ha':(a:Int)<=s.length:=I;have hm:(s.drop a).length<=maxLen:=lZ;have hs:=Y hs0;clear hs0;go_enter func258,ntmps258;go_wp2_with fail;refine(Eg (s.drop a) w).mono ?_;rintro _ w1 ⟨rfl,e1,b1⟩;have B1:=Z.G b1 Z.lt;have G1:=uM b1 (some g);have hgn:w.heap.size≠g:=I;obtain⟨gy,hgy⟩:∃gy,gy=w.heap.size:=gG;rw[<-hgy]at e1 hgn⊢;replace hgy:w.heap.size<=gy:=I;generalize hd0:s.drop a=d0 at*;have HD:=Y hd0;clear hd0;have HM:=Y hm;clear hm;go_wp2_with fail;refine(Gj gy d0 false w1 e1 HM.out).mono ?_;rintro _ w2 ⟨n1,d1,s1,rfl,x1,m1,e2,g2⟩;have B2:=B1.grown g2 bV;have G2:=uC G1 g2 (.inr (fun k z=>by injection z with z;omega));clear e1 b1 B1 G1 g2;go_wp2_with fail;refine(Gj gy d1 s1 w2 e2 m1.out).mono ?_;rintro _ w3 ⟨n2,d2,s2,rfl,x2,m2,e3,g3⟩;have B3:=B2.grown g3 bV;have G3:=uC G2 g3 (.inr (fun k z=>by injection z with z;omega));clear e2 B2 G2 g3;go_wp2_with fail;refine(Gj gy d2 s2 w3 e3 m2.out).mono ?_;rintro _ w4 ⟨n3,d3,s3,rfl,x3,m3,e4,g4⟩;have B4:=B3.grown g4 bV;have G4:=uC G3 g4 (.inr (fun k z=>by injection z with z;omega));clear e3 B3 G3 g4;obtain⟨U,X,h3,h4,h5,h6,h7,h8,h9⟩:=aeH.out;obtain rfl:s1=false:=by rw[x1.out.hs];exact U
 obtain rfl:d1=d0.drop 2:=by rw[x1.out.hd];exact X
 obtain rfl:s2=false:=by rw[x2.out.hs];exact h4
 obtain rfl:d2=d0.drop 4:=by rw[x2.out.hd];exact h5
 obtain rfl:s3=false:=by rw[x3.out.hs];exact h7
 have hd3:d3=d0.drop 6:=by rw[x3.out.hd];exact h8
 have q1:=x1.out.hn;have q2:=x2.out.hn;have q3:=x3.out.hn;rw[h3]at q1;rw[h6]at q2;rw[h9]at q3;rw[<-hd3]at hdl;have Q1:=Y q1;have Q2:=Y q2;have Q3:=Y q3;clear aeH x1 x2 x3 U X h3 h4 h5 h6 h7 h8 h9 q1 q2 q3 hd3;go_wp2_with(refine ur (.store 3 (.tmp 22) (.tmp 16)) J (af J g 24 _ B4 I uZ ?_));intro w5 B5 g5 _;have E5:=e4.grown g5 bX;have G5:=uC G4 g5 (.inl J);clear B4 G4 g5 e4;go_wp2_with(refine ur (.store 3 (.tmp 24) (.tmp 18)) J (af J g 25 _ B5 bY uZ ?_));intro w6 B6 g6 _;have E6:=E5.grown g6 bX;have G6:=uC G5 g6 (.inl J);clear B5 G5 g6 E5;go_wp2_with(refine ur (.store 3 (.tmp 26) (.tmp 20)) J (af J g 26 _ B6 bY uZ ?_));intro w7 B7 g7 _;have E7:=E6.grown g7 bX;have G7:=uC G6 g7 (.inl J);clear B6 G6 g7 E6;replace B7:F w7 g 119 (Xy L n1 n2 n3):=B7;have hsl:(Xy L n1 n2 n3).length=33:=by simpa[Xy]using hl
 have T:=Y (Ha g (Xy L n1 n2 n3) s (a+6) w7 B7 hsl hs.out);have hla:Hid (wrap64 ((s.length:Int)-(d3.length:Int))=((a+6:Nat):Int)):=Y (by have:=hs.out;rw[IntWalk.wrap64_in _ I];omega);clear hdl;go_wp2_with fail;refine(Ic gy d3 false w7 E7).mono ?_;rintro _ w8 ⟨rfl,rfl⟩;go_wp2_with fail;refine(KS gy d3 false w7 E7).mono ?_;rintro _ w8 ⟨rfl,rfl⟩;cases ht:xF s (a+6)with
 |error x=>rw[ht]at T;go_wp2_with fail;rw[hla.out];refine T.out.mono ?_;rintro _ w8 ⟨hx,rfl,hT⟩;go_wp2_with fail;go_ret;refine⟨w7,G7,?_⟩;rw[HD.out,<-Q1.out,<-Q2.out,<-Q3.out,ht];exact⟨hx,J,hT⟩
 |ok l=>rw[ht]at T;go_wp2_with fail;rw[hla.out];refine T.out.mono ?_;rintro _ w8 ⟨v,rfl,hT⟩;go_wp2_with fail;go_ret;refine⟨w7,G7,?_⟩;rw[HD.out,<-Q1.out,<-Q2.out,<-Q3.out,ht];exact⟨v,J,hT⟩
def zM(d:List UInt8):Nat->List UInt8×Bool
 |0=>(d,false)
 |k+1=>(yZ (zM d k).1 (zM d k).2 4,yQ (zM d k).1 (zM d k).2 4)
def Nq(d:List UInt8)(k:Nat):Int:=vw (zP (zM d k).1 (zM d k).2 4)
theorem Sp(d:List UInt8):∀k,(zM d k).1.length<=d.length
 |0=>Nat.le_refl _
 |k+1=>Nat.le_trans (Ok _ _ _) (Sp d k)
def Nr(d:List UInt8)(L:List Value)(k:Nat):List Value:=L.take 27++vi ((List.range k).map (Nq d))++L.drop (27+k)
theorem Sq(d:List UInt8)(L:List Value)(k:Nat)(hl:L.length=33)(z:k<=5):(Nr d L k).length=33:=by
 simp[Nr,vi,hl];omega
theorem Xz(d:List UInt8)(L:List Value):Nr d L 0=L:=by simp[Nr,vi]
theorem XA(d:List UInt8)(L:List Value)(k:Nat)(hl:L.length=33)(z:k<5):(Nr d L k).set (27+k) (.int .i64 (Nq d k))=Nr d L (k+1):=by
 have U:(L.take 27).length=27:=nR;have X:(vi ((List.range k).map (Nq d))).length=k:=by simp[vi]
 have h3:L.drop (27+k)=L[27+k]'I::L.drop (27+(k+1)):=mw;unfold Nr;rw[List.append_assoc,List.set_append_right (h:=by omega),U,Nat.add_sub_cancel_left,List.set_append_right (h:=by omega),X,Nat.sub_self,h3,List.set_cons_zero];simp[vi,List.range_succ,List.append_assoc]
theorem Me(d:List UInt8)(hd:d.length=20):∀k,k<=5->zM d k=(d.drop (4*k),false)
 |0,_=>rfl
 |k+1,z=>by
  rw[zM,Me d hd k I];have h:¬(d.drop (4*k)).length<4:=aA;simp[yZ,yQ,h,Nat.mul_succ];omega
theorem XD(d:List UInt8)(hd:d.length=20)(k:Nat)(z:k<5):Nq d k=vw ((d.drop (4*k)).take 4):=by
 unfold Nq;rw[Me d hd k I];have h:¬(d.length-4*k)<4:=I;simp[zP,h]
theorem ZY(d:List UInt8)(hd:d.length=20):WV (zM d 5).1 (zM d 5).2=0:=by
 rw[Me d hd 5 I];have:d.drop 20=[]:=List.drop_of_length_le I;simp[WV,this]
theorem Ss(d:List UInt8):∀k,(zM d k).2=true\/((zM d k).2=false/\(zM d k).1.length+4*k=d.length)
 |0=>.inr ⟨J,by simp[zM]⟩
 |k+1=>by
  rcases Ss d k with h|⟨h,hl⟩
  ·exact .inl (by simp[zM,yQ,h])
  ·
   by_cases h4:(zM d k).1.length<4
   ·exact .inl (by simp[zM,yQ,h4])
   ·refine .inr ⟨by simp[zM,yQ,h,h4],?_⟩;simp[zM,yZ,h,h4];omega
theorem ab3(d:List UInt8)(hd:d.length≠20):WV (zM d 5).1 (zM d 5).2≠0:=by
 unfold WV;rcases Ss d 5 with h|⟨h,hl⟩
 ·simp[h]
 ·
  have:(zM d 5).1≠[]:=by intro e;rw[e]at hl;simp at hl;omega
  simp[h,this]
theorem XE(s:List UInt8)(p:Nat)(h:p+20=s.length):(List.range 5).map (Nq (s.drop p))=zL s p:=by
 have hd:(s.drop p).length=20:=aA;have e:∀k,k<5->Nq (s.drop p) k=vw ((s.drop (p+4*k)).take 4):=fun k z=>by rw[XD _ hd k z,List.drop_drop]
 simp only[List.range,List.range.loop,List.map_cons,List.map_nil];rw[e 0 I,e 1 I,e 2 I,e 3 I,e 4 I];rfl
def CQ(g:Nat)(s:List UInt8)(a:Nat)(w:World)(e:Ending)(w':World):Prop:=
 match zC s a with
 | .error x=>x≠0/\e= .returned (.int .i64 x)/\w.grownBy w' (some g)
 | .ok (l,p)=>match zC s p with
  | .error x=>x≠0/\e= .returned (.int .i64 x)/\w.grownBy w' (some g)
  | .ok (l',q)=>if q+20=s.length then ∃v v',e= .returned (.int .i64 0)/\F w' g 119 (vX uz v v' {RR.zero with tg:=l,ml:=l',Hh:=zL s q})/\AB w' v l/\AB w' v' l'/\w.grownBy w' (some g)
   else e= .returned (.int .i64 5)/\w.grownBy w' (some g)
theorem XF(v v':Value)(d:List UInt8)(r:RR)(hr:r={RR.zero with Hh:=(List.range 5).map (Nq d)}):((Nr d wm 5).set 22 v).set 23 v'=vX uz v v' r:=by subst hr;rfl
theorem UY(g:Nat)(s:List UInt8)(a:Nat)(w:World)(Z:F w g 119 wm)(ha:a<=s.length)(hs:s.length<=4000000):
  Calls prog 259 #[.pointer (some ⟨g,0,none⟩),.string (bs s),.int .i64 a] w (CQ g s a w):=by
 have hgl:=Z.lt;have hl:wm.length=33:=jV;rcases yI s a with⟨l,p,U,X,h3,h4,h5⟩|⟨x,U,X,h3,h4⟩
 case inr=>have ae:=Y (L7 U w hs);have FIN:Hid (∀w',al w w'->CQ g s a w (.returned (.int .i64 (if x=1 then 5 else x))) w'):=Y (fun w' hB=>by unfold CQ;rw[X];exact⟨h4.ne,J,uM hB _⟩);generalize(if x=1 then 5 else x)=y at*;have hy:=h4.nz;clear U X h3 Z;go_enter func259,ntmps259;go_wp2_with fail;refine ae.out.mono ?_;rintro _ w1 ⟨v,rfl,hT,hB⟩;go_wp2_with fail;go_ret;exact FIN.out _ hB
 have ae:=Y (LY U w hs);rcases yI s p with⟨l',q,k1,k2,k3,k4,k5⟩|⟨x,k1,k2,k3,k4⟩
 case inr=>have ul:=Y (fun w=>L7 k1 w hs);have FIN:Hid (∀w',al w w'->CQ g s a w (.returned (.int .i64 (if x=1 then 5 else x))) w'):=Y (fun w' hB=>by unfold CQ;rw[X];simp only;rw[k2];exact⟨k4.ne,J,uM hB _⟩);generalize(if x=1 then 5 else x)=y at*;have hy:=k4.nz;clear U X h3 k1 k2 k3 Z;go_enter func259,ntmps259;go_wp2_with fail;refine ae.out.mono ?_;rintro _ w1 ⟨v,rfl,hT,hB⟩;go_wp2_with fail;refine(ul.out _).mono ?_;rintro _ w2 ⟨v',rfl,hT',hB'⟩;go_wp2_with fail;go_ret;exact FIN.out _ (um hB hB.size hB')
 have ul:=Y (fun w=>LY k1 w hs);have FB:Hid (q+20≠s.length->∀w',w.grownBy w' (some g)->CQ g s a w (.returned (.int .i64 5)) w'):=Y (fun hq w' hB=>by unfold CQ;rw[X];simp only;rw[k2];simp only;rw[if_neg hq];exact⟨trivial,hB⟩);have FG:Hid (q+20=s.length->∀w' v v',F w' g 119 (((Nr (s.drop q) wm 5).set 22 v).set 23 v')->AB w' v l->AB w' v' l'->w.grownBy w' (some g)->CQ g s a w (.returned (.int .i64 0)) w'):=Y (fun hq w' v v' Z n1 n2 hB=>by
  unfold CQ;rw[X];simp only;rw[k2];simp only;rw[if_pos hq];rw[XF v v' _ _ J,XE s q hq]at Z;exact⟨v,v',trivial,Z,n1,n2,hB⟩)
 have hq':(q:Int)<=s.length:=I;have hdl:(s.drop q).length<=maxLen:=lZ;have hdq:(s.drop q).length=20↔q+20=s.length:=aA;clear U X h3 k1 k2 k3;go_enter func259,ntmps259;go_wp2_with fail;refine ae.out.mono ?_;rintro _ w1 ⟨v,rfl,hT,hB⟩;have B1:=Z.G hB hgl;have X1:=AB.mk' hT h4 h5;obtain⟨A,c,hv,-⟩:=X1.form;clear ae hT;go_wp2_with fail;refine(ul.out _).mono ?_;rintro _ w2 ⟨v',rfl,hT',hB'⟩;have B2:=B1.G hB' B1.lt;have X2:=AB.mk' hT' k4 k5;replace X1:=X1.uH (uK.G hB');have ty:=um hB hB.size hB';obtain⟨A',c',hv',-⟩:=X2.form;subst hv;subst hv';clear ul hT' hB hB' B1;go_wp2_with fail;refine(Eg (s.drop q) w2).mono ?_;rintro _ w3 ⟨rfl,e3,b3⟩;have B3:=B2.G b3 B2.lt;replace X1:=X1.uH (uK.G b3);replace X2:=X2.uH (uK.G b3);have G3:w.grownBy w3 (some g):=uM (um ty ty.size b3) _;have hgy:w.heap.size<=w2.heap.size:=ty.size;have hgn:w2.heap.size≠g:=I;generalize w2.heap.size=gy at*;generalize s.drop q=d at*;clear B2 ty b3;go_wp2_with fail;go_loopw[36] (fun iv wr=>∃k:Nat,k<=5/\iv= .int .i64 k/\AR wr gy (zM d k).1 (zM d k).2/\F wr g 119 (Nr d wm k)/\w.grownBy wr (some g)/\uK w3 wr) (fun iv _=>5-(intOf iv).toNat)
 case atStart=>exact⟨0,I,J,e3,by rw[Xz];exact B3,G3,uK.refl _⟩
 clear e3 B3 G3;obtain⟨k,z,rfl,Er,Br,Gr,Sr⟩:=hrel;by_cases aB:k<5
 case pos=>
  have h1:(k:Int)<5:=I;have hk0:(0:Int)<=k:=I;have NN:=Y (fun w' (h:AR w' gy (zM d k).1 (zM d k).2)=>Ky gy _ _ 4 w' h (Nat.le_trans (Sp d k) hdl));rw[show((hw 4:Nat):Int)=4 from J]at NN;have SL:=Y (XA d wm k hl aB);have Sl:=Sq d wm k hl z;change Hid (∀w',_->Calls prog _ _ w' (KR (.int .i64 (Nq d k)) gy (zM d (k+1)).1 (zM d (k+1)).2 w'))at NN;generalize Nq d k=nk at*;go_wp2_with fail;refine wp_region_held_drew (S:=fun _=>True) (by kernel_rfl) trivial (fun K=>?_)
  (refine ag 0 (some 39) J J (by kernel_rfl) (fun W hW=>rfl) K ?_;simp only[E])
  (refine ag 1 (some 40) J J (by kernel_rfl) (fun W hW=>rfl) K ?_;simp only[E])
  (refine ag 2 (some 41) J J (by kernel_rfl) (fun W hW=>rfl) K ?_;simp only[E])
  (refine ag 4 (some 43) J J (by kernel_rfl) (fun W hW=>rfl) K ?_;simp only[E])
  (refine ag 5 (some 44) J J (by kernel_rfl) (fun W hW=>rfl) K ?_;simp only[E])
  refine uO 3 (by kernel_rfl) ?_;refine wG 3 (some 42) 177 #[.pointer (some ⟨gy,0,none⟩),.int .i64 4] J J (by kernel_rfl) bp (NN.out _ Er.drew) ?_;rintro _ w4 ⟨rfl,e4,g4⟩;have B4:=(Br.drew).grown g4 bV;have G4:=uC (yv Gr) g4 (.inr (fun j hj=>by injection hj with hj;omega));have S4:uK w3 w4:=Sr.trans ((uK.G (Below.refl _ _).drew).trans (uK.vj g4 Er.drew az));refine⟨_,J,trivial,?_⟩;simp only[E];refine ag 6 (some 45) (v:=.pointer (some ⟨g,27+k,none⟩)) J J (by kernel_rfl) (fun W hW=>by go_simp) K ?_;simp only[E];refine uO 7 (by kernel_rfl) ?_;refine xS 7 3 (.tmp 45) (.tmp 42) J J J (by kernel_rfl) g (27+k) J (.int .i64 nk) J B4 I uZ J J ?_;intro w5 B5 g5 _;rw[SL.out]at B5;have E5:=e4.grown g5 bX;have G5:=uC G4 g5 (.inl J);have S5:=S4.trans (uK.vj g5 B4 az);refine⟨trivial,?_⟩;simp only[E];refine wpAnyH_done (by kernel_rfl) ?_ _;clear K B4 G4 S4 e4 g4 g5 NN SL Sl Er Br Gr Sr;go_wp2_with fail;go_roundw
  case rel=>exact⟨k+1,I,gp,E5,B5,G5,S5⟩
  case measure=>simp[intOf];omega
 obtain rfl:k=5:=I;replace X1:=X1.uH Sr;replace X2:=X2.uH Sr;clear aB z Sr;have EN:=Y (abA gy _ _ wr Er);by_cases hq:q+20=s.length
 ·rw[ZY d (hdq.2 hq)]at EN;have Sl:=Sq d wm 5 hl I;go_wp2_with fail;refine EN.out.mono ?_;rintro _ w6 ⟨rfl,rfl⟩;go_wp2_with(refine ur (.store 26 (.tmp 55) (.tmp 52)) J (af J g 22 _ Br I vO ?_));intro w7 B7 g7 _;have Y1:=X1.uH (uK.vj g7 Br az);have Y2:=X2.uH (uK.vj g7 Br az);have G7:=uC Gr g7 (.inl J);go_wp2_with(refine ur (.store 26 (.tmp 57) (.tmp 53)) J (af J g 23 _ B7 bY vO ?_));intro w8 B8 g8 _;have Z1:=Y1.uH (uK.vj g8 B7 az);have Z2:=Y2.uH (uK.vj g8 B7 az);have G8:=uC G7 g8 (.inl J);go_wp2_with fail;go_ret;exact FG.out hq _ _ _ B8 Z1 Z2 G8
 ·have hne:=ab3 d (fun h=>hq (hdq.1 h));generalize WV (zM d 5).1 (zM d 5).2=ev at*;have hev:(ev !=0)=true:=j9;go_wp2_with fail;refine EN.out.mono ?_;rintro _ w6 ⟨rfl,rfl⟩;go_wp2_with fail;go_ret;exact FB.out hq _ Gr
def GN(o:Except Int RR)(w:World)(e:Ending)(w':World):Prop:=
 match o with
 | .error x=>x≠0/\e= .returned (.tuple #[.agg wm.toArray,.int .i64 x])/\al w w'
 | .ok r=>∃cs,e= .returned (.tuple #[.agg cs.toArray,.int .i64 0])/\xv w' cs r/\al w w'
theorem ab4:wm.toArray= #[.slice none 0 0,.int .i64 0,.int .i64 0,.int .i64 0,.int .i64 0,.int .u8 0,.int .u8 0,.int .u8 0,.int .u8 0,.int .u8 0,.int .u8 0,.int .u8 0,.int .u8 0,.int .u8 0,.int .u8 0,.int .u8 0,.int .u8 0,.int .u8 0,.int .u8 0,.int .u8 0,.int .u8 0,.int .i64 0,.slice none 0 0,.slice none 0 0,.int .i64 0,.int .i64 0,.int .i64 0,.int .i64 0,.int .i64 0,.int .i64 0,.int .i64 0,.int .i64 0,.string ⟨#[]⟩]:=rfl
theorem wJ:∀v∈wm,v.oneCell'=true:=wR J J J
theorem Hz(n:Nat)(e:Int)(he:e=n)(h:a+n<=m.length):(0:Int)<=a/\0<=e/\(a:Int)<=m.length/\e<=(m.length:Int)-a/\(a:Int)+e<=m.length/\((a:Int)+e).toNat=a+n:=by subst he;omega
theorem zZ(w:World):∃W,Hid ((w.alloc (.cells #[.slice none 0 0,.int .i64 0,.int .i64 0,.int .i64 0,.int .i64 0,.int .u8 0,.int .u8 0,.int .u8 0,.int .u8 0,.int .u8 0,.int .u8 0,.int .u8 0,.int .u8 0,.int .u8 0,.int .u8 0,.int .u8 0,.int .u8 0,.int .u8 0,.int .u8 0,.int .u8 0,.int .u8 0,.int .i64 0,.slice none 0 0,.slice none 0 0,.int .i64 0,.int .i64 0,.int .i64 0,.int .i64 0,.int .i64 0,.int .i64 0,.int .i64 0,.int .i64 0,.string ⟨#[]⟩] 119)).alloc (.cells #[.slice none 0 0,.int .i64 0,.int .i64 0,.int .i64 0,.int .i64 0,.int .u8 0,.int .u8 0,.int .u8 0,.int .u8 0,.int .u8 0,.int .u8 0,.int .u8 0,.int .u8 0,.int .u8 0,.int .u8 0,.int .u8 0,.int .u8 0,.int .u8 0,.int .u8 0,.int .u8 0,.int .u8 0,.int .i64 0,.slice none 0 0,.slice none 0 0,.int .i64 0,.int .i64 0,.int .i64 0,.int .i64 0,.int .i64 0,.int .i64 0,.int .i64 0,.int .i64 0,.string ⟨#[]⟩] 119)=W)/\F W w.heap.size 119 wm/\F W (w.heap.size+1) 119 wm/\al w W/\W.heap.size=w.heap.size+1+1:=
 ⟨_,Y J,(F.new w 119 wm).alloc _,F.wE _ _ wm _ ap,((Below.refl _ _).alloc (Nat.le_refl _) _).alloc ap _,ap⟩
theorem Mf{L:List Value}{r:RR}{vn vt vm:Value}(e:L=vX vn vt vm r)(h:r.wf):L.length=33:=by rw[e];exact vA h
theorem ZZ(m:List UInt8)(a n:Nat)(O N:Int)(w:World)(hm:a+n<=m.length)(hl:m.length<=4000000)(z:uQ O N=0):
  Calls prog 251 #[.string (bs m),.int .i64 a,.int .i64 n,.int .i64 O,.int .i64 N] w (GN (.ok {RR.zero with raw:=(m.take (a+n)).drop a}) w):=by
 have hb:=Y (fun w=>wB O N w);rw[z]at hb;clear z;obtain⟨k1,k2,k3,k4,k5,hs0⟩:=Hz (m:=m) (a:=a) n n J I;obtain⟨W,HW,B10,B12,HB,hWs⟩:=zZ w;go_enter func251,ntmps251;go_wp2_with fail;rw[HW.out];refine(hb.out W).mono ?_;rintro _ w1 ⟨rfl,rfl⟩;clear hb HW;have ahb:wm.length=33:=jV;go_wp2_with(refine ur (.store 9 (.tmp 46) (.tmp 45)) J (af J (w.heap.size+1) 32 _ B12 I K9 ?_));intro w2 B2 g2 _;have A2:=B10.grown g2 ap;have ty:=uq HB g2 HB.size I;rw[List.take_take,Nat.min_self]at B2;clear B12 B10 HB g2;obtain⟨L,hL⟩:∃L,L=wm.set 32 (.string (bs ((m.take (a+n)).drop a))):=gG;rw[<-hL]at B2;replace hL:L=vX uz uz uz {RR.zero with raw:=(m.take (a+n)).drop a}:=hL;have ll:L.length=33:=Mf hL ⟨J,J⟩;have l1:Hid (∀v∈L,v.oneCell'=true):=Y bZ;have OW:Hid (∀w',uK w2 w'->xv w' L {RR.zero with raw:=(m.take (a+n)).drop a}):=js;clear hL;go_wp2_with(first
  |(refine ur (.load 119 (.tmp 12)) rfl ?_;go_must(refine uu rfl _ _ rfl (w.heap.size+1) 0 rfl B2 33 I _ underlying119 rfl uU L (wP I) ?_))
  |(refine ur (.store 119 (.tmp 10) (.tmp 79)) rfl (ab rfl w.heap.size 0 L A2 bj cf l1.out ?_)))
 exact oX
theorem St(k:Nat)(fam:Int)(hkf:(k=1/\fam=4)\/(k=28/\fam=6))(m:List UInt8)(a n:Nat)(O N:Int)(w:World)(hm:a+n<=m.length)(hl:m.length<=4000000)(z:uQ O N=k)(hn:n=if k=1 then 4 else 16):
  Calls prog 251 #[.string (bs m),.int .i64 a,.int .i64 n,.int .i64 O,.int .i64 N] w (GN (.ok (Nj fam ((m.take (a+n)).drop a))) w):=by
 have hb:=Y (fun w=>wB O N w);rw[z]at hb;clear z;have hd:((m.take (a+n)).drop a).length=n:=aA;have hd':((m.take (a+n)).drop a).length=4\/((m.take (a+n)).drop a).length=16:=by rw[hd,hn];split<;>simp
 have GA:=Y (fun g w Z=>UX g ((m.take (a+n)).drop a) fam w Z hd');rw[hd]at GA;have hwf:(Nj fam ((m.take (a+n)).drop a)).wf:=⟨by simp only[Nj,List.length_append,List.length_replicate];omega,J⟩;obtain⟨L,hL⟩:∃L,L=vX uz uz uz (Nj fam ((m.take (a+n)).drop a)):=gG;rw[<-hL]at GA;have ll:L.length=33:=jv;have l1:Hid (∀v∈L,v.oneCell'=true):=Y bZ;have OW':Hid (∀w',xv w' L (Nj fam ((m.take (a+n)).drop a))):=Y (fun w'=>⟨uz,uz,uz,hL,hwf,AB.nil _,AB.nil _,AB.nil _,by simp[Nj,RR.zero]⟩);generalize Nj fam ((m.take (a+n)).drop a)=r at*;clear hL hd hd' hwf;rcases hkf with⟨rfl,rfl⟩|⟨rfl,rfl⟩
 case inl=>
  have hn4:((n:Nat):Int)=4:=cF;rw[hn4]at GA;clear hn4 hn;obtain⟨k1,k2,k3,k4,k5,hs0⟩:=Hz (m:=m) (a:=a) n n J I;obtain⟨W,HW,B10,B12,HB,hWs⟩:=zZ w;go_enter func251,ntmps251;go_wp2_with fail;rw[HW.out];refine(hb.out W).mono ?_;rintro _ w1 ⟨rfl,rfl⟩;clear hb HW;go_wp2_with fail;rw[List.take_take,Nat.min_self];refine(GA.out (w.heap.size+1) W B12).mono ?_;rintro _ w2 ⟨rfl,B2,g2⟩;have A2:=B10.grown g2 ap;have ty:=uq HB g2 HB.size I;have OW:Hid (∀w',uK w2 w'->xv w' L r):=Y (fun w' _=>OW'.out w');clear B12 B10 HB g2 GA OW';go_wp2_with(first
   |(refine ur (.load 119 (.tmp 12)) rfl ?_;go_must(refine uu rfl _ _ rfl (w.heap.size+1) 0 rfl B2 33 I _ underlying119 rfl uU L (wP I) ?_))
   |(refine ur (.store 119 (.tmp 10) (.tmp 79)) rfl (ab rfl w.heap.size 0 L A2 bj cf l1.out ?_)))
  exact oX
 case inr=>
  have hn4:((n:Nat):Int)=16:=cF;rw[hn4]at GA;clear hn4 hn;obtain⟨k1,k2,k3,k4,k5,hs0⟩:=Hz (m:=m) (a:=a) n n J I;obtain⟨W,HW,B10,B12,HB,hWs⟩:=zZ w;go_enter func251,ntmps251;go_wp2_with fail;rw[HW.out];refine(hb.out W).mono ?_;rintro _ w1 ⟨rfl,rfl⟩;clear hb HW;go_wp2_with fail;rw[List.take_take,Nat.min_self];refine(GA.out (w.heap.size+1) W B12).mono ?_;rintro _ w2 ⟨rfl,B2,g2⟩;have A2:=B10.grown g2 ap;have ty:=uq HB g2 HB.size I;have OW:Hid (∀w',uK w2 w'->xv w' L r):=Y (fun w' _=>OW'.out w');clear B12 B10 HB g2 GA OW';go_wp2_with(first
   |(refine ur (.load 119 (.tmp 12)) rfl ?_;go_must(refine uu rfl _ _ rfl (w.heap.size+1) 0 rfl B2 33 I _ underlying119 rfl uU L (wP I) ?_))
   |(refine ur (.store 119 (.tmp 10) (.tmp 79)) rfl (ab rfl w.heap.size 0 L A2 bj cf l1.out ?_)))
  exact oX
def Fo{α β:Type}(f:α->β)(o:Except Int α):Except Int β:=match o with
 | .error e=>.error e
 | .ok x=>.ok (f x)
theorem JU(k:Nat)(hkf:k=1\/k=28)(m:List UInt8)(a n:Nat)(O N:Int)(w:World)(hm:a+n<=m.length)(hl:m.length<=4000000)(z:uQ O N=k)(hn:n≠if k=1 then 4 else 16):
  Calls prog 251 #[.string (bs m),.int .i64 a,.int .i64 n,.int .i64 O,.int .i64 N] w (GN (.error 5) w):=by
 have hb:=Y (fun w=>wB O N w);rw[z]at hb;clear z;have hd:((m.take (a+n)).drop a).length=n:=aA;have ahb:wm.length=33:=jV;have hx:(5:Int)≠0:=az;rcases hkf with rfl|rfl
 case inl=>have GA:=Y (fun g w=>Md g ((m.take (a+n)).drop a) 4 4 w cC);clear hn hd;obtain⟨k1,k2,k3,k4,k5,hs0⟩:=Hz (m:=m) (a:=a) n n J I;obtain⟨W,HW,B10,B12,HB,hWs⟩:=zZ w;go_enter func251,ntmps251;go_wp2_with fail;rw[HW.out];refine(hb.out W).mono ?_;rintro _ w1 ⟨rfl,rfl⟩;clear hb HW;go_wp2_with fail;rw[List.take_take,Nat.min_self];refine(GA.out (w.heap.size+1) W).mono ?_;rintro _ w2 ⟨rfl,rfl⟩;have A2:=B10;have ty:=HB;clear B12 B10 HB GA;go_wp2_with(refine ur (.store 119 (.tmp 10) (.tmp 77)) J (ab J w.heap.size 0 wm A2 bj cD wJ ?_));exact pc
 case inr=>have GA:=Y (fun g w=>Md g ((m.take (a+n)).drop a) 16 6 w cC);clear hn hd;obtain⟨k1,k2,k3,k4,k5,hs0⟩:=Hz (m:=m) (a:=a) n n J I;obtain⟨W,HW,B10,B12,HB,hWs⟩:=zZ w;go_enter func251,ntmps251;go_wp2_with fail;rw[HW.out];refine(hb.out W).mono ?_;rintro _ w1 ⟨rfl,rfl⟩;clear hb HW;go_wp2_with fail;rw[List.take_take,Nat.min_self];refine(GA.out (w.heap.size+1) W).mono ?_;rintro _ w2 ⟨rfl,rfl⟩;have A2:=B10;have ty:=HB;clear B12 B10 HB GA;go_wp2_with(refine ur (.store 119 (.tmp 10) (.tmp 77)) J (ab J w.heap.size 0 wm A2 bj cD wJ ?_));exact pc
theorem Ol(k:Nat)(hkf:k=5\/k=12)(m:List UInt8)(a n:Nat)(O N:Int)(w:World)(hm:a+n<=m.length)(hl:m.length<=4000000)(z:uQ O N=k)(o:Except Int (List (List UInt8)))(ho:xF (m.take (a+n)) a=o):
  Calls prog 251 #[.string (bs m),.int .i64 a,.int .i64 n,.int .i64 O,.int .i64 N] w (GN (Fo (fun l=>{RR.zero with tg:=l}) o) w):=by
 have hb:=Y (fun w=>wB O N w);rw[z]at hb;clear z;have ahb:wm.length=33:=jV;have TG:=Y (fun g w Z=>Ha g wm (m.take (a+n)) a w Z ahb aA);rw[ho]at TG;clear ho;cases o with
 |error x=>
  simp only[Fo];rcases hkf with rfl|rfl
  case inl=>obtain⟨k1,k2,k3,k4,k5,hs0⟩:=Hz (m:=m) (a:=a) n n J I;obtain⟨W,HW,B10,B12,HB,hWs⟩:=zZ w;go_enter func251,ntmps251;go_wp2_with fail;rw[HW.out];refine(hb.out W).mono ?_;rintro _ w1 ⟨rfl,rfl⟩;clear hb HW;go_wp2_with fail;refine(TG.out (w.heap.size+1) W B12).mono ?_;rintro _ w2 ⟨hx,rfl,B2,g2⟩;have hxz:(x !=0)=true:=iR;have A2:=B10.grown g2 ap;have ty:=uq HB g2 HB.size I;clear B12 B10 HB TG g2;exact pi
  case inr=>obtain⟨k1,k2,k3,k4,k5,hs0⟩:=Hz (m:=m) (a:=a) n n J I;obtain⟨W,HW,B10,B12,HB,hWs⟩:=zZ w;go_enter func251,ntmps251;go_wp2_with fail;rw[HW.out];refine(hb.out W).mono ?_;rintro _ w1 ⟨rfl,rfl⟩;clear hb HW;go_wp2_with fail;refine(TG.out (w.heap.size+1) W B12).mono ?_;rintro _ w2 ⟨hx,rfl,B2,g2⟩;have hxz:(x !=0)=true:=iR;have A2:=B10.grown g2 ap;have ty:=uq HB g2 HB.size I;clear B12 B10 HB TG g2;exact pi
 |ok l=>
  simp only[Fo];obtain⟨r,hr⟩:∃r:RR,r={RR.zero with tg:=l}:=gG;rw[<-hr];rcases hkf with rfl|rfl
  case inl=>
   obtain⟨k1,k2,k3,k4,k5,hs0⟩:=Hz (m:=m) (a:=a) n n J I;obtain⟨W,HW,B10,B12,HB,hWs⟩:=zZ w;go_enter func251,ntmps251;go_wp2_with fail;rw[HW.out];refine(hb.out W).mono ?_;rintro _ w1 ⟨rfl,rfl⟩;clear hb HW;go_wp2_with fail;refine(TG.out (w.heap.size+1) W B12).mono ?_;rintro _ w2 ⟨v,rfl,B2,nv,g2⟩;have A2:=B10.grown g2 ap;have ty:=uq HB g2 HB.size I;obtain⟨L,hL⟩:∃L,L=wm.set 22 v:=gG;rw[<-hL]at B2;replace hL:L=vX uz v uz r:=lx;have hwf:r.wf:=iT;have ll:L.length=33:=jv;have l1:Hid (∀v∈L,v.oneCell'=true):=Y cE;have OW:Hid (∀w',uK w2 w'->xv w' L r):=gS;clear hL B12 B10 HB g2 TG nv hr hwf;go_wp2_with(first
    |(refine ur (.load 119 (.tmp 12)) rfl ?_;go_must(refine uu rfl _ _ rfl (w.heap.size+1) 0 rfl B2 33 I _ underlying119 rfl uU L (wP I) ?_))
    |(refine ur (.store 119 (.tmp 10) (.tmp 79)) rfl (ab rfl w.heap.size 0 L A2 bj cf l1.out ?_)))
   exact oX
  case inr=>
   obtain⟨k1,k2,k3,k4,k5,hs0⟩:=Hz (m:=m) (a:=a) n n J I;obtain⟨W,HW,B10,B12,HB,hWs⟩:=zZ w;go_enter func251,ntmps251;go_wp2_with fail;rw[HW.out];refine(hb.out W).mono ?_;rintro _ w1 ⟨rfl,rfl⟩;clear hb HW;go_wp2_with fail;refine(TG.out (w.heap.size+1) W B12).mono ?_;rintro _ w2 ⟨v,rfl,B2,nv,g2⟩;have A2:=B10.grown g2 ap;have ty:=uq HB g2 HB.size I;obtain⟨L,hL⟩:∃L,L=wm.set 22 v:=gG;rw[<-hL]at B2;replace hL:L=vX uz v uz r:=lx;have hwf:r.wf:=iT;have ll:L.length=33:=jv;have l1:Hid (∀v∈L,v.oneCell'=true):=Y cE;have OW:Hid (∀w',uK w2 w'->xv w' L r):=gS;clear hL B12 B10 HB g2 TG nv hr hwf;go_wp2_with(first
    |(refine ur (.load 119 (.tmp 12)) rfl ?_;go_must(refine uu rfl _ _ rfl (w.heap.size+1) 0 rfl B2 33 I _ underlying119 rfl uU L (wP I) ?_))
    |(refine ur (.store 119 (.tmp 10) (.tmp 79)) rfl (ab rfl w.heap.size 0 L A2 bj cf l1.out ?_)))
   exact oX
theorem Z0(m:List UInt8)(a n:Nat)(O N:Int)(w:World)(hm:a+n<=m.length)(hl:m.length<=4000000)(z:uQ O N=33)(hn:6<=n)(o:Except Int (List (List UInt8)))(ho:xF (m.take (a+n)) (a+6)=o):
  Calls prog 251 #[.string (bs m),.int .i64 a,.int .i64 n,.int .i64 O,.int .i64 N] w (GN (Fo (fun l=>{RR.zero with pri:=vw (((m.take (a+n)).drop a).take 2),we:=vw ((((m.take (a+n)).drop a).drop 2).take 2),po:=vw ((((m.take (a+n)).drop a).drop 4).take 2),tg:=l}) o) w):=by
 have hb:=Y (fun w=>wB O N w);rw[z]at hb;clear z;have ahb:wm.length=33:=jV;have TG:=Y (fun g w Z=>So g wm (m.take (a+n)) a w Z ahb aA aA aA);rw[ho]at TG;clear ho;generalize vw (((m.take (a+n)).drop a).take 2)=n1 at*;generalize vw ((((m.take (a+n)).drop a).drop 2).take 2)=n2 at*;generalize vw ((((m.take (a+n)).drop a).drop 4).take 2)=n3 at*;cases o with
 |error x=>simp only[Fo];obtain⟨k1,k2,k3,k4,k5,hs0⟩:=Hz (m:=m) (a:=a) n n J I;obtain⟨W,HW,B10,B12,HB,hWs⟩:=zZ w;go_enter func251,ntmps251;go_wp2_with fail;rw[HW.out];refine(hb.out W).mono ?_;rintro _ w1 ⟨rfl,rfl⟩;clear hb HW;go_wp2_with fail;refine(TG.out (w.heap.size+1) W B12).mono ?_;rintro _ w2 ⟨wx,gx,hx,rfl,B2,g2'⟩;have g2:=uC gx g2' (.inl J);have hxz:(x !=0)=true:=iR;have A2:=B10.grown g2 ap;have ty:=uq HB g2 HB.size I;clear B12 B10 HB TG g2 gx g2';exact pi
 |ok l=>
  simp only[Fo];obtain⟨r,hr⟩:∃r:RR,r={RR.zero with pri:=n1,we:=n2,po:=n3,tg:=l}:=gG;rw[<-hr];obtain⟨k1,k2,k3,k4,k5,hs0⟩:=Hz (m:=m) (a:=a) n n J I;obtain⟨W,HW,B10,B12,HB,hWs⟩:=zZ w;go_enter func251,ntmps251;go_wp2_with fail;rw[HW.out];refine(hb.out W).mono ?_;rintro _ w1 ⟨rfl,rfl⟩;clear hb HW;go_wp2_with fail;refine(TG.out (w.heap.size+1) W B12).mono ?_;rintro _ w2 ⟨wx,gx,v,rfl,B2,nv,g2'⟩;have g2:=uC gx g2' (.inl J);have A2:=B10.grown g2 ap;have ty:=uq HB g2 HB.size I;obtain⟨L,hL⟩:∃L,L=(Xy wm n1 n2 n3).set 22 v:=gG;rw[<-hL]at B2;replace hL:L=vX uz v uz r:=lx;have hwf:r.wf:=iT;have ll:L.length=33:=jv;have l1:Hid (∀v∈L,v.oneCell'=true):=Y cE;have OW:Hid (∀w',uK w2 w'->xv w' L r):=gS;clear hL B12 B10 HB g2 gx g2' TG nv hr;go_wp2_with(first
   |(refine ur (.load 119 (.tmp 12)) rfl ?_;go_must(refine uu rfl _ _ rfl (w.heap.size+1) 0 rfl B2 33 I _ underlying119 rfl uU L (wP I) ?_))
   |(refine ur (.store 119 (.tmp 10) (.tmp 79)) rfl (ab rfl w.heap.size 0 L A2 bj cf l1.out ?_)))
  exact oX
theorem Su(m:List UInt8)(a n:Nat)(O N:Int)(w:World)(hm:a+n<=m.length)(hl:m.length<=4000000)(z:uQ O N=33)(hn:n<6):
  Calls prog 251 #[.string (bs m),.int .i64 a,.int .i64 n,.int .i64 O,.int .i64 N] w (GN (.error 5) w):=by
 have hb:=Y (fun w=>wB O N w);rw[z]at hb;clear z;have ahb:wm.length=33:=jV;have TG:=Y (fun g w Z=>PR g wm (m.take (a+n)) a w Z ahb aA aA aA);have hx:(5:Int)≠0:=az;clear hn;obtain⟨k1,k2,k3,k4,k5,hs0⟩:=Hz (m:=m) (a:=a) n n J I;obtain⟨W,HW,B10,B12,HB,hWs⟩:=zZ w;go_enter func251,ntmps251;go_wp2_with fail;rw[HW.out];refine(hb.out W).mono ?_;rintro _ w1 ⟨rfl,rfl⟩;clear hb HW;go_wp2_with fail;refine(TG.out (w.heap.size+1) W B12).mono ?_;rintro _ w2 ⟨rfl,g2⟩;have A2:=B10.grown g2 ap;have ty:=uq HB g2 HB.size I;clear B12 B10 HB TG g2;go_wp2_with(refine ur (.store 119 (.tmp 10) (.tmp 77)) J (ab J w.heap.size 0 wm A2 bj cD wJ ?_));exact pc
def Mg(s:List UInt8)(a:Nat):Except Int RR:=match zC s a with
 | .error e=>.error e
 | .ok (l,p)=>match zC s p with
  | .error e=>.error e
  | .ok (l',q)=>if q+20=s.length then .ok {RR.zero with tg:=l,ml:=l',Hh:=zL s q}else .error 5
theorem Z3{g:Nat}{s:List UInt8}{w':World}{e:Ending}(h:CQ g s a w e w'):match Mg s a with
  | .error x=>x≠0/\e= .returned (.int .i64 x)/\w.grownBy w' (some g)
  | .ok r=>∃v v',e= .returned (.int .i64 0)/\F w' g 119 (vX uz v v' r)/\r.wf/\r.name=[]/\r.raw=[]/\AB w' v r.tg/\AB w' v' r.ml/\w.grownBy w' (some g):=by
 unfold CQ at h;unfold Mg;cases U:zC s a with
 |error x=>rw[U]at h;exact h
 |ok y=>
  obtain⟨l,p⟩:=y;rw[U]at h;simp only at h⊢;cases X:zC s p with
  |error x=>rw[X]at h;exact h
  |ok y=>
   obtain⟨l',q⟩:=y;rw[X]at h;simp only at h⊢;by_cases hq:q+20=s.length
   ·rw[if_pos hq]at h⊢;obtain⟨v,v',U,X,h3,h4,h5⟩:=h;exact⟨v,v',U,X,⟨J,J⟩,J,J,h3,h4,h5⟩
   ·rw[if_neg hq]at h⊢;exact⟨az,h.1,h.2⟩
theorem Z4(m:List UInt8)(a n:Nat)(O N:Int)(w:World)(hm:a+n<=m.length)(hl:m.length<=4000000)(z:uQ O N=6):
  Calls prog 251 #[.string (bs m),.int .i64 a,.int .i64 n,.int .i64 O,.int .i64 N] w (GN (Mg (m.take (a+n)) a) w):=by
 have hb:=Y (fun w=>wB O N w);rw[z]at hb;clear z;have ahb:wm.length=33:=jV;have TG:=Y (fun g w Z=>(UY g (m.take (a+n)) a w Z aA aA).mono (fun e w' h=>Z3 h));cases ho:Mg (m.take (a+n)) a with
 |error x=>rw[ho]at TG;clear ho;obtain⟨k1,k2,k3,k4,k5,hs0⟩:=Hz (m:=m) (a:=a) n n J I;obtain⟨W,HW,B10,B12,HB,hWs⟩:=zZ w;go_enter func251,ntmps251;go_wp2_with fail;rw[HW.out];refine(hb.out W).mono ?_;rintro _ w1 ⟨rfl,rfl⟩;clear hb HW;go_wp2_with fail;refine(TG.out (w.heap.size+1) W B12).mono ?_;rintro _ w2 ⟨hx,rfl,g2⟩;have hxz:(x !=0)=true:=iR;have A2:=B10.grown g2 ap;have ty:=uq HB g2 HB.size I;clear B12 B10 HB TG g2;exact pi
 |ok r=>
  rw[ho]at TG;clear ho;obtain⟨k1,k2,k3,k4,k5,hs0⟩:=Hz (m:=m) (a:=a) n n J I;obtain⟨W,HW,B10,B12,HB,hWs⟩:=zZ w;go_enter func251,ntmps251;go_wp2_with fail;rw[HW.out];refine(hb.out W).mono ?_;rintro _ w1 ⟨rfl,rfl⟩;clear hb HW;go_wp2_with fail;refine(TG.out (w.heap.size+1) W B12).mono ?_;rintro _ w2 ⟨v,v',rfl,B2,hwf,hrn,hrr,nv,nv',g2⟩;have A2:=B10.grown g2 ap;have ty:=uq HB g2 HB.size I;obtain⟨L,hL⟩:∃L,L=vX uz v v' r:=gG;rw[<-hL]at B2;have ll:L.length=33:=jv;have l1:Hid (∀v∈L,v.oneCell'=true):=Y (by rw[hL];exact wR J nv.one nv'.one);have OW:Hid (∀w',uK w2 w'->xv w' L r):=Y (fun w' K=>⟨uz,v,v',hL,hwf,by rw[hrn];exact AB.nil _,nv.uH K,nv'.uH K,by rw[hrr];simp⟩);clear hL B12 B10 HB g2 TG nv nv' hwf hrn hrr;go_wp2_with(first
   |(refine ur (.load 119 (.tmp 12)) rfl ?_;go_must(refine uu rfl _ _ rfl (w.heap.size+1) 0 rfl B2 33 I _ underlying119 rfl uU L (wP I) ?_))
   |(refine ur (.store 119 (.tmp 10) (.tmp 79)) rfl (ab rfl w.heap.size 0 L A2 bj cf l1.out ?_)))
  exact oX
theorem JV(O N:Int):uQ O N=1\/uQ O N=28\/uQ O N=5\/uQ O N=12\/uQ O N=33\/uQ O N=6\/uQ O N=0:=by
 unfold uQ;split
 ·rename_i h;omega
 ·simp
theorem Z6(m:List UInt8)(a n:Nat)(O N:Int)(w:World)(hm:a+n<=m.length)(hl:m.length<=4000000):
  Calls prog 251 #[.string (bs m),.int .i64 a,.int .i64 n,.int .i64 O,.int .i64 N] w (GN (yL m a n O N) w):=by
 have hd:((m.take (a+n)).drop a).length=n:=aA;rcases JV O N with h|h|h|h|h|h|h
 ·
  by_cases hn:n=4
  ·have:=St 1 4 (.inl ⟨J,J⟩) m a n O N w hm hl h cF;exact rX
  ·have:=JU 1 (.inl J) m a n O N w hm hl h cG;exact tR
 ·
  have U:¬uQ O N=1:=I;by_cases hn:n=16
  ·have:=St 28 6 (.inr ⟨J,J⟩) m a n O N w hm hl h cF;exact qW
  ·have:=JU 28 (.inr J) m a n O N w hm hl h cG;exact tS
 ·have:=Ol 5 (.inl J) m a n O N w hm hl h _ J;exact qP
 ·have:=Ol 12 (.inr J) m a n O N w hm hl h _ J;exact qO
 ·
  by_cases hn:n<6
  ·have:=Su m a n O N w hm hl h hn;exact tT
  ·have:=Z0 m a n O N w hm hl h I _ J;exact pP
 ·have:=Z4 m a n O N w hm hl h;exact rM
 ·have:=ZZ m a n O N w hm hl h;exact rq
end Go.Proofs.YthnbcmlnpdabhaaGreat
