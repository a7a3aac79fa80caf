/-
  Layer 13 (rdata):name,getTarget,getAddr,getSRV.
-/
import Derived.Test.YthnbcmlnpdabhaaGreatHAz
namespace Go.Proofs.YthnbcmlnpdabhaaGreat
open _root_.Go.Proofs.Tryz
set_option maxHeartbeats 8000000
open Go.RowKit
set_option maxRecDepth 100000
set_option linter.unusedVariables false
set_option linter.unusedSimpArgs false
variable {m:List UInt8} {a:Nat} {w:World}
def nE(o:GO):Int:=if V5 o=1 then 5 else V5 o
def Vl(o:GO)(w:World)(e:Ending)(w':World):Prop:=
 ∃v,e= .returned (.tuple #[v,.int .i64 (goB o),.int .i64 (nE o)])/\wh w' v (goN o)/\al w w'
theorem Ny(m:List UInt8)(a:Nat)(w:World)(hl:m.length<=4000000):Calls prog 262 #[.string (bs m),.int .i64 a] w (Vl (Bg m a) w):=by
 have afr:=Y (U6 m a w hl);generalize Bg m a=o at*;have hE:Hid (nE o=if V5 o=1 then 5 else V5 o):=nb;unfold CP at afr;unfold Vl;generalize nE o=y at*;generalize V5 o=x at*;generalize goB o=b at*;go_enter func262,ntmps262;exact pG
theorem K0{l:List (List UInt8)}{n:Nat}(h:Bg m a= .ok l n)(w:World)(hl:m.length<=4000000):
  Calls prog 262 #[.string (bs m),.int .i64 a] w (fun e w'=>∃v,e= .returned (.tuple #[v,.int .i64 (n:Int),.int .i64 0])/\wh w' v l/\al w w'):=by
 have:=Ny m a w hl;exact tu
theorem K8{x:Int}(h:Bg m a= .err x)(w:World)(hl:m.length<=4000000):
  Calls prog 262 #[.string (bs m),.int .i64 a] w (fun e w'=>∃v,e= .returned (.tuple #[v,.int .i64 0,.int .i64 (if x=1 then 5 else x)])/\wh w' v []/\al w w'):=by
 have:=Ny m a w hl;exact tu
def acr(g:Nat)(L:List Value)(o:Except Int (List (List UInt8)))(w:World)(e:Ending)(w':World):Prop:=
 match o with
 | .error x=>x≠0/\e= .returned (.int .i64 x)/\Z w' g 119 L/\w.grownBy w' (some g)
 | .ok l=>∃v,e= .returned (.int .i64 0)/\Z w' g 119 (L.set 22 v)/\zK w' v l/\w.grownBy w' (some g)
theorem Gm(g:Nat)(L:List Value)(s:List UInt8)(a:Nat)(w:World)(F:Z w g 119 L)(hl:L.length=33)(hs:s.length<=4000000):
  Calls prog 257 #[.pointer (some ⟨g,0,none⟩),.string (bs s),.int .i64 a] w (acr g L (wY s a) w):=by
 have hg:=F.lt;rcases yk s a with⟨l,n,U,X,h3,h4,h5⟩|⟨x,U,X,h3,h4⟩
 ·
  have tM:=Y (K0 U w hs);unfold wY;rw[X];clear U X;by_cases hn:n=s.length
  ·subst hn;simp only[if_true];go_enter func257,ntmps257;go_wp2_with fail;refine tM.out.mono ?_;rintro _ w1 ⟨v,rfl,hT,hB⟩;have B1:=F.G hB hg;obtain⟨A,c,hv,-,-⟩:=hT.form;subst hv;clear tM hs;go_wp2_with(refine tO (.store 26 (.tmp 27) (.tmp 25)) J (af J g 22 _ B1 I vh ?_));intro w2 hb2 hg2 hs2;have hT2:=zK.mk' (hT.grown hg2 B1 ax) h4 h5;clear hT;go_wp2_with fail;go_ret;exact⟨_,J,hb2,hT2,tU (uj hB _) hg2 (.inl J)⟩
  ·have hn':((n:Int) !=(s.length:Int))=true:=az;simp only[hn,if_false];clear hn h3;go_enter func257,ntmps257;go_wp2_with fail;refine tM.out.mono ?_;rintro _ w1 ⟨v,rfl,hT,hB⟩;go_wp2_with fail;go_ret;exact⟨ax,J,F.G hB hg,uj hB _⟩
 ·have tM:=Y (K8 U w hs);unfold wY;rw[X];generalize(if x=1 then 5 else x)=y at*;have hy:=h4.nz;clear U X h3;go_enter func257,ntmps257;go_wp2_with fail;refine tM.out.mono ?_;rintro _ w1 ⟨v,rfl,hT,hB⟩;go_wp2_with fail;go_ret;exact⟨h4.ne,J,F.G hB hg,uj hB _⟩
theorem Pe{a:World}{g:Nat}(h:a.grownBy w (some g))(ds:Array Value):a.grownBy (w.setRow g ds) (some g):=
 tU h ⟨J,J,J,ap,fun k O hne=>setRow_other _ _ _ _ (fun e=>hne (by rw[e]))⟩ (.inl J)
theorem QI(w:World){ops:Array Oper}{rest:List Oper}{o:Oper}{a:Act}{Q:Exit->Act->World->Prop}(hgd:o.guard=none)(d x:Operand)
  (ho:o.op= .call {callee:=.builtin .copy,args:= #[d,x],argTypes:= #[145,9]}) (g off len cap:Nat) (hd:a.eval d= .slice (some ⟨g,off,none⟩) len cap) (s:List UInt8) (hx:a.eval x= .string (bs s))
  {t:TypeId} {L:List Value} (F:Z w g t L) (hle:s.length<=len) (aoQ:off+s.length<=L.length)
  (h:∀w',Z w' g t (L.take off++vl s++L.drop (off+s.length))->w.grownBy w' (some g)->wpList prog ops Q rest (a.put o.dst (.int .i64 s.length)) w'):wpList prog ops Q (o::rest) a w:=by
 refine wpList_plain hgd fun hb hK=>?_
 have hr:=Lib.run_copy_row_string (P:=prog) w 145 9 o.type 5 g off len cap (bs s) L.toArray t underlying145 byteSize F (by simpa using hle) (by simpa using aoQ);have e:Lib.byteCells (bs s).data.toList=vl s:=by simp[bs,Lib.byteCells,vl]
 rw[e,xf]at hr;unfold Oper.wp execOp;simp only[ho,resolve,invoke,builtin,Sem.run_bind,Sem.run_pure,Result.andThen_ok,List.map_toArray,List.map_cons,List.map_nil,hd,hx,hr];exact hK _ _ (h _ (Gt F _) (Pe (World.grownBy.refl _ _) _))
def Mr(fam:Int)(d:List UInt8):RR:={RR.zero with ad:=⟨fam,d++List.replicate (16-d.length) 0,0⟩}
theorem Ws(fam:Int)(d:List UInt8)(hd:d.length=4\/d.length=16):
  (vG.set 4 (.int .i64 fam)).take 5++vl d++(vG.set 4 (.int .i64 fam)).drop (5+d.length)=vy tS tS tS (Mr fam d):=by
 rcases hd with hd|hd
 ·
  have:Mr fam d={RR.zero with ad:=⟨fam,d++List.replicate 12 0,0⟩}:=by unfold Mr;rw[hd]
  exact r7
 ·
  have:Mr fam d={RR.zero with ad:=⟨fam,d++List.replicate 0 0,0⟩}:=by unfold Mr;rw[hd]
  exact r7
def aei(g:Nat)(L:List Value)(w:World)(e:Ending)(w':World):Prop:=e= .returned (.int .i64 0)/\Z w' g 119 L/\w.grownBy w' (some g)
theorem TV(g:Nat)(d:List UInt8)(fam:Int)(w:World)(F:Z w g 119 vG)(hd:d.length=4\/d.length=16):
  Calls prog 256 #[.pointer (some ⟨g,0,none⟩),.string (bs d),.int .i64 d.length,.int .i64 fam] w (aei g (vy tS tS tS (Mr fam d)) w):=by
 have hl:=Fa;have RC:=Y (Ws fam d hd);have axh:d.length<=16:=I;generalize vy tS tS tS (Mr fam d)=L1 at*;generalize vG=L at*;go_enter func256,ntmps256;go_wp2_with(refine tO (.store 3 (.tmp 17) (.tmp 14)) J (af J g 4 _ F I uB ?_));intro w1 hb1 hg1 hs1;have hl1:(L.set 4 (.int .i64 fam)).length=33:=by simpa using hl
 go_wp2_with(refine tO (.call {callee:=.builtin .copy,args:= #[.tmp 22,.tmp 23],argTypes:= #[145,9]}) J ?_;go_must(refine QI _ J (.tmp 22) (.tmp 23) J g 5 16 16 J d J hb1 axh I ?_));intro w2 hb2 hg2;rw[<-List.append_assoc,RC.out]at hb2;go_wp2_with fail;go_ret;exact⟨J,hb2,tU hg1 hg2 (.inl J)⟩
theorem K9(g:Nat)(d:List UInt8)(wd:Nat)(fam:Int)(w:World)(hd:d.length≠wd):
  Calls prog 256 #[.pointer (some ⟨g,0,none⟩),.string (bs d),.int .i64 wd,.int .i64 fam] w (yi (.int .i64 5) w):=by
 have hd':((d.length:Int) !=(wd:Int))=true:=az;clear hd;go_enter func256,ntmps256;exact oU
theorem Wt(l:List UInt8)(h:l.length<6):yu (yE (yE l false 2) (yu l false 2) 2) (yu (yE l false 2) (yu l false 2) 2) 2=true:=by
 by_cases U:l.length<2
 ·simp[yu,yE,U]
 ·
  by_cases X:l.length-2<2
  ·simp[yu,yE,U,X]
  ·simp[yu,yE,U,X];omega
theorem Y7(l:List UInt8)(h:6<=l.length):yu l false 2=false/\yE l false 2=l.drop 2/\zp l false 2=l.take 2/\yu (l.drop 2) false 2=false/\yE (l.drop 2) false 2=l.drop 4/\zp (l.drop 2) false 2=(l.drop 2).take 2/\yu (l.drop 4) false 2=false/\yE (l.drop 4) false 2=l.drop 6/\zp (l.drop 4) false 2=(l.drop 4).take 2:=by
 have U:¬l.length<2:=I;have X:¬l.length-2<2:=I;have h3:¬l.length-4<2:=I;simp[yu,yE,zp,U,X,h3]
theorem Nz(l:List UInt8)(b:Bool)(n:Int):(yE l b n).length<=l.length:=by unfold yE;split<;>simp
def Wu(L:List Value)(a b c:Int):List Value:=((L.set 24 (.int .i64 a)).set 25 (.int .i64 b)).set 26 (.int .i64 c)
structure Nxt (d:List UInt8) (sh:Bool) (n:Nat) (d':List UInt8) (sh':Bool):Prop where
 hn:n=uN (zp d sh 2)
 hd:d'=yE d sh 2
 hs:sh'=yu d sh 2
theorem Fl(gy:Nat)(d:List UInt8)(sh:Bool)(w:World)(h:zV w gy d sh)(hm:d.length<=maxLen):
  Calls prog 177 #[.pointer (some ⟨gy,0,none⟩),.int .i64 2] w (fun e w'=>∃n d' sh',e= .returned (.int .i64 (n:Nat))/\Hid (Nxt d sh n d' sh')/\Hid (d'.length<=maxLen)/\zV w' gy d' sh'/\w.grownBy w' (some gy)):=by
 refine(JU gy d sh 2 w h hm).mono ?_;rintro _ w' ⟨rfl,U,X⟩;exact⟨_,_,_,J,Y ⟨J,J,J⟩,Y (Nat.le_trans (Nz _ _ _) hm),U,X⟩
theorem Pf(g:Nat)(L:List Value)(s:List UInt8)(a:Nat)(w:World)(F:Z w g 119 L)(hl:L.length=33)(ha:a<=s.length)(hn:s.length<a+6)(hs0:s.length<=4000000):
  Calls prog 258 #[.pointer (some ⟨g,0,none⟩),.string (bs s),.int .i64 a] w (fun e w'=>e= .returned (.int .i64 5)/\w.grownBy w' (some g)):=by
 have aeq:=Y (Wt (s.drop a) az);have hgl:=F.lt;have ha':(a:Int)<=s.length:=I;have hm:(s.drop a).length<=maxLen:=lN;clear hs0;go_enter func258,ntmps258;go_wp2_with fail;refine(Dz (s.drop a) w).mono ?_;rintro _ w1 ⟨rfl,e1,b1⟩;have B1:=F.G b1 F.lt;have G1:=uj b1 (some g);have hgn:w.heap.size≠g:=I;obtain⟨gy,hgy⟩:∃gy,gy=w.heap.size:=gp;rw[<-hgy]at e1 hgn⊢;replace hgy:w.heap.size<=gy:=I;generalize hd0:s.drop a=d0 at*;clear hd0;have HM:=Y hm;clear hm;go_wp2_with fail;refine(Fl gy d0 false w1 e1 HM.out).mono ?_;rintro _ w2 ⟨n1,d1,s1,rfl,x1,m1,e2,g2⟩;have B2:=B1.grown g2 bV;have G2:=tU G1 g2 (.inr (fun k O=>by injection O with O;omega));clear e1 b1 B1 G1 g2;go_wp2_with fail;refine(Fl gy d1 s1 w2 e2 m1.out).mono ?_;rintro _ w3 ⟨n2,d2,s2,rfl,x2,m2,e3,g3⟩;have B3:=B2.grown g3 bV;have G3:=tU G2 g3 (.inr (fun k O=>by injection O with O;omega));clear e2 B2 G2 g3;go_wp2_with fail;refine(Fl gy d2 s2 w3 e3 m2.out).mono ?_;rintro _ w4 ⟨n3,d3,s3,rfl,x3,m3,e4,g4⟩;have B4:=B3.grown g4 bV;have G4:=tU G3 g4 (.inr (fun k O=>by injection O with O;omega));clear e3 B3 G3 g4;obtain rfl:s3=true:=by rw[x3.out.hs,x2.out.hd,x2.out.hs,x1.out.hd,x1.out.hs];exact aeq.out
 clear aeq x1 x2 x3;go_wp2_with(refine tO (.store 3 (.tmp 22) (.tmp 16)) J (af J g 24 _ B4 I uB ?_));intro w5 B5 g5 _;have E5:=e4.grown g5 bX;have G5:=tU G4 g5 (.inl J);clear B4 G4 g5 e4;go_wp2_with(refine tO (.store 3 (.tmp 24) (.tmp 18)) J (af J g 25 _ B5 bY uB ?_));intro w6 B6 g6 _;have E6:=E5.grown g6 bX;have G6:=tU G5 g6 (.inl J);clear B5 G5 g6 E5;go_wp2_with(refine tO (.store 3 (.tmp 26) (.tmp 20)) J (af J g 26 _ B6 bY uB ?_));intro w7 B7 g7 _;have E7:=E6.grown g7 bX;have G7:=tU G6 g7 (.inl J);clear B6 G6 g7 E6;go_wp2_with fail;refine(GX gy d3 true w7 E7).mono ?_;rintro _ w8 ⟨rfl,rfl⟩;simp only[if_true];go_wp2_with fail;go_ret;exact⟨J,G7⟩
theorem QJ(g:Nat)(L:List Value)(s:List UInt8)(a:Nat)(w:World)(F:Z w g 119 L)(hl:L.length=33)(ha:a<=s.length)(hn:a+6<=s.length)(hs0:s.length<=4000000):
  Calls prog 258 #[.pointer (some ⟨g,0,none⟩),.string (bs s),.int .i64 a] w (fun e w'=>∃w1,w.grownBy w1 (some g)/\acr g (Wu L (uN ((s.drop a).take 2)) (uN (((s.drop a).drop 2).take 2)) (uN (((s.drop a).drop 4).take 2))) (wY s (a+6)) w1 e w'):=by
 have aeq:=Y (Y7 (s.drop a) az);have hdl:((s.drop a).drop 6).length=s.length-(a+6):=by rw[List.drop_drop,List.length_drop]
 have hgl:=F.lt;have ha':(a:Int)<=s.length:=I;have hm:(s.drop a).length<=maxLen:=lN;have hs:=Y hs0;clear hs0;go_enter func258,ntmps258;go_wp2_with fail;refine(Dz (s.drop a) w).mono ?_;rintro _ w1 ⟨rfl,e1,b1⟩;have B1:=F.G b1 F.lt;have G1:=uj b1 (some g);have hgn:w.heap.size≠g:=I;obtain⟨gy,hgy⟩:∃gy,gy=w.heap.size:=gp;rw[<-hgy]at e1 hgn⊢;replace hgy:w.heap.size<=gy:=I;generalize hd0:s.drop a=d0 at*;have HD:=Y hd0;clear hd0;have HM:=Y hm;clear hm;go_wp2_with fail;refine(Fl gy d0 false w1 e1 HM.out).mono ?_;rintro _ w2 ⟨n1,d1,s1,rfl,x1,m1,e2,g2⟩;have B2:=B1.grown g2 bV;have G2:=tU G1 g2 (.inr (fun k O=>by injection O with O;omega));clear e1 b1 B1 G1 g2;go_wp2_with fail;refine(Fl gy d1 s1 w2 e2 m1.out).mono ?_;rintro _ w3 ⟨n2,d2,s2,rfl,x2,m2,e3,g3⟩;have B3:=B2.grown g3 bV;have G3:=tU G2 g3 (.inr (fun k O=>by injection O with O;omega));clear e2 B2 G2 g3;go_wp2_with fail;refine(Fl gy d2 s2 w3 e3 m2.out).mono ?_;rintro _ w4 ⟨n3,d3,s3,rfl,x3,m3,e4,g4⟩;have B4:=B3.grown g4 bV;have G4:=tU G3 g4 (.inr (fun k O=>by injection O with O;omega));clear e3 B3 G3 g4;obtain⟨U,X,h3,h4,h5,h6,h7,h8,h9⟩:=aeq.out;obtain rfl:s1=false:=by rw[x1.out.hs];exact U
 obtain rfl:d1=d0.drop 2:=by rw[x1.out.hd];exact X
 obtain rfl:s2=false:=by rw[x2.out.hs];exact h4
 obtain rfl:d2=d0.drop 4:=by rw[x2.out.hd];exact h5
 obtain rfl:s3=false:=by rw[x3.out.hs];exact h7
 have hd3:d3=d0.drop 6:=by rw[x3.out.hd];exact h8
 have q1:=x1.out.hn;have q2:=x2.out.hn;have q3:=x3.out.hn;rw[h3]at q1;rw[h6]at q2;rw[h9]at q3;rw[<-hd3]at hdl;have Q1:=Y q1;have Q2:=Y q2;have Q3:=Y q3;clear aeq x1 x2 x3 U X h3 h4 h5 h6 h7 h8 h9 q1 q2 q3 hd3;go_wp2_with(refine tO (.store 3 (.tmp 22) (.tmp 16)) J (af J g 24 _ B4 I uB ?_));intro w5 B5 g5 _;have E5:=e4.grown g5 bX;have G5:=tU G4 g5 (.inl J);clear B4 G4 g5 e4;go_wp2_with(refine tO (.store 3 (.tmp 24) (.tmp 18)) J (af J g 25 _ B5 bY uB ?_));intro w6 B6 g6 _;have E6:=E5.grown g6 bX;have G6:=tU G5 g6 (.inl J);clear B5 G5 g6 E5;go_wp2_with(refine tO (.store 3 (.tmp 26) (.tmp 20)) J (af J g 26 _ B6 bY uB ?_));intro w7 B7 g7 _;have E7:=E6.grown g7 bX;have G7:=tU G6 g7 (.inl J);clear B6 G6 g7 E6;replace B7:Z w7 g 119 (Wu L n1 n2 n3):=B7;have hsl:(Wu L n1 n2 n3).length=33:=by simpa[Wu]using hl
 have T:=Y (Gm g (Wu L n1 n2 n3) s (a+6) w7 B7 hsl hs.out);have hla:Hid (wrap64 ((s.length:Int)-(d3.length:Int))=((a+6:Nat):Int)):=Y (by have:=hs.out;rw[IntWalk.wrap64_in _ I];omega);clear hdl;go_wp2_with fail;refine(GX gy d3 false w7 E7).mono ?_;rintro _ w8 ⟨rfl,rfl⟩;go_wp2_with fail;refine(Kl gy d3 false w7 E7).mono ?_;rintro _ w8 ⟨rfl,rfl⟩;cases ht:wY s (a+6)with
 |error x=>rw[ht]at T;go_wp2_with fail;rw[hla.out];refine T.out.mono ?_;rintro _ w8 ⟨hx,rfl,hT⟩;go_wp2_with fail;go_ret;refine⟨w7,G7,?_⟩;rw[HD.out,<-Q1.out,<-Q2.out,<-Q3.out,ht];exact⟨hx,J,hT⟩
 |ok l=>rw[ht]at T;go_wp2_with fail;rw[hla.out];refine T.out.mono ?_;rintro _ w8 ⟨v,rfl,hT⟩;go_wp2_with fail;go_ret;refine⟨w7,G7,?_⟩;rw[HD.out,<-Q1.out,<-Q2.out,<-Q3.out,ht];exact⟨v,J,hT⟩
def zi(d:List UInt8):Nat->List UInt8×Bool
 |0=>(d,false)
 |k+1=>(yE (zi d k).1 (zi d k).2 4,yu (zi d k).1 (zi d k).2 4)
def MB(d:List UInt8)(k:Nat):Int:=uN (zp (zi d k).1 (zi d k).2 4)
theorem QK(d:List UInt8):∀k,(zi d k).1.length<=d.length
 |0=>Nat.le_refl _
 |k+1=>Nat.le_trans (Nz _ _ _) (QK d k)
def MC(d:List UInt8)(L:List Value)(k:Nat):List Value:=L.take 27++uF ((List.range k).map (MB d))++L.drop (27+k)
theorem QL(d:List UInt8)(L:List Value)(k:Nat)(hl:L.length=33)(O:k<=5):(MC d L k).length=33:=by
 simp[MC,uF,hl];omega
theorem Wv(d:List UInt8)(L:List Value):MC d L 0=L:=by simp[MC,uF]
theorem Ww(d:List UInt8)(L:List Value)(k:Nat)(hl:L.length=33)(O:k<5):(MC d L k).set (27+k) (.int .i64 (MB d k))=MC d L (k+1):=by
 have U:(L.take 27).length=27:=np;have X:(uF ((List.range k).map (MB d))).length=k:=by simp[uF]
 have h3:L.drop (27+k)=L[27+k]'I::L.drop (27+(k+1)):=l6;unfold MC;rw[List.append_assoc,List.set_append_right (h:=by omega),U,Nat.add_sub_cancel_left,List.set_append_right (h:=by omega),X,Nat.sub_self,h3,List.set_cons_zero];simp[uF,List.range_succ,List.append_assoc]
theorem La(d:List UInt8)(hd:d.length=20):∀k,k<=5->zi d k=(d.drop (4*k),false)
 |0,_=>rfl
 |k+1,O=>by
  rw[zi,La d hd k I];have h:¬(d.drop (4*k)).length<4:=az;simp[yE,yu,h,Nat.mul_succ];omega
theorem Wx(d:List UInt8)(hd:d.length=20)(k:Nat)(O:k<5):MB d k=uN ((d.drop (4*k)).take 4):=by
 unfold MB;rw[La d hd k I];have h:¬(d.length-4*k)<4:=I;simp[zp,h]
theorem Y8(d:List UInt8)(hd:d.length=20):VT (zi d 5).1 (zi d 5).2=0:=by
 rw[La d hd 5 I];have:d.drop 20=[]:=List.drop_of_length_le I;simp[VT,this]
theorem QP(d:List UInt8):∀k,(zi d k).2=true\/((zi d k).2=false/\(zi d k).1.length+4*k=d.length)
 |0=>.inr ⟨J,by simp[zi]⟩
 |k+1=>by
  rcases QP d k with h|⟨h,hl⟩
  ·exact .inl (by simp[zi,yu,h])
  ·
   by_cases h4:(zi d k).1.length<4
   ·exact .inl (by simp[zi,yu,h4])
   ·refine .inr ⟨by simp[zi,yu,h,h4],?_⟩;simp[zi,yE,h,h4];omega
theorem abe(d:List UInt8)(hd:d.length≠20):VT (zi d 5).1 (zi d 5).2≠0:=by
 unfold VT;rcases QP d 5 with h|⟨h,hl⟩
 ·simp[h]
 ·
  have:(zi d 5).1≠[]:=by intro e;rw[e]at hl;simp at hl;omega
  simp[h,this]
theorem Wy(s:List UInt8)(p:Nat)(h:p+20=s.length):(List.range 5).map (MB (s.drop p))=zh s p:=by
 have hd:(s.drop p).length=20:=az;have e:∀k,k<5->MB (s.drop p) k=uN ((s.drop (p+4*k)).take 4):=fun k O=>by rw[Wx _ hd k O,List.drop_drop]
 simp only[List.range,List.range.loop,List.map_cons,List.map_nil];rw[e 0 I,e 1 I,e 2 I,e 3 I,e 4 I];rfl
def Ch(g:Nat)(s:List UInt8)(a:Nat)(w:World)(e:Ending)(w':World):Prop:=
 match y6 s a with
 | .error x=>x≠0/\e= .returned (.int .i64 x)/\w.grownBy w' (some g)
 | .ok (l,p)=>match y6 s p with
  | .error x=>x≠0/\e= .returned (.int .i64 x)/\w.grownBy w' (some g)
  | .ok (l',q)=>if q+20=s.length then ∃v v',e= .returned (.int .i64 0)/\Z w' g 119 (vy tS v v' {RR.zero with tg:=l,ml:=l',h1:=zh s q})/\zK w' v l/\zK w' v' l'/\w.grownBy w' (some g)
   else e= .returned (.int .i64 5)/\w.grownBy w' (some g)
theorem Wz(v v':Value)(d:List UInt8)(r:RR)(hr:r={RR.zero with h1:=(List.range 5).map (MB d)}):((MC d vG 5).set 22 v).set 23 v'=vy tS v v' r:=by subst hr;rfl
theorem TX(g:Nat)(s:List UInt8)(a:Nat)(w:World)(F:Z w g 119 vG)(ha:a<=s.length)(hs:s.length<=4000000):
  Calls prog 259 #[.pointer (some ⟨g,0,none⟩),.string (bs s),.int .i64 a] w (Ch g s a w):=by
 have hgl:=F.lt;have hl:vG.length=33:=jG;rcases yk s a with⟨l,p,U,X,h3,h4,h5⟩|⟨x,U,X,h3,h4⟩
 case inr=>have tM:=Y (K8 U w hs);have FIN:Hid (∀w',al w w'->Ch g s a w (.returned (.int .i64 (if x=1 then 5 else x))) w'):=Y (fun w' hB=>by unfold Ch;rw[X];exact⟨h4.ne,J,uj hB _⟩);generalize(if x=1 then 5 else x)=y at*;have hy:=h4.nz;clear U X h3 F;go_enter func259,ntmps259;go_wp2_with fail;refine tM.out.mono ?_;rintro _ w1 ⟨v,rfl,hT,hB⟩;go_wp2_with fail;go_ret;exact FIN.out _ hB
 have tM:=Y (K0 U w hs);rcases yk s p with⟨l',q,k1,k2,k3,k4,k5⟩|⟨x,k1,k2,k3,k4⟩
 case inr=>have h2:=Y (fun w=>K8 k1 w hs);have FIN:Hid (∀w',al w w'->Ch g s a w (.returned (.int .i64 (if x=1 then 5 else x))) w'):=Y (fun w' hB=>by unfold Ch;rw[X];simp only;rw[k2];exact⟨k4.ne,J,uj hB _⟩);generalize(if x=1 then 5 else x)=y at*;have hy:=k4.nz;clear U X h3 k1 k2 k3 F;go_enter func259,ntmps259;go_wp2_with fail;refine tM.out.mono ?_;rintro _ w1 ⟨v,rfl,hT,hB⟩;go_wp2_with fail;refine(h2.out _).mono ?_;rintro _ w2 ⟨v',rfl,hT',hB'⟩;go_wp2_with fail;go_ret;exact FIN.out _ (tL hB hB.size hB')
 have h2:=Y (fun w=>K0 k1 w hs);have FB:Hid (q+20≠s.length->∀w',w.grownBy w' (some g)->Ch g s a w (.returned (.int .i64 5)) w'):=Y (fun hq w' hB=>by unfold Ch;rw[X];simp only;rw[k2];simp only;rw[if_neg hq];exact⟨trivial,hB⟩);have FG:Hid (q+20=s.length->∀w' v v',Z w' g 119 (((MC (s.drop q) vG 5).set 22 v).set 23 v')->zK w' v l->zK w' v' l'->w.grownBy w' (some g)->Ch g s a w (.returned (.int .i64 0)) w'):=Y (fun hq w' v v' F n1 n2 hB=>by
  unfold Ch;rw[X];simp only;rw[k2];simp only;rw[if_pos hq];rw[Wz v v' _ _ J,Wy s q hq]at F;exact⟨v,v',trivial,F,n1,n2,hB⟩)
 have hq':(q:Int)<=s.length:=I;have hdl:(s.drop q).length<=maxLen:=lN;have hdq:(s.drop q).length=20↔q+20=s.length:=az;clear U X h3 k1 k2 k3;go_enter func259,ntmps259;go_wp2_with fail;refine tM.out.mono ?_;rintro _ w1 ⟨v,rfl,hT,hB⟩;have B1:=F.G hB hgl;have X1:=zK.mk' hT h4 h5;obtain⟨A,c,hv,-⟩:=X1.form;clear tM hT;go_wp2_with fail;refine(h2.out _).mono ?_;rintro _ w2 ⟨v',rfl,hT',hB'⟩;have B2:=B1.G hB' B1.lt;have X2:=zK.mk' hT' k4 k5;replace X1:=X1.ue (ug.G hB');have hk:=tL hB hB.size hB';obtain⟨A',c',hv',-⟩:=X2.form;subst hv;subst hv';clear h2 hT' hB hB' B1;go_wp2_with fail;refine(Dz (s.drop q) w2).mono ?_;rintro _ w3 ⟨rfl,e3,b3⟩;have B3:=B2.G b3 B2.lt;replace X1:=X1.ue (ug.G b3);replace X2:=X2.ue (ug.G b3);have G3:w.grownBy w3 (some g):=uj (tL hk hk.size b3) _;have hgy:w.heap.size<=w2.heap.size:=hk.size;have hgn:w2.heap.size≠g:=I;generalize w2.heap.size=gy at*;generalize s.drop q=d at*;clear B2 hk b3;go_wp2_with fail;go_loopw[36] (fun iv wr=>∃k:Nat,k<=5/\iv= .int .i64 k/\zV wr gy (zi d k).1 (zi d k).2/\Z wr g 119 (MC d vG k)/\w.grownBy wr (some g)/\ug w3 wr) (fun iv _=>5-(intOf iv).toNat)
 case atStart=>exact⟨0,I,J,e3,by rw[Wv];exact B3,G3,ug.refl _⟩
 clear e3 B3 G3;obtain⟨k,O,rfl,Er,Br,Gr,Sr⟩:=hrel;by_cases Hh:k<5
 case pos=>
  have tQ:(k:Int)<5:=I;have hk0:(0:Int)<=k:=I;have NN:=Y (fun w' (h:zV w' gy (zi d k).1 (zi d k).2)=>JU gy _ _ 4 w' h (Nat.le_trans (QK d k) hdl));rw[show((hw 4:Nat):Int)=4 from J]at NN;have SL:=Y (Ww d vG k hl Hh);have Sl:=QL d vG k hl O;change Hid (∀w',_->Calls prog _ _ w' (Kk (.int .i64 (MB d k)) gy (zi d (k+1)).1 (zi d (k+1)).2 w'))at NN;generalize MB d k=nk at*;go_wp2_with fail;refine wp_region_held_drew (S:=fun _=>True) (by kernel_rfl) trivial (fun M=>?_)
  (refine ag 0 (some 39) J J (by kernel_rfl) (fun W hW=>rfl) M ?_;simp only[z])
  (refine ag 1 (some 40) J J (by kernel_rfl) (fun W hW=>rfl) M ?_;simp only[z])
  (refine ag 2 (some 41) J J (by kernel_rfl) (fun W hW=>rfl) M ?_;simp only[z])
  (refine ag 4 (some 43) J J (by kernel_rfl) (fun W hW=>rfl) M ?_;simp only[z])
  (refine ag 5 (some 44) J J (by kernel_rfl) (fun W hW=>rfl) M ?_;simp only[z])
  refine um 3 (by kernel_rfl) ?_;refine vO 3 (some 42) 177 #[.pointer (some ⟨gy,0,none⟩),.int .i64 4] J J (by kernel_rfl) bm (NN.out _ Er.drew) ?_;rintro _ w4 ⟨rfl,e4,g4⟩;have B4:=(Br.drew).grown g4 bV;have G4:=tU (xV Gr) g4 (.inr (fun j hj=>by injection hj with hj;omega));have S4:ug w3 w4:=Sr.trans ((ug.G (Below.refl _ _).drew).trans (ug.uG g4 Er.drew ax));refine⟨_,J,trivial,?_⟩;simp only[z];refine ag 6 (some 45) (v:=.pointer (some ⟨g,27+k,none⟩)) J J (by kernel_rfl) (fun W hW=>by go_simp) M ?_;simp only[z];refine um 7 (by kernel_rfl) ?_;refine xx 7 3 (.tmp 45) (.tmp 42) J J J (by kernel_rfl) g (27+k) J (.int .i64 nk) J B4 I uB J J ?_;intro w5 B5 g5 _;rw[SL.out]at B5;have E5:=e4.grown g5 bX;have G5:=tU G4 g5 (.inl J);have S5:=S4.trans (ug.uG g5 B4 ax);refine⟨trivial,?_⟩;simp only[z];refine wpAnyH_done (by kernel_rfl) ?_ _;clear M B4 G4 S4 e4 g4 g5 NN SL Sl Er Br Gr Sr;go_wp2_with fail;go_roundw
  case rel=>exact⟨k+1,I,fU,E5,B5,G5,S5⟩
  case measure=>simp[intOf];omega
 obtain rfl:k=5:=I;replace X1:=X1.ue Sr;replace X2:=X2.ue Sr;clear Hh O Sr;have EN:=Y (aaL gy _ _ wr Er);by_cases hq:q+20=s.length
 ·rw[Y8 d (hdq.2 hq)]at EN;have Sl:=QL d vG 5 hl I;go_wp2_with fail;refine EN.out.mono ?_;rintro _ w6 ⟨rfl,rfl⟩;go_wp2_with(refine tO (.store 26 (.tmp 55) (.tmp 52)) J (af J g 22 _ Br I vh ?_));intro w7 B7 g7 _;have Y1:=X1.ue (ug.uG g7 Br ax);have Y2:=X2.ue (ug.uG g7 Br ax);have G7:=tU Gr g7 (.inl J);go_wp2_with(refine tO (.store 26 (.tmp 57) (.tmp 53)) J (af J g 23 _ B7 bY vh ?_));intro w8 B8 g8 _;have Z1:=Y1.ue (ug.uG g8 B7 ax);have Z2:=Y2.ue (ug.uG g8 B7 ax);have G8:=tU G7 g8 (.inl J);go_wp2_with fail;go_ret;exact FG.out hq _ _ _ B8 Z1 Z2 G8
 ·have hne:=abe d (fun h=>hq (hdq.1 h));generalize VT (zi d 5).1 (zi d 5).2=ev at*;have hev:(ev !=0)=true:=jM;go_wp2_with fail;refine EN.out.mono ?_;rintro _ w6 ⟨rfl,rfl⟩;go_wp2_with fail;go_ret;exact FB.out hq _ Gr
def FZ(o:Except Int RR)(w:World)(e:Ending)(w':World):Prop:=
 match o with
 | .error x=>x≠0/\e= .returned (.tuple #[.agg vG.toArray,.int .i64 x])/\al w w'
 | .ok r=>∃cs,e= .returned (.tuple #[.agg cs.toArray,.int .i64 0])/\wR w' cs r/\al w w'
theorem abf:vG.toArray= #[.slice none 0 0,.int .i64 0,.int .i64 0,.int .i64 0,.int .i64 0,.int .u8 0,.int .u8 0,.int .u8 0,.int .u8 0,.int .u8 0,.int .u8 0,.int .u8 0,.int .u8 0,.int .u8 0,.int .u8 0,.int .u8 0,.int .u8 0,.int .u8 0,.int .u8 0,.int .u8 0,.int .u8 0,.int .i64 0,.slice none 0 0,.slice none 0 0,.int .i64 0,.int .i64 0,.int .i64 0,.int .i64 0,.int .i64 0,.int .i64 0,.int .i64 0,.int .i64 0,.string ⟨#[]⟩]:=rfl
theorem vW:∀v∈vG,v.oneCell'=true:=wj J J J
theorem GU(n:Nat)(e:Int)(he:e=n)(h:a+n<=m.length):(0:Int)<=a/\0<=e/\(a:Int)<=m.length/\e<=(m.length:Int)-a/\(a:Int)+e<=m.length/\((a:Int)+e).toNat=a+n:=by subst he;omega
theorem zB(w:World):∃W,Hid ((w.alloc (.cells #[.slice none 0 0,.int .i64 0,.int .i64 0,.int .i64 0,.int .i64 0,.int .u8 0,.int .u8 0,.int .u8 0,.int .u8 0,.int .u8 0,.int .u8 0,.int .u8 0,.int .u8 0,.int .u8 0,.int .u8 0,.int .u8 0,.int .u8 0,.int .u8 0,.int .u8 0,.int .u8 0,.int .u8 0,.int .i64 0,.slice none 0 0,.slice none 0 0,.int .i64 0,.int .i64 0,.int .i64 0,.int .i64 0,.int .i64 0,.int .i64 0,.int .i64 0,.int .i64 0,.string ⟨#[]⟩] 119)).alloc (.cells #[.slice none 0 0,.int .i64 0,.int .i64 0,.int .i64 0,.int .i64 0,.int .u8 0,.int .u8 0,.int .u8 0,.int .u8 0,.int .u8 0,.int .u8 0,.int .u8 0,.int .u8 0,.int .u8 0,.int .u8 0,.int .u8 0,.int .u8 0,.int .u8 0,.int .u8 0,.int .u8 0,.int .u8 0,.int .i64 0,.slice none 0 0,.slice none 0 0,.int .i64 0,.int .i64 0,.int .i64 0,.int .i64 0,.int .i64 0,.int .i64 0,.int .i64 0,.int .i64 0,.string ⟨#[]⟩] 119)=W)/\Z W w.heap.size 119 vG/\Z W (w.heap.size+1) 119 vG/\al w W/\W.heap.size=w.heap.size+1+1:=
 ⟨_,Y J,(Z.new w 119 vG).alloc _,Z.vP _ _ vG _ ap,((Below.refl _ _).alloc (Nat.le_refl _) _).alloc ap _,ap⟩
theorem Lb{L:List Value}{r:RR}{vn vt vm:Value}(e:L=vy vn vt vm r)(h:r.wf):L.length=33:=by rw[e];exact uP h
theorem Y9(m:List UInt8)(a n:Nat)(E N:Int)(w:World)(hm:a+n<=m.length)(hl:m.length<=4000000)(O:uo E N=0):
  Calls prog 251 #[.string (bs m),.int .i64 a,.int .i64 n,.int .i64 E,.int .i64 N] w (FZ (.ok {RR.zero with raw:=(m.take (a+n)).drop a}) w):=by
 have hb:=Y (fun w=>vL E N w);rw[O]at hb;clear O;obtain⟨k1,k2,k3,k4,k5,hs0⟩:=GU (m:=m) (a:=a) n n J I;obtain⟨W,HW,B10,B12,HB,hWs⟩:=zB w;go_enter func251,ntmps251;go_wp2_with fail;rw[HW.out];refine(hb.out W).mono ?_;rintro _ w1 ⟨rfl,rfl⟩;clear hb HW;have agu:vG.length=33:=jG;go_wp2_with(refine tO (.store 9 (.tmp 46) (.tmp 45)) J (af J (w.heap.size+1) 32 _ B12 I Kw ?_));intro w2 B2 g2 _;have A2:=B10.grown g2 ap;have hk:=tN HB g2 HB.size I;rw[List.take_take,Nat.min_self]at B2;clear B12 B10 HB g2;obtain⟨L,hL⟩:∃L,L=vG.set 32 (.string (bs ((m.take (a+n)).drop a))):=gp;rw[<-hL]at B2;replace hL:L=vy tS tS tS {RR.zero with raw:=(m.take (a+n)).drop a}:=hL;have ll:L.length=33:=Lb hL ⟨J,J⟩;have l1:Hid (∀v∈L,v.oneCell'=true):=Y bZ;have OW:Hid (∀w',ug w2 w'->wR w' L {RR.zero with raw:=(m.take (a+n)).drop a}):=jk;clear hL;go_wp2_with(first
  |(refine tO (.load 119 (.tmp 12)) rfl ?_;go_must(refine tP rfl _ _ rfl (w.heap.size+1) 0 rfl B2 33 I _ underlying119 rfl uu L (wg I) ?_))
  |(refine tO (.store 119 (.tmp 10) (.tmp 79)) rfl (ab rfl w.heap.size 0 L A2 bi cf l1.out ?_)))
 exact ox
theorem QS(k:Nat)(fam:Int)(hkf:(k=1/\fam=4)\/(k=28/\fam=6))(m:List UInt8)(a n:Nat)(E N:Int)(w:World)(hm:a+n<=m.length)(hl:m.length<=4000000)(O:uo E N=k)(hn:n=if k=1 then 4 else 16):
  Calls prog 251 #[.string (bs m),.int .i64 a,.int .i64 n,.int .i64 E,.int .i64 N] w (FZ (.ok (Mr fam ((m.take (a+n)).drop a))) w):=by
 have hb:=Y (fun w=>vL E N w);rw[O]at hb;clear O;have hd:((m.take (a+n)).drop a).length=n:=az;have hd':((m.take (a+n)).drop a).length=4\/((m.take (a+n)).drop a).length=16:=by rw[hd,hn];split<;>simp
 have GA:=Y (fun g w F=>TV g ((m.take (a+n)).drop a) fam w F hd');rw[hd]at GA;have hwf:(Mr fam ((m.take (a+n)).drop a)).wf:=⟨by simp only[Mr,List.length_append,List.length_replicate];omega,J⟩;obtain⟨L,hL⟩:∃L,L=vy tS tS tS (Mr fam ((m.take (a+n)).drop a)):=gp;rw[<-hL]at GA;have ll:L.length=33:=jn;have l1:Hid (∀v∈L,v.oneCell'=true):=Y bZ;have OW':Hid (∀w',wR w' L (Mr fam ((m.take (a+n)).drop a))):=Y (fun w'=>⟨tS,tS,tS,hL,hwf,zK.nil _,zK.nil _,zK.nil _,by simp[Mr,RR.zero]⟩);generalize Mr fam ((m.take (a+n)).drop a)=r at*;clear hL hd hd' hwf;rcases hkf with⟨rfl,rfl⟩|⟨rfl,rfl⟩
 case inl=>
  have hn4:((n:Nat):Int)=4:=cF;rw[hn4]at GA;clear hn4 hn;obtain⟨k1,k2,k3,k4,k5,hs0⟩:=GU (m:=m) (a:=a) n n J I;obtain⟨W,HW,B10,B12,HB,hWs⟩:=zB w;go_enter func251,ntmps251;go_wp2_with fail;rw[HW.out];refine(hb.out W).mono ?_;rintro _ w1 ⟨rfl,rfl⟩;clear hb HW;go_wp2_with fail;rw[List.take_take,Nat.min_self];refine(GA.out (w.heap.size+1) W B12).mono ?_;rintro _ w2 ⟨rfl,B2,g2⟩;have A2:=B10.grown g2 ap;have hk:=tN HB g2 HB.size I;have OW:Hid (∀w',ug w2 w'->wR w' L r):=Y (fun w' _=>OW'.out w');clear B12 B10 HB g2 GA OW';go_wp2_with(first
   |(refine tO (.load 119 (.tmp 12)) rfl ?_;go_must(refine tP rfl _ _ rfl (w.heap.size+1) 0 rfl B2 33 I _ underlying119 rfl uu L (wg I) ?_))
   |(refine tO (.store 119 (.tmp 10) (.tmp 79)) rfl (ab rfl w.heap.size 0 L A2 bi cf l1.out ?_)))
  exact ox
 case inr=>
  have hn4:((n:Nat):Int)=16:=cF;rw[hn4]at GA;clear hn4 hn;obtain⟨k1,k2,k3,k4,k5,hs0⟩:=GU (m:=m) (a:=a) n n J I;obtain⟨W,HW,B10,B12,HB,hWs⟩:=zB w;go_enter func251,ntmps251;go_wp2_with fail;rw[HW.out];refine(hb.out W).mono ?_;rintro _ w1 ⟨rfl,rfl⟩;clear hb HW;go_wp2_with fail;rw[List.take_take,Nat.min_self];refine(GA.out (w.heap.size+1) W B12).mono ?_;rintro _ w2 ⟨rfl,B2,g2⟩;have A2:=B10.grown g2 ap;have hk:=tN HB g2 HB.size I;have OW:Hid (∀w',ug w2 w'->wR w' L r):=Y (fun w' _=>OW'.out w');clear B12 B10 HB g2 GA OW';go_wp2_with(first
   |(refine tO (.load 119 (.tmp 12)) rfl ?_;go_must(refine tP rfl _ _ rfl (w.heap.size+1) 0 rfl B2 33 I _ underlying119 rfl uu L (wg I) ?_))
   |(refine tO (.store 119 (.tmp 10) (.tmp 79)) rfl (ab rfl w.heap.size 0 L A2 bi cf l1.out ?_)))
  exact ox
def Ez{α β:Type}(f:α->β)(o:Except Int α):Except Int β:=match o with
 | .error e=>.error e
 | .ok x=>.ok (f x)
theorem Jq(k:Nat)(hkf:k=1\/k=28)(m:List UInt8)(a n:Nat)(E N:Int)(w:World)(hm:a+n<=m.length)(hl:m.length<=4000000)(O:uo E N=k)(hn:n≠if k=1 then 4 else 16):
  Calls prog 251 #[.string (bs m),.int .i64 a,.int .i64 n,.int .i64 E,.int .i64 N] w (FZ (.error 5) w):=by
 have hb:=Y (fun w=>vL E N w);rw[O]at hb;clear O;have hd:((m.take (a+n)).drop a).length=n:=az;have agu:vG.length=33:=jG;have hx:(5:Int)≠0:=ax;rcases hkf with rfl|rfl
 case inl=>have GA:=Y (fun g w=>K9 g ((m.take (a+n)).drop a) 4 4 w cC);clear hn hd;obtain⟨k1,k2,k3,k4,k5,hs0⟩:=GU (m:=m) (a:=a) n n J I;obtain⟨W,HW,B10,B12,HB,hWs⟩:=zB w;go_enter func251,ntmps251;go_wp2_with fail;rw[HW.out];refine(hb.out W).mono ?_;rintro _ w1 ⟨rfl,rfl⟩;clear hb HW;go_wp2_with fail;rw[List.take_take,Nat.min_self];refine(GA.out (w.heap.size+1) W).mono ?_;rintro _ w2 ⟨rfl,rfl⟩;have A2:=B10;have hk:=HB;clear B12 B10 HB GA;go_wp2_with(refine tO (.store 119 (.tmp 10) (.tmp 77)) J (ab J w.heap.size 0 vG A2 bi cD vW ?_));exact oE
 case inr=>have GA:=Y (fun g w=>K9 g ((m.take (a+n)).drop a) 16 6 w cC);clear hn hd;obtain⟨k1,k2,k3,k4,k5,hs0⟩:=GU (m:=m) (a:=a) n n J I;obtain⟨W,HW,B10,B12,HB,hWs⟩:=zB w;go_enter func251,ntmps251;go_wp2_with fail;rw[HW.out];refine(hb.out W).mono ?_;rintro _ w1 ⟨rfl,rfl⟩;clear hb HW;go_wp2_with fail;rw[List.take_take,Nat.min_self];refine(GA.out (w.heap.size+1) W).mono ?_;rintro _ w2 ⟨rfl,rfl⟩;have A2:=B10;have hk:=HB;clear B12 B10 HB GA;go_wp2_with(refine tO (.store 119 (.tmp 10) (.tmp 77)) J (ab J w.heap.size 0 vG A2 bi cD vW ?_));exact oE
theorem NA(k:Nat)(hkf:k=5\/k=12)(m:List UInt8)(a n:Nat)(E N:Int)(w:World)(hm:a+n<=m.length)(hl:m.length<=4000000)(O:uo E N=k)(o:Except Int (List (List UInt8)))(ho:wY (m.take (a+n)) a=o):
  Calls prog 251 #[.string (bs m),.int .i64 a,.int .i64 n,.int .i64 E,.int .i64 N] w (FZ (Ez (fun l=>{RR.zero with tg:=l}) o) w):=by
 have hb:=Y (fun w=>vL E N w);rw[O]at hb;clear O;have agu:vG.length=33:=jG;have TG:=Y (fun g w F=>Gm g vG (m.take (a+n)) a w F agu az);rw[ho]at TG;clear ho;cases o with
 |error x=>
  simp only[Ez];rcases hkf with rfl|rfl
  case inl=>obtain⟨k1,k2,k3,k4,k5,hs0⟩:=GU (m:=m) (a:=a) n n J I;obtain⟨W,HW,B10,B12,HB,hWs⟩:=zB w;go_enter func251,ntmps251;go_wp2_with fail;rw[HW.out];refine(hb.out W).mono ?_;rintro _ w1 ⟨rfl,rfl⟩;clear hb HW;go_wp2_with fail;refine(TG.out (w.heap.size+1) W B12).mono ?_;rintro _ w2 ⟨hx,rfl,B2,g2⟩;have hxz:(x !=0)=true:=iJ;have A2:=B10.grown g2 ap;have hk:=tN HB g2 HB.size I;clear B12 B10 HB TG g2;exact oJ
  case inr=>obtain⟨k1,k2,k3,k4,k5,hs0⟩:=GU (m:=m) (a:=a) n n J I;obtain⟨W,HW,B10,B12,HB,hWs⟩:=zB w;go_enter func251,ntmps251;go_wp2_with fail;rw[HW.out];refine(hb.out W).mono ?_;rintro _ w1 ⟨rfl,rfl⟩;clear hb HW;go_wp2_with fail;refine(TG.out (w.heap.size+1) W B12).mono ?_;rintro _ w2 ⟨hx,rfl,B2,g2⟩;have hxz:(x !=0)=true:=iJ;have A2:=B10.grown g2 ap;have hk:=tN HB g2 HB.size I;clear B12 B10 HB TG g2;exact oJ
 |ok l=>
  simp only[Ez];obtain⟨r,hr⟩:∃r:RR,r={RR.zero with tg:=l}:=gp;rw[<-hr];rcases hkf with rfl|rfl
  case inl=>
   obtain⟨k1,k2,k3,k4,k5,hs0⟩:=GU (m:=m) (a:=a) n n J I;obtain⟨W,HW,B10,B12,HB,hWs⟩:=zB w;go_enter func251,ntmps251;go_wp2_with fail;rw[HW.out];refine(hb.out W).mono ?_;rintro _ w1 ⟨rfl,rfl⟩;clear hb HW;go_wp2_with fail;refine(TG.out (w.heap.size+1) W B12).mono ?_;rintro _ w2 ⟨v,rfl,B2,nv,g2⟩;have A2:=B10.grown g2 ap;have hk:=tN HB g2 HB.size I;obtain⟨L,hL⟩:∃L,L=vG.set 22 v:=gp;rw[<-hL]at B2;replace hL:L=vy tS v tS r:=kQ;have hwf:r.wf:=iL;have ll:L.length=33:=jn;have l1:Hid (∀v∈L,v.oneCell'=true):=Y cE;have OW:Hid (∀w',ug w2 w'->wR w' L r):=gJ;clear hL B12 B10 HB g2 TG nv hr hwf;go_wp2_with(first
    |(refine tO (.load 119 (.tmp 12)) rfl ?_;go_must(refine tP rfl _ _ rfl (w.heap.size+1) 0 rfl B2 33 I _ underlying119 rfl uu L (wg I) ?_))
    |(refine tO (.store 119 (.tmp 10) (.tmp 79)) rfl (ab rfl w.heap.size 0 L A2 bi cf l1.out ?_)))
   exact ox
  case inr=>
   obtain⟨k1,k2,k3,k4,k5,hs0⟩:=GU (m:=m) (a:=a) n n J I;obtain⟨W,HW,B10,B12,HB,hWs⟩:=zB w;go_enter func251,ntmps251;go_wp2_with fail;rw[HW.out];refine(hb.out W).mono ?_;rintro _ w1 ⟨rfl,rfl⟩;clear hb HW;go_wp2_with fail;refine(TG.out (w.heap.size+1) W B12).mono ?_;rintro _ w2 ⟨v,rfl,B2,nv,g2⟩;have A2:=B10.grown g2 ap;have hk:=tN HB g2 HB.size I;obtain⟨L,hL⟩:∃L,L=vG.set 22 v:=gp;rw[<-hL]at B2;replace hL:L=vy tS v tS r:=kQ;have hwf:r.wf:=iL;have ll:L.length=33:=jn;have l1:Hid (∀v∈L,v.oneCell'=true):=Y cE;have OW:Hid (∀w',ug w2 w'->wR w' L r):=gJ;clear hL B12 B10 HB g2 TG nv hr hwf;go_wp2_with(first
    |(refine tO (.load 119 (.tmp 12)) rfl ?_;go_must(refine tP rfl _ _ rfl (w.heap.size+1) 0 rfl B2 33 I _ underlying119 rfl uu L (wg I) ?_))
    |(refine tO (.store 119 (.tmp 10) (.tmp 79)) rfl (ab rfl w.heap.size 0 L A2 bi cf l1.out ?_)))
   exact ox
theorem Za(m:List UInt8)(a n:Nat)(E N:Int)(w:World)(hm:a+n<=m.length)(hl:m.length<=4000000)(O:uo E N=33)(hn:6<=n)(o:Except Int (List (List UInt8)))(ho:wY (m.take (a+n)) (a+6)=o):
  Calls prog 251 #[.string (bs m),.int .i64 a,.int .i64 n,.int .i64 E,.int .i64 N] w (FZ (Ez (fun l=>{RR.zero with pri:=uN (((m.take (a+n)).drop a).take 2),we:=uN ((((m.take (a+n)).drop a).drop 2).take 2),po:=uN ((((m.take (a+n)).drop a).drop 4).take 2),tg:=l}) o) w):=by
 have hb:=Y (fun w=>vL E N w);rw[O]at hb;clear O;have agu:vG.length=33:=jG;have TG:=Y (fun g w F=>QJ g vG (m.take (a+n)) a w F agu az az az);rw[ho]at TG;clear ho;generalize uN (((m.take (a+n)).drop a).take 2)=n1 at*;generalize uN ((((m.take (a+n)).drop a).drop 2).take 2)=n2 at*;generalize uN ((((m.take (a+n)).drop a).drop 4).take 2)=n3 at*;cases o with
 |error x=>simp only[Ez];obtain⟨k1,k2,k3,k4,k5,hs0⟩:=GU (m:=m) (a:=a) n n J I;obtain⟨W,HW,B10,B12,HB,hWs⟩:=zB w;go_enter func251,ntmps251;go_wp2_with fail;rw[HW.out];refine(hb.out W).mono ?_;rintro _ w1 ⟨rfl,rfl⟩;clear hb HW;go_wp2_with fail;refine(TG.out (w.heap.size+1) W B12).mono ?_;rintro _ w2 ⟨wx,gx,hx,rfl,B2,g2'⟩;have g2:=tU gx g2' (.inl J);have hxz:(x !=0)=true:=iJ;have A2:=B10.grown g2 ap;have hk:=tN HB g2 HB.size I;clear B12 B10 HB TG g2 gx g2';exact oJ
 |ok l=>
  simp only[Ez];obtain⟨r,hr⟩:∃r:RR,r={RR.zero with pri:=n1,we:=n2,po:=n3,tg:=l}:=gp;rw[<-hr];obtain⟨k1,k2,k3,k4,k5,hs0⟩:=GU (m:=m) (a:=a) n n J I;obtain⟨W,HW,B10,B12,HB,hWs⟩:=zB w;go_enter func251,ntmps251;go_wp2_with fail;rw[HW.out];refine(hb.out W).mono ?_;rintro _ w1 ⟨rfl,rfl⟩;clear hb HW;go_wp2_with fail;refine(TG.out (w.heap.size+1) W B12).mono ?_;rintro _ w2 ⟨wx,gx,v,rfl,B2,nv,g2'⟩;have g2:=tU gx g2' (.inl J);have A2:=B10.grown g2 ap;have hk:=tN HB g2 HB.size I;obtain⟨L,hL⟩:∃L,L=(Wu vG n1 n2 n3).set 22 v:=gp;rw[<-hL]at B2;replace hL:L=vy tS v tS r:=kQ;have hwf:r.wf:=iL;have ll:L.length=33:=jn;have l1:Hid (∀v∈L,v.oneCell'=true):=Y cE;have OW:Hid (∀w',ug w2 w'->wR w' L r):=gJ;clear hL B12 B10 HB g2 gx g2' TG nv hr;go_wp2_with(first
   |(refine tO (.load 119 (.tmp 12)) rfl ?_;go_must(refine tP rfl _ _ rfl (w.heap.size+1) 0 rfl B2 33 I _ underlying119 rfl uu L (wg I) ?_))
   |(refine tO (.store 119 (.tmp 10) (.tmp 79)) rfl (ab rfl w.heap.size 0 L A2 bi cf l1.out ?_)))
  exact ox
theorem QT(m:List UInt8)(a n:Nat)(E N:Int)(w:World)(hm:a+n<=m.length)(hl:m.length<=4000000)(O:uo E N=33)(hn:n<6):
  Calls prog 251 #[.string (bs m),.int .i64 a,.int .i64 n,.int .i64 E,.int .i64 N] w (FZ (.error 5) w):=by
 have hb:=Y (fun w=>vL E N w);rw[O]at hb;clear O;have agu:vG.length=33:=jG;have TG:=Y (fun g w F=>Pf g vG (m.take (a+n)) a w F agu az az az);have hx:(5:Int)≠0:=ax;clear hn;obtain⟨k1,k2,k3,k4,k5,hs0⟩:=GU (m:=m) (a:=a) n n J I;obtain⟨W,HW,B10,B12,HB,hWs⟩:=zB w;go_enter func251,ntmps251;go_wp2_with fail;rw[HW.out];refine(hb.out W).mono ?_;rintro _ w1 ⟨rfl,rfl⟩;clear hb HW;go_wp2_with fail;refine(TG.out (w.heap.size+1) W B12).mono ?_;rintro _ w2 ⟨rfl,g2⟩;have A2:=B10.grown g2 ap;have hk:=tN HB g2 HB.size I;clear B12 B10 HB TG g2;go_wp2_with(refine tO (.store 119 (.tmp 10) (.tmp 77)) J (ab J w.heap.size 0 vG A2 bi cD vW ?_));exact oE
def Le(s:List UInt8)(a:Nat):Except Int RR:=match y6 s a with
 | .error e=>.error e
 | .ok (l,p)=>match y6 s p with
  | .error e=>.error e
  | .ok (l',q)=>if q+20=s.length then .ok {RR.zero with tg:=l,ml:=l',h1:=zh s q}else .error 5
theorem Zb{g:Nat}{s:List UInt8}{w':World}{e:Ending}(h:Ch g s a w e w'):match Le s a with
  | .error x=>x≠0/\e= .returned (.int .i64 x)/\w.grownBy w' (some g)
  | .ok r=>∃v v',e= .returned (.int .i64 0)/\Z w' g 119 (vy tS v v' r)/\r.wf/\r.name=[]/\r.raw=[]/\zK w' v r.tg/\zK w' v' r.ml/\w.grownBy w' (some g):=by
 unfold Ch at h;unfold Le;cases U:y6 s a with
 |error x=>rw[U]at h;exact h
 |ok y=>
  obtain⟨l,p⟩:=y;rw[U]at h;simp only at h⊢;cases X:y6 s p with
  |error x=>rw[X]at h;exact h
  |ok y=>
   obtain⟨l',q⟩:=y;rw[X]at h;simp only at h⊢;by_cases hq:q+20=s.length
   ·rw[if_pos hq]at h⊢;obtain⟨v,v',U,X,h3,h4,h5⟩:=h;exact⟨v,v',U,X,⟨J,J⟩,J,J,h3,h4,h5⟩
   ·rw[if_neg hq]at h⊢;exact⟨ax,h.1,h.2⟩
theorem Zc(m:List UInt8)(a n:Nat)(E N:Int)(w:World)(hm:a+n<=m.length)(hl:m.length<=4000000)(O:uo E N=6):
  Calls prog 251 #[.string (bs m),.int .i64 a,.int .i64 n,.int .i64 E,.int .i64 N] w (FZ (Le (m.take (a+n)) a) w):=by
 have hb:=Y (fun w=>vL E N w);rw[O]at hb;clear O;have agu:vG.length=33:=jG;have TG:=Y (fun g w F=>(TX g (m.take (a+n)) a w F az az).mono (fun e w' h=>Zb h));cases ho:Le (m.take (a+n)) a with
 |error x=>rw[ho]at TG;clear ho;obtain⟨k1,k2,k3,k4,k5,hs0⟩:=GU (m:=m) (a:=a) n n J I;obtain⟨W,HW,B10,B12,HB,hWs⟩:=zB w;go_enter func251,ntmps251;go_wp2_with fail;rw[HW.out];refine(hb.out W).mono ?_;rintro _ w1 ⟨rfl,rfl⟩;clear hb HW;go_wp2_with fail;refine(TG.out (w.heap.size+1) W B12).mono ?_;rintro _ w2 ⟨hx,rfl,g2⟩;have hxz:(x !=0)=true:=iJ;have A2:=B10.grown g2 ap;have hk:=tN HB g2 HB.size I;clear B12 B10 HB TG g2;exact oJ
 |ok r=>
  rw[ho]at TG;clear ho;obtain⟨k1,k2,k3,k4,k5,hs0⟩:=GU (m:=m) (a:=a) n n J I;obtain⟨W,HW,B10,B12,HB,hWs⟩:=zB w;go_enter func251,ntmps251;go_wp2_with fail;rw[HW.out];refine(hb.out W).mono ?_;rintro _ w1 ⟨rfl,rfl⟩;clear hb HW;go_wp2_with fail;refine(TG.out (w.heap.size+1) W B12).mono ?_;rintro _ w2 ⟨v,v',rfl,B2,hwf,hrn,hrr,nv,nv',g2⟩;have A2:=B10.grown g2 ap;have hk:=tN HB g2 HB.size I;obtain⟨L,hL⟩:∃L,L=vy tS v v' r:=gp;rw[<-hL]at B2;have ll:L.length=33:=jn;have l1:Hid (∀v∈L,v.oneCell'=true):=Y (by rw[hL];exact wj J nv.one nv'.one);have OW:Hid (∀w',ug w2 w'->wR w' L r):=Y (fun w' M=>⟨tS,v,v',hL,hwf,by rw[hrn];exact zK.nil _,nv.ue M,nv'.ue M,by rw[hrr];simp⟩);clear hL B12 B10 HB g2 TG nv nv' hwf hrn hrr;go_wp2_with(first
   |(refine tO (.load 119 (.tmp 12)) rfl ?_;go_must(refine tP rfl _ _ rfl (w.heap.size+1) 0 rfl B2 33 I _ underlying119 rfl uu L (wg I) ?_))
   |(refine tO (.store 119 (.tmp 10) (.tmp 79)) rfl (ab rfl w.heap.size 0 L A2 bi cf l1.out ?_)))
  exact ox
theorem Jr(E N:Int):uo E N=1\/uo E N=28\/uo E N=5\/uo E N=12\/uo E N=33\/uo E N=6\/uo E N=0:=by
 unfold uo;split
 ·rename_i h;omega
 ·simp
theorem Zd(m:List UInt8)(a n:Nat)(E N:Int)(w:World)(hm:a+n<=m.length)(hl:m.length<=4000000):
  Calls prog 251 #[.string (bs m),.int .i64 a,.int .i64 n,.int .i64 E,.int .i64 N] w (FZ (yn m a n E N) w):=by
 have hd:((m.take (a+n)).drop a).length=n:=az;rcases Jr E N with h|h|h|h|h|h|h
 ·
  by_cases hn:n=4
  ·have:=QS 1 4 (.inl ⟨J,J⟩) m a n E N w hm hl h cF;exact rq
  ·have:=Jq 1 (.inl J) m a n E N w hm hl h cG;exact tn
 ·
  have U:¬uo E N=1:=I;by_cases hn:n=16
  ·have:=QS 28 6 (.inr ⟨J,J⟩) m a n E N w hm hl h cF;exact qy
  ·have:=Jq 28 (.inr J) m a n E N w hm hl h cG;exact tp
 ·have:=NA 5 (.inl J) m a n E N w hm hl h _ J;exact qn
 ·have:=NA 12 (.inr J) m a n E N w hm hl h _ J;exact qm
 ·
  by_cases hn:n<6
  ·have:=QT m a n E N w hm hl h hn;exact tq
  ·have:=Za m a n E N w hm hl h I _ J;exact pn
 ·have:=Zc m a n E N w hm hl h;exact qY
 ·have:=Y9 m a n E N w hm hl h;exact qL
end Go.Proofs.YthnbcmlnpdabhaaGreat
