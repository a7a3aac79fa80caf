/-
  Layer 13 (rdata):name,getTarget,getAddr,getSRV.
-/
import Derived.Test.YtakkipnmpmobbaaGreatHAq
namespace Go.Proofs.YtakkipnmpmobbaaGreat
open _root_.Go.Proofs.Tryz
set_option maxHeartbeats 8000000
open Go.RowKit
set_option maxRecDepth 100000
set_option linter.unusedVariables false
set_option linter.unusedSimpArgs false
variable {m:List UInt8} {a:Nat} {w:World}
def nE(o:GO):Int:=if goE o=1 then 5 else goE o
def ad3(o:GO)(w:World)(e:Ending)(w':World):Prop:=
 ∃v,e= .returned (.tuple #[v,.int .i64 (goB o),.int .i64 (nE o)])/\tw w' v (goN o)/\ao w w'
theorem WM(m:List UInt8)(a:Nat)(w:World)(E:m.length<=4000000):Calls prog 195 #[.string (bs m),.int .i64 a] w (ad3 (Ca m a) w):=by
 have ag6:=J (Ve m a w E);generalize Ca m a=o at*;have hE:Hid (nE o=if goE o=1 then 5 else goE o):=jO;unfold IK at ag6;unfold ad3;generalize nE o=y at*;generalize goE o=x at*;generalize goB o=b at*;go_enter func195,ntmps195;go_wp2_with fail;refine ag6.out.mono ?_;rintro _ B ⟨v,rfl,hT,hB,_⟩;by_cases hx:x=1
 ·
  subst hx;obtain rfl:y=5:=by rw[hE.out];rfl
  exact rn
 ·
  have hx':(x==1)=false:=iH;obtain rfl:y=x:=by rw[hE.out,if_neg hx]
  clear hx hE;exact rn
theorem Jc{l:List (List UInt8)}{n:Nat}(h:Ca m a= .ok l n)(w:World)(E:m.length<=4000000):
  Calls prog 195 #[.string (bs m),.int .i64 a] w (fun e w'=>∃v,e= .returned (.tuple #[v,.int .i64 (n:Int),.int .i64 0])/\tw w' v l/\ao w w'):=by
 exact rj
theorem Jd{x:Int}(h:Ca m a= .err x)(w:World)(E:m.length<=4000000):
  Calls prog 195 #[.string (bs m),.int .i64 a] w (fun e w'=>∃v,e= .returned (.tuple #[v,.int .i64 0,.int .i64 (if x=1 then 5 else x)])/\tw w' v []/\ao w w'):=by
 exact rj
def ad4(g:Nat)(L:List Value)(o:Except Int (List (List UInt8)))(w:World)(e:Ending)(w':World):Prop:=
 match o with
 | .error x=>x≠0/\e= .returned (.int .i64 x)/\N w' g 201 L/\w.grownBy w' (some g)
 | .ok l=>∃v,e= .returned (.int .i64 0)/\N w' g 201 (L.set 22 v)/\y7 w' v l/\w.grownBy w' (some g)
theorem DJ(g:Nat)(L:List Value)(s:List UInt8)(a:Nat)(w:World)(Z:N w g 201 L)(E:L.length=33)(hs:s.length<=4000000):
  Calls prog 190 #[.pointer (some ⟨g,0,none⟩),.string (bs s),.int .i64 a] w (ad4 g L (vy s a) w):=by
 have hg:=Z.lt;rcases zH s a with⟨l,n,U,F,h3,h4,h5⟩|⟨x,U,F,h3,h4⟩
 ·
  have ag3:=J (Jc U w hs);unfold vy;rw[F];clear U F;by_cases hn:n=s.length
  ·subst hn;simp only[if_true];go_enter func190,ntmps190;go_wp2_with fail;refine ag3.out.mono ?_;rintro _ B ⟨v,rfl,hT,hB⟩;have B1:=Z.G hB hg;obtain⟨A,c,hv,-,-⟩:=hT.form;subst hv;clear ag3 hs;go_wp2_with(refine rF (.store 24 (.tmp 27) (.tmp 25)) I (af I g 22 _ B1 Y wS ?_));intro w2 hb2 hg2 hs2;have hT2:=y7.mk' (hT.grown hg2 B1 K) h4 h5;clear hT;go_wp2_with fail;go_ret;exact⟨_,I,hb2,hT2,rO (r5 hB _) hg2 (.inl I)⟩
  ·have hn':((n:Int) !=(s.length:Int))=true:=aB;simp only[hn,if_false];clear hn h3;go_enter func190,ntmps190;go_wp2_with fail;refine ag3.out.mono ?_;rintro _ B ⟨v,rfl,hT,hB⟩;go_wp2_with fail;go_ret;exact⟨K,I,Z.G hB hg,r5 hB _⟩
 ·have ag3:=J (Jd U w hs);unfold vy;rw[F];generalize(if x=1 then 5 else x)=y at*;have hy:=h4.nz;clear U F h3;go_enter func190,ntmps190;go_wp2_with fail;refine ag3.out.mono ?_;rintro _ B ⟨v,rfl,hT,hB⟩;go_wp2_with fail;go_ret;exact⟨h4.ne,I,Z.G hB hg,r5 hB _⟩
theorem NV{a:World}{g:Nat}(h:a.grownBy w (some g))(ds:Array Value):a.grownBy (w.setRow g ds) (some g):=
 rO h ⟨I,I,I,ar,fun k O hl=>setRow_other _ _ _ _ (fun e=>hl (by rw[e]))⟩ (.inl I)
theorem Qh(w:World){ops:Array Oper}{rest:List Oper}{o:Oper}{a:Act}{hb:Exit->Act->World->Prop}(hgd:o.guard=none)(d x:Operand)
  (ho:o.op= .call {callee:=.builtin .copy,args:= #[d,x],argTypes:= #[101,9]}) (g off len cap:Nat) (hd:a.eval d= .slice (some ⟨g,off,none⟩) len cap) (s:List UInt8) (hx:a.eval x= .string (bs s))
  {t:TypeId} {L:List Value} (Z:N w g t L) (hle:s.length<=len) (arD:off+s.length<=L.length)
  (h:∀w',N w' g t (L.take off++sN s++L.drop (off+s.length))->w.grownBy w' (some g)->wpList prog ops hb rest (a.put o.dst (.int .i64 s.length)) w'):wpList prog ops hb (o::rest) a w:=by
 refine wpList_plain hgd fun al hK=>?_
 have hr:=Lib.run_copy_row_string (P:=prog) w 101 9 o.type 5 g off len cap (bs s) L.toArray t underlying101 byteSize Z (by simpa using hle) (by simpa using arD);have e:Lib.byteCells (bs s).data.toList=sN s:=by simp[bs,Lib.byteCells,sN]
 rw[e,vB]at hr;unfold Oper.wp execOp;simp only[ho,resolve,invoke,builtin,Sem.run_bind,Sem.run_pure,Result.andThen_ok,List.map_toArray,List.map_cons,List.map_nil,hd,hx,hr];exact hK _ _ (h _ (DL Z _) (NV (World.grownBy.refl _ _) _))
def Pq(fam:Int)(d:List UInt8):RR:={RR.zero with ad:=⟨fam,d++List.replicate (16-d.length) 0,0⟩}
theorem WN(fam:Int)(d:List UInt8)(hd:d.length=4\/d.length=16):
  (vM.set 4 (.int .i64 fam)).take 5++sN d++(vM.set 4 (.int .i64 fam)).drop (5+d.length)=uz rI rI rI (Pq fam d):=by
 rcases hd with hd|hd
 ·
  have:Pq fam d={RR.zero with ad:=⟨fam,d++List.replicate 12 0,0⟩}:=by unfold Pq;rw[hd]
  exact pS
 ·
  have:Pq fam d={RR.zero with ad:=⟨fam,d++List.replicate 0 0,0⟩}:=by unfold Pq;rw[hd]
  exact pS
def afN(g:Nat)(L:List Value)(w:World)(e:Ending)(w':World):Prop:=e= .returned (.int .i64 0)/\N w' g 201 L/\w.grownBy w' (some g)
theorem TX(g:Nat)(d:List UInt8)(fam:Int)(w:World)(Z:N w g 201 vM)(hd:d.length=4\/d.length=16):
  Calls prog 189 #[.pointer (some ⟨g,0,none⟩),.string (bs d),.int .i64 d.length,.int .i64 fam] w (afN g (uz rI rI rI (Pq fam d)) w):=by
 have E:=Bd;have RC:=J (WN fam d hd);have aBJ:d.length<=16:=Y;generalize uz rI rI rI (Pq fam d)=L1 at*;generalize vM=L at*;go_enter func189,ntmps189;go_wp2_with(refine rF (.store 3 (.tmp 17) (.tmp 14)) I (af I g 4 _ Z Y tG ?_));intro B hb1 hg1 hs1;have hl1:(L.set 4 (.int .i64 fam)).length=33:=by simpa using E
 go_wp2_with(refine rF (.call {callee:=.builtin .copy,args:= #[.tmp 22,.tmp 23],argTypes:= #[101,9]}) I ?_;go_must(refine Qh _ I (.tmp 22) (.tmp 23) I g 5 16 16 I d I hb1 aBJ Y ?_));intro w2 hb2 hg2;rw[<-List.append_assoc,RC.out]at hb2;go_wp2_with fail;go_ret;exact⟨I,hb2,rO hg1 hg2 (.inl I)⟩
theorem Je(g:Nat)(d:List UInt8)(wd:Nat)(fam:Int)(w:World)(hd:d.length≠wd):
  Calls prog 189 #[.pointer (some ⟨g,0,none⟩),.string (bs d),.int .i64 wd,.int .i64 fam] w (uQ (.int .i64 5) w):=by
 have hd':((d.length:Int) !=(wd:Int))=true:=aB;clear hd;go_enter func189,ntmps189;exact mV
theorem WO(l:List UInt8)(h:l.length<6):vY (ww (ww l false 2) (vY l false 2) 2) (vY (ww l false 2) (vY l false 2) 2) 2=true:=by
 by_cases U:l.length<2
 ·simp[vY,ww,U]
 ·
  by_cases F:l.length-2<2
  ·simp[vY,ww,U,F]
  ·simp[vY,ww,U,F];omega
theorem ZF(l:List UInt8)(h:6<=l.length):vY l false 2=false/\ww l false 2=l.drop 2/\xy l false 2=l.take 2/\vY (l.drop 2) false 2=false/\ww (l.drop 2) false 2=l.drop 4/\xy (l.drop 2) false 2=(l.drop 2).take 2/\vY (l.drop 4) false 2=false/\ww (l.drop 4) false 2=l.drop 6/\xy (l.drop 4) false 2=(l.drop 4).take 2:=by
 have U:¬l.length<2:=Y;have F:¬l.length-2<2:=Y;have h3:¬l.length-4<2:=Y;simp[vY,ww,xy,U,F,h3]
theorem LO(l:List UInt8)(b:Bool)(n:Int):(ww l b n).length<=l.length:=by unfold ww;split<;>simp
def WQ(L:List Value)(a b c:Int):List Value:=((L.set 24 (.int .i64 a)).set 25 (.int .i64 b)).set 26 (.int .i64 c)
structure Nxt (d:List UInt8) (sh:Bool) (n:Nat) (d':List UInt8) (sh':Bool):Prop where
 hn:n=sY (xy d sh 2)
 hd:d'=ww d sh 2
 hs:sh'=vY d sh 2
theorem Dd(gy:Nat)(d:List UInt8)(sh:Bool)(w:World)(h:ye w gy d sh)(hm:d.length<=maxLen):
  Calls prog 172 #[.pointer (some ⟨gy,0,none⟩),.int .i64 2] w (fun e w'=>∃n d' sh',e= .returned (.int .i64 (n:Nat))/\Hid (Nxt d sh n d' sh')/\Hid (d'.length<=maxLen)/\ye w' gy d' sh'/\w.grownBy w' (some gy)):=by
 refine(Hx gy d sh 2 w h hm).mono ?_;rintro _ w' ⟨rfl,U,F⟩;exact⟨_,_,_,I,J ⟨I,I,I⟩,J (Nat.le_trans (LO _ _ _) hm),U,F⟩
theorem NW(g:Nat)(L:List Value)(s:List UInt8)(a:Nat)(w:World)(Z:N w g 201 L)(E:L.length=33)(ha:a<=s.length)(hn:s.length<a+6)(hs0:s.length<=4000000):
  Calls prog 191 #[.pointer (some ⟨g,0,none⟩),.string (bs s),.int .i64 a] w (fun e w'=>e= .returned (.int .i64 5)/\w.grownBy w' (some g)):=by
 have h2:=J (WO (s.drop a) aB);have hgl:=Z.lt;have ha':(a:Int)<=s.length:=Y;have hm:(s.drop a).length<=maxLen:=ks;have hs:=J hs0;clear hs0;go_enter func191,ntmps191;go_wp2_with fail;refine(Ba (s.drop a) w).mono ?_;rintro _ B ⟨rfl,e1,b1⟩;have B1:=Z.G b1 Z.lt;have G1:=r5 b1 (some g);have hgn:w.heap.size≠g:=Y;obtain⟨gy,hgy⟩:∃gy,gy=w.heap.size:=gh;rw[<-hgy]at e1 hgn⊢;replace hgy:w.heap.size<=gy:=Y;generalize hd0:s.drop a=d0 at*;have HD:=J hd0;clear hd0;have HM:=J hm;clear hm;go_wp2_with fail;refine(Dd gy d0 false B e1 HM.out).mono ?_;rintro _ w2 ⟨n1,d1,s1,rfl,x1,m1,e2,g2⟩;have B2:=B1.grown g2 bz;have G2:=rO G1 g2 (.inr (fun k O=>by injection O with O;omega));clear e1 b1 B1 G1 g2;go_wp2_with fail;refine(Dd gy d1 s1 w2 e2 m1.out).mono ?_;rintro _ w3 ⟨n2,d2,s2,rfl,x2,m2,e3,g3⟩;have B3:=B2.grown g3 bz;have G3:=rO G2 g3 (.inr (fun k O=>by injection O with O;omega));clear e2 B2 G2 g3;go_wp2_with fail;refine(Dd gy d2 s2 w3 e3 m2.out).mono ?_;rintro _ w4 ⟨n3,d3,s3,rfl,x3,m3,e4,g4⟩;have B4:=B3.grown g4 bz;have G4:=rO G3 g4 (.inr (fun k O=>by injection O with O;omega));clear e3 B3 G3 g4;obtain rfl:s3=true:=by rw[x3.out.hs,x2.out.hd,x2.out.hs,x1.out.hd,x1.out.hs];exact h2.out
 clear h2 x1 x2 x3;go_wp2_with(refine rF (.store 3 (.tmp 22) (.tmp 16)) I (af I g 24 _ B4 Y tG ?_));intro w5 B5 g5 _;have E5:=e4.grown g5 bB;have G5:=rO G4 g5 (.inl I);clear B4 G4 g5 e4;go_wp2_with(refine rF (.store 3 (.tmp 24) (.tmp 18)) I (af I g 25 _ B5 bC tG ?_));intro w6 B6 g6 _;have E6:=E5.grown g6 bB;have G6:=rO G5 g6 (.inl I);clear B5 G5 g6 E5;go_wp2_with(refine rF (.store 3 (.tmp 26) (.tmp 20)) I (af I g 26 _ B6 bC tG ?_));intro w7 B7 g7 _;have E7:=E6.grown g7 bB;have G7:=rO G6 g7 (.inl I);clear B6 G6 g7 E6;go_wp2_with fail;refine(En gy d3 true w7 E7).mono ?_;rintro _ w8 ⟨rfl,rfl⟩;simp only[if_true];go_wp2_with fail;go_ret;exact⟨I,G7⟩
theorem Qi(g:Nat)(L:List Value)(s:List UInt8)(a:Nat)(w:World)(Z:N w g 201 L)(E:L.length=33)(ha:a<=s.length)(hn:a+6<=s.length)(hs0:s.length<=4000000):
  Calls prog 191 #[.pointer (some ⟨g,0,none⟩),.string (bs s),.int .i64 a] w (fun e w'=>∃B,w.grownBy B (some g)/\ad4 g (WQ L (sY ((s.drop a).take 2)) (sY (((s.drop a).drop 2).take 2)) (sY (((s.drop a).drop 4).take 2))) (vy s (a+6)) B e w'):=by
 have h2:=J (ZF (s.drop a) aB);have hdl:((s.drop a).drop 6).length=s.length-(a+6):=by rw[List.drop_drop,List.length_drop]
 have hgl:=Z.lt;have ha':(a:Int)<=s.length:=Y;have hm:(s.drop a).length<=maxLen:=ks;have hs:=J hs0;clear hs0;go_enter func191,ntmps191;go_wp2_with fail;refine(Ba (s.drop a) w).mono ?_;rintro _ B ⟨rfl,e1,b1⟩;have B1:=Z.G b1 Z.lt;have G1:=r5 b1 (some g);have hgn:w.heap.size≠g:=Y;obtain⟨gy,hgy⟩:∃gy,gy=w.heap.size:=gh;rw[<-hgy]at e1 hgn⊢;replace hgy:w.heap.size<=gy:=Y;generalize hd0:s.drop a=d0 at*;have HD:=J hd0;clear hd0;have HM:=J hm;clear hm;go_wp2_with fail;refine(Dd gy d0 false B e1 HM.out).mono ?_;rintro _ w2 ⟨n1,d1,s1,rfl,x1,m1,e2,g2⟩;have B2:=B1.grown g2 bz;have G2:=rO G1 g2 (.inr (fun k O=>by injection O with O;omega));clear e1 b1 B1 G1 g2;go_wp2_with fail;refine(Dd gy d1 s1 w2 e2 m1.out).mono ?_;rintro _ w3 ⟨n2,d2,s2,rfl,x2,m2,e3,g3⟩;have B3:=B2.grown g3 bz;have G3:=rO G2 g3 (.inr (fun k O=>by injection O with O;omega));clear e2 B2 G2 g3;go_wp2_with fail;refine(Dd gy d2 s2 w3 e3 m2.out).mono ?_;rintro _ w4 ⟨n3,d3,s3,rfl,x3,m3,e4,g4⟩;have B4:=B3.grown g4 bz;have G4:=rO G3 g4 (.inr (fun k O=>by injection O with O;omega));clear e3 B3 G3 g4;obtain⟨U,F,h3,h4,h5,h6,h7,h8,h9⟩:=h2.out;obtain rfl:s1=false:=by rw[x1.out.hs];exact U
 obtain rfl:d1=d0.drop 2:=by rw[x1.out.hd];exact F
 obtain rfl:s2=false:=by rw[x2.out.hs];exact h4
 obtain rfl:d2=d0.drop 4:=by rw[x2.out.hd];exact h5
 obtain rfl:s3=false:=by rw[x3.out.hs];exact h7
 have hd3:d3=d0.drop 6:=by rw[x3.out.hd];exact h8
 have q1:=x1.out.hn;have q2:=x2.out.hn;have q3:=x3.out.hn;rw[h3]at q1;rw[h6]at q2;rw[h9]at q3;rw[<-hd3]at hdl;have Q1:=J q1;have Q2:=J q2;have Q3:=J q3;clear h2 x1 x2 x3 U F h3 h4 h5 h6 h7 h8 h9 q1 q2 q3 hd3;go_wp2_with(refine rF (.store 3 (.tmp 22) (.tmp 16)) I (af I g 24 _ B4 Y tG ?_));intro w5 B5 g5 _;have E5:=e4.grown g5 bB;have G5:=rO G4 g5 (.inl I);clear B4 G4 g5 e4;go_wp2_with(refine rF (.store 3 (.tmp 24) (.tmp 18)) I (af I g 25 _ B5 bC tG ?_));intro w6 B6 g6 _;have E6:=E5.grown g6 bB;have G6:=rO G5 g6 (.inl I);clear B5 G5 g6 E5;go_wp2_with(refine rF (.store 3 (.tmp 26) (.tmp 20)) I (af I g 26 _ B6 bC tG ?_));intro w7 B7 g7 _;have E7:=E6.grown g7 bB;have G7:=rO G6 g7 (.inl I);clear B6 G6 g7 E6;replace B7:N w7 g 201 (WQ L n1 n2 n3):=B7;have hsl:(WQ L n1 n2 n3).length=33:=by simpa[WQ]using E
 have T:=J (DJ g (WQ L n1 n2 n3) s (a+6) w7 B7 hsl hs.out);have hla:Hid (wrap64 ((s.length:Int)-(d3.length:Int))=((a+6:Nat):Int)):=J (by have:=hs.out;rw[IntWalk.wrap64_in _ Y];omega);clear hdl;go_wp2_with fail;refine(En gy d3 false w7 E7).mono ?_;rintro _ w8 ⟨rfl,rfl⟩;go_wp2_with fail;refine(Iw gy d3 false w7 E7).mono ?_;rintro _ w8 ⟨rfl,rfl⟩;cases ht:vy s (a+6)with
 |error x=>rw[ht]at T;go_wp2_with fail;rw[hla.out];refine T.out.mono ?_;rintro _ w8 ⟨hx,rfl,hT⟩;go_wp2_with fail;go_ret;refine⟨w7,G7,?_⟩;rw[HD.out,<-Q1.out,<-Q2.out,<-Q3.out,ht];exact⟨hx,I,hT⟩
 |ok l=>rw[ht]at T;go_wp2_with fail;rw[hla.out];refine T.out.mono ?_;rintro _ w8 ⟨v,rfl,hT⟩;go_wp2_with fail;go_ret;refine⟨w7,G7,?_⟩;rw[HD.out,<-Q1.out,<-Q2.out,<-Q3.out,ht];exact⟨v,I,hT⟩
def xr(d:List UInt8):Nat->List UInt8×Bool
 |0=>(d,false)
 |k+1=>(ww (xr d k).1 (xr d k).2 4,vY (xr d k).1 (xr d k).2 4)
def KC(d:List UInt8)(k:Nat):Int:=sY (xy (xr d k).1 (xr d k).2 4)
theorem Qj(d:List UInt8):∀k,(xr d k).1.length<=d.length
 |0=>Nat.le_refl _
 |k+1=>Nat.le_trans (LO _ _ _) (Qj d k)
def KE(d:List UInt8)(L:List Value)(k:Nat):List Value:=L.take 27++sO ((List.range k).map (KC d))++L.drop (27+k)
theorem Qk(d:List UInt8)(L:List Value)(k:Nat)(E:L.length=33)(O:k<=5):(KE d L k).length=33:=by
 simp[KE,sO,E];omega
theorem WR(d:List UInt8)(L:List Value):KE d L 0=L:=by simp[KE,sO]
theorem WT(d:List UInt8)(L:List Value)(k:Nat)(E:L.length=33)(O:k<5):(KE d L k).set (27+k) (.int .i64 (KC d k))=KE d L (k+1):=by
 have U:(L.take 27).length=27:=by simp[E]
 have F:(sO ((List.range k).map (KC d))).length=k:=by simp[sO]
 have h3:L.drop (27+k)=L[27+k]'Y::L.drop (27+(k+1)):=by rw[List.drop_eq_getElem_cons Y];rfl
 unfold KE;rw[List.append_assoc,List.set_append_right (h:=by omega),U,Nat.add_sub_cancel_left,List.set_append_right (h:=by omega),F,Nat.sub_self,h3,List.set_cons_zero];simp[sO,List.range_succ,List.append_assoc]
theorem Jf(d:List UInt8)(hd:d.length=20):∀k,k<=5->xr d k=(d.drop (4*k),false)
 |0,_=>rfl
 |k+1,O=>by
  rw[xr,Jf d hd k Y];have h:¬(d.drop (4*k)).length<4:=aB;simp[ww,vY,h,Nat.mul_succ];omega
theorem WU(d:List UInt8)(hd:d.length=20)(k:Nat)(O:k<5):KC d k=sY ((d.drop (4*k)).take 4):=by
 unfold KC;rw[Jf d hd k Y];have h:¬(d.length-4*k)<4:=Y;simp[xy,h]
theorem ZG(d:List UInt8)(hd:d.length=20):Wg (xr d 5).1 (xr d 5).2=0:=by
 rw[Jf d hd 5 Y];have:d.drop 20=[]:=List.drop_of_length_le Y;simp[Wg,this]
theorem Ql(d:List UInt8):∀k,(xr d k).2=true\/((xr d k).2=false/\(xr d k).1.length+4*k=d.length)
 |0=>.inr ⟨I,by simp[xr]⟩
 |k+1=>by
  rcases Ql d k with h|⟨h,E⟩
  ·exact .inl (by simp[xr,vY,h])
  ·
   by_cases h4:(xr d k).1.length<4
   ·exact .inl (by simp[xr,vY,h4])
   ·refine .inr ⟨by simp[xr,vY,h,h4],?_⟩;simp[xr,ww,h,h4];omega
theorem acr(d:List UInt8)(hd:d.length≠20):Wg (xr d 5).1 (xr d 5).2≠0:=by
 unfold Wg;rcases Ql d 5 with h|⟨h,E⟩
 ·simp[h]
 ·
  have:(xr d 5).1≠[]:=by intro e;rw[e]at E;simp at E;omega
  simp[h,this]
theorem WV(s:List UInt8)(p:Nat)(h:p+20=s.length):(List.range 5).map (KC (s.drop p))=DU s p:=by
 have hd:(s.drop p).length=20:=aB;have e:∀k,k<5->KC (s.drop p) k=sY ((s.drop (p+4*k)).take 4):=fun k O=>by rw[WU _ hd k O,List.drop_drop]
 simp only[List.range,List.range.loop,List.map_cons,List.map_nil];rw[e 0 Y,e 1 Y,e 2 Y,e 3 Y,e 4 Y];rfl
def zh(g:Nat)(s:List UInt8)(a:Nat)(w:World)(e:Ending)(w':World):Prop:=
 match xh s a with
 | .error x=>x≠0/\e= .returned (.int .i64 x)/\w.grownBy w' (some g)
 | .ok (l,p)=>match xh s p with
  | .error x=>x≠0/\e= .returned (.int .i64 x)/\w.grownBy w' (some g)
  | .ok (l',q)=>if q+20=s.length then ∃v v',e= .returned (.int .i64 0)/\N w' g 201 (uz rI v v' {RR.zero with tg:=l,ml:=l',abY:=DU s q})/\y7 w' v l/\y7 w' v' l'/\w.grownBy w' (some g)
   else e= .returned (.int .i64 5)/\w.grownBy w' (some g)
theorem WW(v v':Value)(d:List UInt8)(r:RR)(hr:r={RR.zero with abY:=(List.range 5).map (KC d)}):((KE d vM 5).set 22 v).set 23 v'=uz rI v v' r:=by subst hr;rfl
theorem TY(g:Nat)(s:List UInt8)(a:Nat)(w:World)(Z:N w g 201 vM)(ha:a<=s.length)(hs:s.length<=4000000):
  Calls prog 192 #[.pointer (some ⟨g,0,none⟩),.string (bs s),.int .i64 a] w (zh g s a w):=by
 have hgl:=Z.lt;have E:vM.length=33:=kQ;rcases zH s a with⟨l,p,U,F,h3,h4,h5⟩|⟨x,U,F,h3,h4⟩
 case inr=>have ag3:=J (Jd U w hs);have FIN:Hid (∀w',ao w w'->zh g s a w (.returned (.int .i64 (if x=1 then 5 else x))) w'):=J (fun w' hB=>by unfold zh;rw[F];exact⟨h4.ne,I,r5 hB _⟩);generalize(if x=1 then 5 else x)=y at*;have hy:=h4.nz;clear U F h3 Z;go_enter func192,ntmps192;go_wp2_with fail;refine ag3.out.mono ?_;rintro _ B ⟨v,rfl,hT,hB⟩;go_wp2_with fail;go_ret;exact FIN.out _ hB
 have ag3:=J (Jc U w hs);rcases zH s p with⟨l',q,k1,k2,k3,k4,k5⟩|⟨x,k1,k2,k3,k4⟩
 case inr=>have M:=J (fun w=>Jd k1 w hs);have FIN:Hid (∀w',ao w w'->zh g s a w (.returned (.int .i64 (if x=1 then 5 else x))) w'):=J (fun w' hB=>by unfold zh;rw[F];simp only;rw[k2];exact⟨k4.ne,I,r5 hB _⟩);generalize(if x=1 then 5 else x)=y at*;have hy:=k4.nz;clear U F h3 k1 k2 k3 Z;go_enter func192,ntmps192;go_wp2_with fail;refine ag3.out.mono ?_;rintro _ B ⟨v,rfl,hT,hB⟩;go_wp2_with fail;refine(M.out _).mono ?_;rintro _ w2 ⟨v',rfl,hT',hB'⟩;go_wp2_with fail;go_ret;exact FIN.out _ (rC hB hB.size hB')
 have M:=J (fun w=>Jc k1 w hs);have FB:Hid (q+20≠s.length->∀w',w.grownBy w' (some g)->zh g s a w (.returned (.int .i64 5)) w'):=J (fun hq w' hB=>by unfold zh;rw[F];simp only;rw[k2];simp only;rw[if_neg hq];exact⟨trivial,hB⟩);have FG:Hid (q+20=s.length->∀w' v v',N w' g 201 (((KE (s.drop q) vM 5).set 22 v).set 23 v')->y7 w' v l->y7 w' v' l'->w.grownBy w' (some g)->zh g s a w (.returned (.int .i64 0)) w'):=J (fun hq w' v v' Z n1 n2 hB=>by
  unfold zh;rw[F];simp only;rw[k2];simp only;rw[if_pos hq];rw[WW v v' _ _ I,WV s q hq]at Z;exact⟨v,v',trivial,Z,n1,n2,hB⟩)
 have hq':(q:Int)<=s.length:=Y;have hdl:(s.drop q).length<=maxLen:=ks;have hdq:(s.drop q).length=20↔q+20=s.length:=aB;clear U F h3 k1 k2 k3;go_enter func192,ntmps192;go_wp2_with fail;refine ag3.out.mono ?_;rintro _ B ⟨v,rfl,hT,hB⟩;have B1:=Z.G hB hgl;have X1:=y7.mk' hT h4 h5;obtain⟨A,c,hv,-⟩:=X1.form;clear ag3 hT;go_wp2_with fail;refine(M.out _).mono ?_;rintro _ w2 ⟨v',rfl,hT',hB'⟩;have B2:=B1.G hB' B1.lt;have X2:=y7.mk' hT' k4 k5;replace X1:=X1.rM (rZ.G hB');have HB2:=rC hB hB.size hB';obtain⟨A',c',hv',-⟩:=X2.form;subst hv;subst hv';clear M hT' hB hB' B1;go_wp2_with fail;refine(Ba (s.drop q) w2).mono ?_;rintro _ w3 ⟨rfl,e3,b3⟩;have B3:=B2.G b3 B2.lt;replace X1:=X1.rM (rZ.G b3);replace X2:=X2.rM (rZ.G b3);have G3:w.grownBy w3 (some g):=r5 (rC HB2 HB2.size b3) _;have hgy:w.heap.size<=w2.heap.size:=HB2.size;have hgn:w2.heap.size≠g:=Y;generalize w2.heap.size=gy at*;generalize s.drop q=d at*;clear B2 HB2 b3;go_wp2_with fail;go_loopw[36] (fun iv wr=>∃k:Nat,k<=5/\iv= .int .i64 k/\ye wr gy (xr d k).1 (xr d k).2/\N wr g 201 (KE d vM k)/\w.grownBy wr (some g)/\rZ w3 wr) (fun iv _=>5-(intOf iv).toNat)
 case atStart=>exact⟨0,Y,I,e3,by rw[WR];exact B3,G3,rZ.refl _⟩
 clear e3 B3 G3;obtain⟨k,O,rfl,Er,Br,Gr,Sr⟩:=hrel;by_cases aA:k<5
 case pos=>
  have h1:(k:Int)<5:=Y;have hk0:(0:Int)<=k:=Y;have NN:=J (fun w' (h:ye w' gy (xr d k).1 (xr d k).2)=>Hx gy _ _ 4 w' h (Nat.le_trans (Qj d k) hdl));rw[show((hw 4:Nat):Int)=4 from I]at NN;have SL:=J (WT d vM k E aA);have Sl:=Qk d vM k E O;change Hid (∀w',_->Calls prog _ _ w' (Iv (.int .i64 (KC d k)) gy (xr d (k+1)).1 (xr d (k+1)).2 w'))at NN;generalize KC d k=nk at*;go_wp2_with fail;refine wp_region_held_drew (S:=fun _=>True) (by kernel_rfl) trivial (fun hS=>?_)
  (refine ah 0 (some 39) I I (by kernel_rfl) (fun W hW=>rfl) hS ?_;simp only[X])
  (refine ah 1 (some 40) I I (by kernel_rfl) (fun W hW=>rfl) hS ?_;simp only[X])
  (refine ah 2 (some 41) I I (by kernel_rfl) (fun W hW=>rfl) hS ?_;simp only[X])
  (refine ah 4 (some 43) I I (by kernel_rfl) (fun W hW=>rfl) hS ?_;simp only[X])
  (refine ah 5 (some 44) I I (by kernel_rfl) (fun W hW=>rfl) hS ?_;simp only[X])
  refine rV 3 (by kernel_rfl) ?_;refine sZ 3 (some 42) 172 #[.pointer (some ⟨gy,0,none⟩),.int .i64 4] I I (by kernel_rfl) bc (NN.out _ Er.drew) ?_;rintro _ w4 ⟨rfl,e4,g4⟩;have B4:=(Br.drew).grown g4 bz;have G4:=rO (wI Gr) g4 (.inr (fun j hj=>by injection hj with hj;omega));have S4:rZ w3 w4:=Sr.trans ((rZ.G (Below.refl _ _).drew).trans (rZ.sD g4 Er.drew K));refine⟨_,I,trivial,?_⟩;simp only[X];refine ah 6 (some 45) (v:=.pointer (some ⟨g,27+k,none⟩)) I I (by kernel_rfl) (fun W hW=>by go_simp) hS ?_;simp only[X];refine rV 7 (by kernel_rfl) ?_;refine ur 7 3 (.tmp 45) (.tmp 42) I I I (by kernel_rfl) g (27+k) I (.int .i64 nk) I B4 Y tG I I ?_;intro w5 B5 g5 _;rw[SL.out]at B5;have E5:=e4.grown g5 bB;have G5:=rO G4 g5 (.inl I);have S5:=S4.trans (rZ.sD g5 B4 K);refine⟨trivial,?_⟩;simp only[X];refine wpAnyH_done (by kernel_rfl) ?_ _;clear hS B4 G4 S4 e4 g4 g5 NN SL Sl Er Br Gr Sr;go_wp2_with fail;go_roundw
  case rel=>exact⟨k+1,Y,fQ,E5,B5,G5,S5⟩
  case measure=>simp[intOf];omega
 obtain rfl:k=5:=Y;replace X1:=X1.rM Sr;replace X2:=X2.rM Sr;clear aA O Sr;have EN:=J (ab1 gy _ _ wr Er);by_cases hq:q+20=s.length
 ·rw[ZG d (hdq.2 hq)]at EN;have Sl:=Qk d vM 5 E Y;go_wp2_with fail;refine EN.out.mono ?_;rintro _ w6 ⟨rfl,rfl⟩;go_wp2_with(refine rF (.store 24 (.tmp 55) (.tmp 52)) I (af I g 22 _ Br Y wS ?_));intro w7 B7 g7 _;have Y1:=X1.rM (rZ.sD g7 Br K);have Y2:=X2.rM (rZ.sD g7 Br K);have G7:=rO Gr g7 (.inl I);go_wp2_with(refine rF (.store 24 (.tmp 57) (.tmp 53)) I (af I g 23 _ B7 bC wS ?_));intro w8 B8 g8 _;have Z1:=Y1.rM (rZ.sD g8 B7 K);have Z2:=Y2.rM (rZ.sD g8 B7 K);have G8:=rO G7 g8 (.inl I);go_wp2_with fail;go_ret;exact FG.out hq _ _ _ B8 Z1 Z2 G8
 ·
  have hl:=acr d (fun h=>hq (hdq.1 h));generalize Wg (xr d 5).1 (xr d 5).2=ev at*;have hev:(ev !=0)=true:=by simpa using hl
  go_wp2_with fail;refine EN.out.mono ?_;rintro _ w6 ⟨rfl,rfl⟩;go_wp2_with fail;go_ret;exact FB.out hq _ Gr
def Qm(o:Except Int RR)(w:World)(e:Ending)(w':World):Prop:=
 match o with
 | .error x=>x≠0/\e= .returned (.tuple #[.agg vM.toArray,.int .i64 x])/\ao w w'
 | .ok r=>∃cs,e= .returned (.tuple #[.agg cs.toArray,.int .i64 0])/\wB w' cs r/\ao w w'
theorem acs:vM.toArray= #[.slice none 0 0,.int .i64 0,.int .i64 0,.int .i64 0,.int .i64 0,.int .u8 0,.int .u8 0,.int .u8 0,.int .u8 0,.int .u8 0,.int .u8 0,.int .u8 0,.int .u8 0,.int .u8 0,.int .u8 0,.int .u8 0,.int .u8 0,.int .u8 0,.int .u8 0,.int .u8 0,.int .u8 0,.int .i64 0,.slice none 0 0,.slice none 0 0,.int .i64 0,.int .i64 0,.int .i64 0,.int .i64 0,.int .i64 0,.int .i64 0,.int .i64 0,.int .i64 0,.string ⟨#[]⟩]:=rfl
theorem Ih:∀v∈vM,v.oneCell'=true:=uX I I I
theorem WX(n:Nat)(e:Int)(he:e=n)(h:a+n<=m.length):(0:Int)<=a/\0<=e/\(a:Int)<=m.length/\e<=(m.length:Int)-a/\(a:Int)+e<=m.length/\((a:Int)+e).toNat=a+n:=by subst he;omega
theorem FJ(w:World):∃W,Hid ((w.alloc (.cells #[.slice none 0 0,.int .i64 0,.int .i64 0,.int .i64 0,.int .i64 0,.int .u8 0,.int .u8 0,.int .u8 0,.int .u8 0,.int .u8 0,.int .u8 0,.int .u8 0,.int .u8 0,.int .u8 0,.int .u8 0,.int .u8 0,.int .u8 0,.int .u8 0,.int .u8 0,.int .u8 0,.int .u8 0,.int .i64 0,.slice none 0 0,.slice none 0 0,.int .i64 0,.int .i64 0,.int .i64 0,.int .i64 0,.int .i64 0,.int .i64 0,.int .i64 0,.int .i64 0,.string ⟨#[]⟩] 201)).alloc (.cells #[.slice none 0 0,.int .i64 0,.int .i64 0,.int .i64 0,.int .i64 0,.int .u8 0,.int .u8 0,.int .u8 0,.int .u8 0,.int .u8 0,.int .u8 0,.int .u8 0,.int .u8 0,.int .u8 0,.int .u8 0,.int .u8 0,.int .u8 0,.int .u8 0,.int .u8 0,.int .u8 0,.int .u8 0,.int .i64 0,.slice none 0 0,.slice none 0 0,.int .i64 0,.int .i64 0,.int .i64 0,.int .i64 0,.int .i64 0,.int .i64 0,.int .i64 0,.int .i64 0,.string ⟨#[]⟩] 201)=W)/\N W w.heap.size 201 vM/\N W (w.heap.size+1) 201 vM/\ao w W/\W.heap.size=w.heap.size+1+1:=
 ⟨_,J I,(N.new w 201 vM).alloc _,N.uE _ _ vM _ ar,((Below.refl _ _).alloc (Nat.le_refl _) _).alloc ar _,ar⟩
theorem Qo{L:List Value}{r:RR}{vn vt vm:Value}(e:L=uz vn vt vm r)(h:r.wf):L.length=33:=by rw[e];exact uu h
theorem ZH(m:List UInt8)(a n:Nat)(Q cl:Int)(w:World)(hm:a+n<=m.length)(E:m.length<=4000000)(O:sf Q cl=0):
  Calls prog 186 #[.string (bs m),.int .i64 a,.int .i64 n,.int .i64 Q,.int .i64 cl] w (Qm (.ok {RR.zero with raw:=(m.take (a+n)).drop a}) w):=by
 have al:=J (fun w=>ti Q cl w);rw[O]at al;clear O;obtain⟨k1,k2,k3,k4,k5,hs0⟩:=WX (m:=m) (a:=a) n n I Y;obtain⟨W,HW,B10,B12,HB,hWs⟩:=FJ w;go_enter func186,ntmps186;go_wp2_with fail;rw[HW.out];refine(al.out W).mono ?_;rintro _ B ⟨rfl,rfl⟩;clear al HW;have aj4:vM.length=33:=kQ;go_wp2_with(refine rF (.store 9 (.tmp 46) (.tmp 45)) I (af I (w.heap.size+1) 32 _ B12 Y YO ?_));intro w2 B2 g2 _;have A2:=B10.grown g2 ar;have HB2:=rE HB g2 HB.size Y;rw[List.take_take,Nat.min_self]at B2;clear B12 B10 HB g2;obtain⟨L,hL⟩:∃L,L=vM.set 32 (.string (bs ((m.take (a+n)).drop a))):=gh;rw[<-hL]at B2;replace hL:L=uz rI rI rI {RR.zero with raw:=(m.take (a+n)).drop a}:=hL;have ll:L.length=33:=Qo hL ⟨I,I⟩;have l1:Hid (∀v∈L,v.oneCell'=true):=J bD;have OW:Hid (∀w',rZ w2 w'->wB w' L {RR.zero with raw:=(m.take (a+n)).drop a}):=J (fun w' _=>⟨rI,rI,rI,hL,⟨I,I⟩,y7.nil _,y7.nil _,y7.nil _,aB⟩);clear hL;exact mw
theorem Qp(k:Nat)(fam:Int)(hkf:(k=1/\fam=4)\/(k=28/\fam=6))(m:List UInt8)(a n:Nat)(Q cl:Int)(w:World)(hm:a+n<=m.length)(E:m.length<=4000000)(O:sf Q cl=k)(hn:n=if k=1 then 4 else 16):
  Calls prog 186 #[.string (bs m),.int .i64 a,.int .i64 n,.int .i64 Q,.int .i64 cl] w (Qm (.ok (Pq fam ((m.take (a+n)).drop a))) w):=by
 have al:=J (fun w=>ti Q cl w);rw[O]at al;clear O;have hd:((m.take (a+n)).drop a).length=n:=aB;have hd':((m.take (a+n)).drop a).length=4\/((m.take (a+n)).drop a).length=16:=by rw[hd,hn];split<;>simp
 have GA:=J (fun g w Z=>TX g ((m.take (a+n)).drop a) fam w Z hd');rw[hd]at GA;have hwf:(Pq fam ((m.take (a+n)).drop a)).wf:=⟨by simp only[Pq,List.length_append,List.length_replicate];omega,I⟩;obtain⟨L,hL⟩:∃L,L=uz rI rI rI (Pq fam ((m.take (a+n)).drop a)):=gh;rw[<-hL]at GA;have ll:L.length=33:=kp;have l1:Hid (∀v∈L,v.oneCell'=true):=J bD;have OW':Hid (∀w',wB w' L (Pq fam ((m.take (a+n)).drop a))):=J (fun w'=>⟨rI,rI,rI,hL,hwf,y7.nil _,y7.nil _,y7.nil _,by simp[Pq,RR.zero]⟩);generalize Pq fam ((m.take (a+n)).drop a)=r at*;have aj4:vM.length=33:=kQ;clear hL hd hd' hwf;rcases hkf with⟨rfl,rfl⟩|⟨rfl,rfl⟩
 case inl=>
  have hn4:((n:Nat):Int)=4:=by rw[hn];rfl
  rw[hn4]at GA;clear hn4 hn;obtain⟨k1,k2,k3,k4,k5,hs0⟩:=WX (m:=m) (a:=a) n n I Y;obtain⟨W,HW,B10,B12,HB,hWs⟩:=FJ w;go_enter func186,ntmps186;go_wp2_with fail;rw[HW.out];refine(al.out W).mono ?_;rintro _ B ⟨rfl,rfl⟩;clear al HW;go_wp2_with fail;rw[List.take_take,Nat.min_self];refine(GA.out (w.heap.size+1) W B12).mono ?_;rintro _ w2 ⟨rfl,B2,g2⟩;have A2:=B10.grown g2 ar;have HB2:=rE HB g2 HB.size Y;have OW:Hid (∀w',rZ w2 w'->wB w' L r):=J (fun w' _=>OW'.out w');clear B12 B10 HB g2 GA OW';exact mw
 case inr=>
  have hn4:((n:Nat):Int)=16:=by rw[hn];rfl
  rw[hn4]at GA;clear hn4 hn;obtain⟨k1,k2,k3,k4,k5,hs0⟩:=WX (m:=m) (a:=a) n n I Y;obtain⟨W,HW,B10,B12,HB,hWs⟩:=FJ w;go_enter func186,ntmps186;go_wp2_with fail;rw[HW.out];refine(al.out W).mono ?_;rintro _ B ⟨rfl,rfl⟩;clear al HW;go_wp2_with fail;rw[List.take_take,Nat.min_self];refine(GA.out (w.heap.size+1) W B12).mono ?_;rintro _ w2 ⟨rfl,B2,g2⟩;have A2:=B10.grown g2 ar;have HB2:=rE HB g2 HB.size Y;have OW:Hid (∀w',rZ w2 w'->wB w' L r):=J (fun w' _=>OW'.out w');clear B12 B10 HB g2 GA OW';exact mw
def NY{α β:Type}(f:α->β)(o:Except Int α):Except Int β:=match o with
 | .error e=>.error e
 | .ok x=>.ok (f x)
theorem GQ(k:Nat)(hkf:k=1\/k=28)(m:List UInt8)(a n:Nat)(Q cl:Int)(w:World)(hm:a+n<=m.length)(E:m.length<=4000000)(O:sf Q cl=k)(hn:n≠if k=1 then 4 else 16):
  Calls prog 186 #[.string (bs m),.int .i64 a,.int .i64 n,.int .i64 Q,.int .i64 cl] w (Qm (.error 5) w):=by
 have al:=J (fun w=>ti Q cl w);rw[O]at al;clear O;have hd:((m.take (a+n)).drop a).length=n:=aB;have aj4:vM.length=33:=kQ;have hx:(5:Int)≠0:=K;rcases hkf with rfl|rfl
 case inl=>have GA:=J (fun g w=>Je g ((m.take (a+n)).drop a) 4 4 w bF);exact mQ
 case inr=>have GA:=J (fun g w=>Je g ((m.take (a+n)).drop a) 16 6 w bF);exact mQ
theorem LX(k:Nat)(hkf:k=5\/k=12)(m:List UInt8)(a n:Nat)(Q cl:Int)(w:World)(hm:a+n<=m.length)(E:m.length<=4000000)(O:sf Q cl=k)(o:Except Int (List (List UInt8)))(ho:vy (m.take (a+n)) a=o):
  Calls prog 186 #[.string (bs m),.int .i64 a,.int .i64 n,.int .i64 Q,.int .i64 cl] w (Qm (NY (fun l=>{RR.zero with tg:=l}) o) w):=by
 have al:=J (fun w=>ti Q cl w);rw[O]at al;clear O;have aj4:vM.length=33:=kQ;have TG:=J (fun g w Z=>DJ g vM (m.take (a+n)) a w Z aj4 aB);rw[ho]at TG;clear ho;cases o with
 |error x=>
  simp only[NY];rcases hkf with rfl|rfl
  case inl=>obtain⟨k1,k2,k3,k4,k5,hs0⟩:=WX (m:=m) (a:=a) n n I Y;obtain⟨W,HW,B10,B12,HB,hWs⟩:=FJ w;go_enter func186,ntmps186;go_wp2_with fail;rw[HW.out];refine(al.out W).mono ?_;rintro _ B ⟨rfl,rfl⟩;clear al HW;go_wp2_with fail;refine(TG.out (w.heap.size+1) W B12).mono ?_;rintro _ w2 ⟨hx,rfl,B2,g2⟩;have hxz:(x !=0)=true:=iH;have A2:=B10.grown g2 ar;have HB2:=rE HB g2 HB.size Y;clear B12 B10 HB TG g2;exact mE
  case inr=>obtain⟨k1,k2,k3,k4,k5,hs0⟩:=WX (m:=m) (a:=a) n n I Y;obtain⟨W,HW,B10,B12,HB,hWs⟩:=FJ w;go_enter func186,ntmps186;go_wp2_with fail;rw[HW.out];refine(al.out W).mono ?_;rintro _ B ⟨rfl,rfl⟩;clear al HW;go_wp2_with fail;refine(TG.out (w.heap.size+1) W B12).mono ?_;rintro _ w2 ⟨hx,rfl,B2,g2⟩;have hxz:(x !=0)=true:=iH;have A2:=B10.grown g2 ar;have HB2:=rE HB g2 HB.size Y;clear B12 B10 HB TG g2;exact mE
 |ok l=>
  simp only[NY];obtain⟨r,hr⟩:∃r:RR,r={RR.zero with tg:=l}:=gh;rw[<-hr];rcases hkf with rfl|rfl
  case inl=>obtain⟨k1,k2,k3,k4,k5,hs0⟩:=WX (m:=m) (a:=a) n n I Y;obtain⟨W,HW,B10,B12,HB,hWs⟩:=FJ w;go_enter func186,ntmps186;go_wp2_with fail;rw[HW.out];refine(al.out W).mono ?_;rintro _ B ⟨rfl,rfl⟩;clear al HW;go_wp2_with fail;refine(TG.out (w.heap.size+1) W B12).mono ?_;rintro _ w2 ⟨v,rfl,B2,nv,g2⟩;have A2:=B10.grown g2 ar;have HB2:=rE HB g2 HB.size Y;obtain⟨L,hL⟩:∃L,L=vM.set 22 v:=gh;rw[<-hL]at B2;replace hL:L=uz rI v rI r:=kY;have hwf:r.wf:=jA;have ll:L.length=33:=kp;have l1:Hid (∀v∈L,v.oneCell'=true):=J bH;have OW:Hid (∀w',rZ w2 w'->wB w' L r):=gD;clear hL B12 B10 HB g2 TG nv hr hwf;exact mw
  case inr=>obtain⟨k1,k2,k3,k4,k5,hs0⟩:=WX (m:=m) (a:=a) n n I Y;obtain⟨W,HW,B10,B12,HB,hWs⟩:=FJ w;go_enter func186,ntmps186;go_wp2_with fail;rw[HW.out];refine(al.out W).mono ?_;rintro _ B ⟨rfl,rfl⟩;clear al HW;go_wp2_with fail;refine(TG.out (w.heap.size+1) W B12).mono ?_;rintro _ w2 ⟨v,rfl,B2,nv,g2⟩;have A2:=B10.grown g2 ar;have HB2:=rE HB g2 HB.size Y;obtain⟨L,hL⟩:∃L,L=vM.set 22 v:=gh;rw[<-hL]at B2;replace hL:L=uz rI v rI r:=kY;have hwf:r.wf:=jA;have ll:L.length=33:=kp;have l1:Hid (∀v∈L,v.oneCell'=true):=J bH;have OW:Hid (∀w',rZ w2 w'->wB w' L r):=gD;clear hL B12 B10 HB g2 TG nv hr hwf;exact mw
theorem ZI(m:List UInt8)(a n:Nat)(Q cl:Int)(w:World)(hm:a+n<=m.length)(E:m.length<=4000000)(O:sf Q cl=33)(hn:6<=n)(o:Except Int (List (List UInt8)))(ho:vy (m.take (a+n)) (a+6)=o):
  Calls prog 186 #[.string (bs m),.int .i64 a,.int .i64 n,.int .i64 Q,.int .i64 cl] w (Qm (NY (fun l=>{RR.zero with pri:=sY (((m.take (a+n)).drop a).take 2),we:=sY ((((m.take (a+n)).drop a).drop 2).take 2),po:=sY ((((m.take (a+n)).drop a).drop 4).take 2),tg:=l}) o) w):=by
 have al:=J (fun w=>ti Q cl w);rw[O]at al;clear O;have aj4:vM.length=33:=kQ;have TG:=J (fun g w Z=>Qi g vM (m.take (a+n)) a w Z aj4 aB aB aB);rw[ho]at TG;clear ho;generalize sY (((m.take (a+n)).drop a).take 2)=n1 at*;generalize sY ((((m.take (a+n)).drop a).drop 2).take 2)=n2 at*;generalize sY ((((m.take (a+n)).drop a).drop 4).take 2)=n3 at*;cases o with
 |error x=>simp only[NY];obtain⟨k1,k2,k3,k4,k5,hs0⟩:=WX (m:=m) (a:=a) n n I Y;obtain⟨W,HW,B10,B12,HB,hWs⟩:=FJ w;go_enter func186,ntmps186;go_wp2_with fail;rw[HW.out];refine(al.out W).mono ?_;rintro _ B ⟨rfl,rfl⟩;clear al HW;go_wp2_with fail;refine(TG.out (w.heap.size+1) W B12).mono ?_;rintro _ w2 ⟨wx,gx,hx,rfl,B2,g2'⟩;have g2:=rO gx g2' (.inl I);have hxz:(x !=0)=true:=iH;have A2:=B10.grown g2 ar;have HB2:=rE HB g2 HB.size Y;clear B12 B10 HB TG g2 gx g2';exact mE
 |ok l=>simp only[NY];obtain⟨r,hr⟩:∃r:RR,r={RR.zero with pri:=n1,we:=n2,po:=n3,tg:=l}:=gh;rw[<-hr];obtain⟨k1,k2,k3,k4,k5,hs0⟩:=WX (m:=m) (a:=a) n n I Y;obtain⟨W,HW,B10,B12,HB,hWs⟩:=FJ w;go_enter func186,ntmps186;go_wp2_with fail;rw[HW.out];refine(al.out W).mono ?_;rintro _ B ⟨rfl,rfl⟩;clear al HW;go_wp2_with fail;refine(TG.out (w.heap.size+1) W B12).mono ?_;rintro _ w2 ⟨wx,gx,v,rfl,B2,nv,g2'⟩;have g2:=rO gx g2' (.inl I);have A2:=B10.grown g2 ar;have HB2:=rE HB g2 HB.size Y;obtain⟨L,hL⟩:∃L,L=(WQ vM n1 n2 n3).set 22 v:=gh;rw[<-hL]at B2;replace hL:L=uz rI v rI r:=kY;have hwf:r.wf:=jA;have ll:L.length=33:=kp;have l1:Hid (∀v∈L,v.oneCell'=true):=J bH;have OW:Hid (∀w',rZ w2 w'->wB w' L r):=gD;clear hL B12 B10 HB g2 gx g2' TG nv hr;exact mw
theorem Qq(m:List UInt8)(a n:Nat)(Q cl:Int)(w:World)(hm:a+n<=m.length)(E:m.length<=4000000)(O:sf Q cl=33)(hn:n<6):
  Calls prog 186 #[.string (bs m),.int .i64 a,.int .i64 n,.int .i64 Q,.int .i64 cl] w (Qm (.error 5) w):=by
 have al:=J (fun w=>ti Q cl w);rw[O]at al;clear O;have aj4:vM.length=33:=kQ;have TG:=J (fun g w Z=>NW g vM (m.take (a+n)) a w Z aj4 aB aB aB);have hx:(5:Int)≠0:=K;clear hn;obtain⟨k1,k2,k3,k4,k5,hs0⟩:=WX (m:=m) (a:=a) n n I Y;obtain⟨W,HW,B10,B12,HB,hWs⟩:=FJ w;go_enter func186,ntmps186;go_wp2_with fail;rw[HW.out];refine(al.out W).mono ?_;rintro _ B ⟨rfl,rfl⟩;clear al HW;go_wp2_with fail;refine(TG.out (w.heap.size+1) W B12).mono ?_;rintro _ w2 ⟨rfl,g2⟩;have A2:=B10.grown g2 ar;have HB2:=rE HB g2 HB.size Y;clear B12 B10 HB TG g2;go_wp2_with(refine rF (.store 201 (.tmp 10) (.tmp 77)) I (ab I w.heap.size 0 vM A2 a7 bG Ih ?_));intro w3 hb3 hg3 _;rw[List.drop_of_length_le a7,List.append_nil]at hb3;have HB3:=rE HB2 hg3 HB2.size (Nat.le_refl _);clear hg3 A2 HB2;go_wp2_with fail;refine tj I w.heap.size I hb3 _ underlying201 I bG I (.int .i64 5) I ?_;exact⟨hx,I,HB3⟩
def ZJ(s:List UInt8)(a:Nat):Except Int RR:=match xh s a with
 | .error e=>.error e
 | .ok (l,p)=>match xh s p with
  | .error e=>.error e
  | .ok (l',q)=>if q+20=s.length then .ok {RR.zero with tg:=l,ml:=l',abY:=DU s q}else .error 5
theorem ZK{g:Nat}{s:List UInt8}{w':World}{e:Ending}(h:zh g s a w e w'):match ZJ s a with
  | .error x=>x≠0/\e= .returned (.int .i64 x)/\w.grownBy w' (some g)
  | .ok r=>∃v v',e= .returned (.int .i64 0)/\N w' g 201 (uz rI v v' r)/\r.wf/\r.name=[]/\r.raw=[]/\y7 w' v r.tg/\y7 w' v' r.ml/\w.grownBy w' (some g):=by
 unfold zh at h;unfold ZJ;cases U:xh s a with
 |error x=>rw[U]at h;exact h
 |ok y=>
  obtain⟨l,p⟩:=y;rw[U]at h;simp only at h⊢;cases F:xh s p with
  |error x=>rw[F]at h;exact h
  |ok y=>
   obtain⟨l',q⟩:=y;rw[F]at h;simp only at h⊢;by_cases hq:q+20=s.length
   ·rw[if_pos hq]at h⊢;obtain⟨v,v',U,F,h3,h4,h5⟩:=h;exact⟨v,v',U,F,⟨I,I⟩,I,I,h3,h4,h5⟩
   ·rw[if_neg hq]at h⊢;exact⟨K,h.1,h.2⟩
theorem ZM(m:List UInt8)(a n:Nat)(Q cl:Int)(w:World)(hm:a+n<=m.length)(E:m.length<=4000000)(O:sf Q cl=6):
  Calls prog 186 #[.string (bs m),.int .i64 a,.int .i64 n,.int .i64 Q,.int .i64 cl] w (Qm (ZJ (m.take (a+n)) a) w):=by
 have al:=J (fun w=>ti Q cl w);rw[O]at al;clear O;have aj4:vM.length=33:=kQ;have TG:=J (fun g w Z=>(TY g (m.take (a+n)) a w Z aB aB).mono (fun e w' h=>ZK h));cases ho:ZJ (m.take (a+n)) a with
 |error x=>rw[ho]at TG;clear ho;obtain⟨k1,k2,k3,k4,k5,hs0⟩:=WX (m:=m) (a:=a) n n I Y;obtain⟨W,HW,B10,B12,HB,hWs⟩:=FJ w;go_enter func186,ntmps186;go_wp2_with fail;rw[HW.out];refine(al.out W).mono ?_;rintro _ B ⟨rfl,rfl⟩;clear al HW;go_wp2_with fail;refine(TG.out (w.heap.size+1) W B12).mono ?_;rintro _ w2 ⟨hx,rfl,g2⟩;have hxz:(x !=0)=true:=iH;have A2:=B10.grown g2 ar;have HB2:=rE HB g2 HB.size Y;clear B12 B10 HB TG g2;exact mE
 |ok r=>rw[ho]at TG;clear ho;obtain⟨k1,k2,k3,k4,k5,hs0⟩:=WX (m:=m) (a:=a) n n I Y;obtain⟨W,HW,B10,B12,HB,hWs⟩:=FJ w;go_enter func186,ntmps186;go_wp2_with fail;rw[HW.out];refine(al.out W).mono ?_;rintro _ B ⟨rfl,rfl⟩;clear al HW;go_wp2_with fail;refine(TG.out (w.heap.size+1) W B12).mono ?_;rintro _ w2 ⟨v,v',rfl,B2,hwf,hrn,hrr,nv,nv',g2⟩;have A2:=B10.grown g2 ar;have HB2:=rE HB g2 HB.size Y;obtain⟨L,hL⟩:∃L,L=uz rI v v' r:=gh;rw[<-hL]at B2;have ll:L.length=33:=kp;have l1:Hid (∀v∈L,v.oneCell'=true):=J (by rw[hL];exact uX I nv.one nv'.one);have OW:Hid (∀w',rZ w2 w'->wB w' L r):=J (fun w' hS=>⟨rI,v,v',hL,hwf,by rw[hrn];exact y7.nil _,nv.rM hS,nv'.rM hS,by rw[hrr];simp⟩);clear hL B12 B10 HB g2 TG nv nv' hwf hrn hrr;exact mw
theorem Qr(Q cl:Int):sf Q cl=1\/sf Q cl=28\/sf Q cl=5\/sf Q cl=12\/sf Q cl=33\/sf Q cl=6\/sf Q cl=0:=by
 unfold sf;split
 ·rename_i h;omega
 ·simp
theorem ZN(m:List UInt8)(a n:Nat)(Q cl:Int)(w:World)(hm:a+n<=m.length)(E:m.length<=4000000):
  Calls prog 186 #[.string (bs m),.int .i64 a,.int .i64 n,.int .i64 Q,.int .i64 cl] w (Qm (wN m a n Q cl) w):=by
 have hd:((m.take (a+n)).drop a).length=n:=aB;rcases Qr Q cl with h|h|h|h|h|h|h
 ·
  by_cases hn:n=4
  ·
   have:=Qp 1 4 (.inl ⟨I,I⟩) m a n Q cl w hm E h (by rw[hn];rfl);have e:wN m a n Q cl= .ok (Pq 4 ((m.take (a+n)).drop a)):=by unfold wN Pq;rw[if_pos h,if_pos hn,hd,hn]
   rw[e];exact this
  ·
   have:=GQ 1 (.inl I) m a n Q cl w hm E h (by simpa using hn);have e:wN m a n Q cl= .error 5:=by unfold wN;rw[if_pos h,if_neg hn]
   rw[e];exact this
 ·
  have U:¬sf Q cl=1:=Y;by_cases hn:n=16
  ·
   have:=Qp 28 6 (.inr ⟨I,I⟩) m a n Q cl w hm E h (by rw[hn];rfl);have e:wN m a n Q cl= .ok (Pq 6 ((m.take (a+n)).drop a)):=by unfold wN Pq;rw[if_neg U,if_pos h,if_pos hn,hd,hn,Nat.sub_self,List.replicate_zero,List.append_nil]
   rw[e];exact this
  ·
   have:=GQ 28 (.inr I) m a n Q cl w hm E h (by simpa using hn);have e:wN m a n Q cl= .error 5:=by unfold wN;rw[if_neg U,if_pos h,if_neg hn]
   rw[e];exact this
 ·
  have:=LX 5 (.inl I) m a n Q cl w hm E h _ I;have e:wN m a n Q cl=NY (fun l=>{RR.zero with tg:=l}) (vy (m.take (a+n)) a):=by unfold wN;rw[if_neg Y,if_neg Y,if_pos (.inl h)];cases vy (m.take (a+n)) a<;>rfl
  rw[e];exact this
 ·
  have:=LX 12 (.inr I) m a n Q cl w hm E h _ I;have e:wN m a n Q cl=NY (fun l=>{RR.zero with tg:=l}) (vy (m.take (a+n)) a):=by unfold wN;rw[if_neg Y,if_neg Y,if_pos (.inr h)];cases vy (m.take (a+n)) a<;>rfl
  rw[e];exact this
 ·
  by_cases hn:n<6
  ·
   have:=Qq m a n Q cl w hm E h hn;have e:wN m a n Q cl= .error 5:=by unfold wN;rw[if_neg Y,if_neg Y,if_neg Y,if_pos h,if_pos hn]
   rw[e];exact this
  ·
   have:=ZI m a n Q cl w hm E h Y _ I;have e:wN m a n Q cl=NY (fun l=>{RR.zero with pri:=sY (((m.take (a+n)).drop a).take 2),we:=sY ((((m.take (a+n)).drop a).drop 2).take 2),po:=sY ((((m.take (a+n)).drop a).drop 4).take 2),tg:=l}) (vy (m.take (a+n)) (a+6)):=by unfold wN;rw[if_neg Y,if_neg Y,if_neg Y,if_pos h,if_neg hn];cases vy (m.take (a+n)) (a+6)<;>rfl
   rw[e];exact this
 ·
  have:=ZM m a n Q cl w hm E h;have e:wN m a n Q cl=ZJ (m.take (a+n)) a:=by unfold wN;rw[if_neg Y,if_neg Y,if_neg Y,if_neg Y,if_pos h];rfl
  rw[e];exact this
 ·
  have:=ZH m a n Q cl w hm E h;have e:wN m a n Q cl= .ok {RR.zero with raw:=(m.take (a+n)).drop a}:=by unfold wN;rw[if_neg Y,if_neg Y,if_neg Y,if_neg Y,if_neg Y]
  rw[e];exact this
end Go.Proofs.YtakkipnmpmobbaaGreat
