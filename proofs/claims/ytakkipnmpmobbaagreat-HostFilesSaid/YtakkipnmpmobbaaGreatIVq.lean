/-
  Layer 32 (pair):the addresses of all that found something.
-/
import Derived.Test.YtakkipnmpmobbaaGreatITq
import Derived.Test.YtakkipnmpmobbaaGreatIUq
namespace Go.Proofs.YtakkipnmpmobbaaGreat
open _root_.Go.Proofs.Tryz
set_option maxHeartbeats 8000000
open Go.RowKit Go.Maps
set_option maxRecDepth 100000
set_option linter.unusedVariables false
set_option linter.unusedSimpArgs false
variable {w w':World} {b Hh k g3 tk H:Nat} {e:TypeId} {vn va:Value} {ttl:Int}
theorem Hr(w:World){ops:Array Oper}{rest:List Oper}{o:Oper}{ac:Act}{hb:Exit->Act->World->Prop}(hg:o.guard=none)(m x v:Operand)(hop:o.op=Op.mapUpdate 182 m x v)
  (b n:Nat) (xs:List sg) (a:sg) (hm:ac.eval m= .map (some b)) (hx:ac.eval x= .agg a.cells.toArray) (hv:ac.eval v= .int .i64 1) (h:zT w b n xs) (ha:adF a) (hn:n<maxLen)
  (hK:∀w',zT w' b (n+1) (xs++[a])->w.grownBy w' (some b)->wpList prog ops hb rest (ac.put o.dst undef) w'):wpList prog ops hb (o::rest) ac w:=by
 refine wpList_plain hg fun K' hK'=>?_
 obtain⟨w',ai9,r1,r2⟩:=h.store a ha hn;unfold Oper.wp;simp[execOp,hop,hm,hx,hv,ai9,Result.andThen];exact hK' _ _ (hK w' r1 r2)
theorem zT.OX{α:Type}{n:Nat}{xs:List sg}{R:List Value->α->Prop}{v:Value}{l:List α}(h:zT w b n xs)(ho:rJ w Hh e k R v l):some b≠v.ownBlock:=by
 obtain⟨css,ho,_⟩:=ho;rcases ho.2 with⟨rfl,_⟩|⟨g,cap,cur,rfl,_,hh,_⟩
 ·simp[Value.ownBlock]
 ·
  intro e;have:b=g:=by simpa[Value.ownBlock]using e
  subst this;obtain⟨D,⟨es,cl,hm,_⟩,_⟩:=h;rw[hh]at hm;cases hm
theorem rJ.map{α:Type}{R:List Value->α->Prop}{v:Value}{l:List α}(ho:rJ w Hh e k R v l)(hg:w.grownBy w' (some b))(hl:some b≠v.ownBlock):rJ w' Hh e k R v l:=
 ho.rM (fun _ x=>World.ownsRow.kept x hg (.inr (fun c=>hl c.symm))) (fun _ _ x=>x)
theorem MW:(prog.info? 50).map (·.size)=some 4:=by kernel_rfl
theorem aeb:(prog.info? 25).map (·.size)=some 1:=by kernel_rfl
def Eh(l:List Td)(a:sg):Prop:=∃t∈l,t.vd=1/\∃f,uO t.q t.m.an 16 0 t.q.name none= .ok f/\∃r∈f.ag7,r.ad=a
structure VW (w:World) (g3 gm:Nat) (vn:Value) (ttl:Int) (va:Value) (xs:List sg):Prop where
 b3:N w g3 50 [.int .i64 1,va,vn,.int .i64 ttl]
 own:uG w g3 va xs
 map:zT w gm xs.length xs
 nd:xs.Nodup
 ln:xs.length<=64
theorem VW.G{gm:Nat}{xs:List sg}(h:VW w g3 gm vn ttl va xs)(k:ao w w'):VW w' g3 gm vn ttl va xs:=
 ⟨h.b3.G k h.b3.lt,rJ.G h.own k (fun _ _ x=>x),h.map.kept (r5 k none) ar,h.nd,h.ln⟩
theorem VW.put{gm:Nat}{vn':Value}{aul:Int}{xs:List sg}(h:VW w g3 gm vn ttl va xs)(hg:w.grownBy w' (some g3))(Z:N w' g3 50 [.int .i64 1,va,vn',.int .i64 aul]):VW w' g3 gm vn' aul va xs:=
 ⟨Z,h.own.sD hg h.b3 K,h.map.kept hg (by intro c;injection c with c;exact h.map.Co h.b3 c),h.nd,h.ln⟩
def tdZ:List Value:=qC rI ⟨[],0,0⟩++(Value.int .i64 0::sV)
theorem VX:tdZ.length=18:=by simp[tdZ,qC,Cw]
def age(t:Td):Prop:=t.q.name.length<=100000/\(t.vd=1->∃f,uO t.q t.m.an 16 0 t.q.name none= .ok f/\∀r∈f.ag7,adF r.ad)
def UH(l:List Td)(w:World)(e:Ending)(w':World):Prop:=∃va vn ttl xs,e= .returned (.agg [.int .i64 1,va,vn,.int .i64 ttl].toArray)/\vn.oneCell'=true/\uG w' 0 va xs/\((∃t∈l,t.vd=1)->xs≠[])/\xs.Nodup/\xs.length<=64/\(∀a∈xs,Eh l a)/\ao w w'
theorem RX(w:World)(Hh:Nat)(A:Option Addr)(c:Nat)(l:List Td)(h:yG w Hh (.slice A l.length c) l)(E:l.length<=2)(hok:∀t∈l,age t):
  Calls prog 105 #[.slice A l.length c] w (UH l w):=by
 have HH:=Lib.hid h;have HOK:=J hok;have hmm:= @run_makeMap prog;obtain⟨n,hn⟩:=aq l.length;have HHn:=HH;rw[hn.out]at E⊢;clear h hok;go_enter func105,ntmps105;go_wp2_with fail;clear hmm;have HB0:Below w.heap.size w (((w.alloc (.cells #[.int .i64 0,.slice none 0 0,.slice none 0 0,.int .i64 0] 50)).alloc (.cells #[.int .i64 1,.slice none 0 0,.slice none 0 0,.int .i64 0] 50)).alloc (.map #[] 0)):=ic;have hZ0:N (((w.alloc (.cells #[.int .i64 0,.slice none 0 0,.slice none 0 0,.int .i64 0] 50)).alloc (.cells #[.int .i64 1,.slice none 0 0,.slice none 0 0,.int .i64 0] 50)).alloc (.map #[] 0)) w.heap.size 50 [.int .i64 0,rI,rI,.int .i64 0]:=((N.new w 50 [.int .i64 0,rI,rI,.int .i64 0]).alloc _).alloc _;have AX0:VW (((w.alloc (.cells #[.int .i64 0,.slice none 0 0,.slice none 0 0,.int .i64 0] 50)).alloc (.cells #[.int .i64 1,.slice none 0 0,.slice none 0 0,.int .i64 0] 50)).alloc (.map #[] 0)) (w.heap.size+1) (w.heap.size+1+1) rI 0 rI []:=
  ⟨(N.uE (w.alloc (.cells #[.int .i64 0,.slice none 0 0,.slice none 0 0,.int .i64 0] 50)) 50 [.int .i64 1,rI,rI,.int .i64 0] (w.heap.size+1) ar).alloc _,rJ.nil _ _ _ _ _,by
   have:=zT.made ((w.alloc (.cells #[.int .i64 0,.slice none 0 0,.slice none 0 0,.int .i64 0] 50)).alloc (.cells #[.int .i64 1,.slice none 0 0,.slice none 0 0,.int .i64 0] 50));simpa using this,List.nodup_nil,Nat.zero_le _⟩
 obtain⟨gm,hgm⟩:=aq (w.heap.size+1+1);obtain⟨g3,hg3⟩:=aq (w.heap.size+1);have aLX:w.heap.size<g3:=by rw[<-hg3.out];omega
 have aLP:w.heap.size<gm:=by rw[<-hgm.out];omega
 rw[hgm.out,hg3.out]at AX0;rw[hgm.out,hg3.out];obtain⟨W0,hW0⟩:=aq ((((w.alloc (.cells #[.int .i64 0,.slice none 0 0,.slice none 0 0,.int .i64 0] 50)).alloc (.cells #[.int .i64 1,.slice none 0 0,.slice none 0 0,.int .i64 0] 50)).alloc (.map #[] 0)));rw[hW0.out]at AX0 HB0 hZ0;rw[hW0.out];have axp:=J AX0;clear AX0 hg3 hgm hW0;go_loopw[5,16] (fun sv iv wr=>∃(i:Nat) (sb:Bool) (va:Value) (An:Option Addr) (nn cn:Nat) (ttl:Int) (xs:List sg),i<=n/\sv= .bool sb/\iv= .int .i64 i/\Hid (VW wr g3 gm (.slice An nn cn) ttl va xs)/\Hid (∀a∈xs,Eh l a)/\Hid ((∃t∈l.take i,t.vd=1)->xs≠[])/\ao w wr/\N wr w.heap.size 50 [.int .i64 0,rI,rI,.int .i64 0]) (fun _ iv _=>n-(intOf iv).toNat)
 case atStart=>exact⟨0,false,rI,none,0,0,0,[],Nat.zero_le _,I,I,axp,J (fun a h=>by cases h),J (fun h=>by obtain⟨t,ht,_⟩:=h;cases ht),HB0,hZ0⟩
 clear axp HB0 hZ0;obtain⟨i,sb,va,An,nn,cn,ttl,xs,hi,rfl,rfl,HX,HF,HE,HB,BZ⟩:=hrel;by_cases aA:i<n
 case pos=>
  have h1:(i:Int)<n:=Y;have hlp:i<l.length:=gM;obtain⟨gs,hA,hgs,ag8⟩:=rJ.rU (R:=Ip w) (k:=18) (fun _ _ x=>x.len) HH.out Y;obtain⟨cs,ahi,hT⟩:=ag8 i hlp;have key:∃off,A=some ⟨gs,off,none⟩/\w.rangeAt gs (off+i*18) cs:=⟨0,hA,ahi⟩;clear hA ahi;obtain⟨off,hA,hcs⟩:=key;have re:=rN hcs HB hgs;have hcl:=hT.len;have hT1:=hT.one;have hT3:=hT.vd;obtain⟨hq5,hfo⟩:=HOK.out l[i] (List.getElem_mem hlp);have htk:l.take (i+1)=l.take i++[l[i]]:=List.take_succ_eq_append_getElem hlp;have ars:l[i]∈l:=List.getElem_mem hlp;obtain⟨t,ht⟩:∃t,l[i]=t:=gh;rw[ht]at hT hT3 hq5 hfo htk ars;have HTK:=J htk;have HFO:=J hfo;have HM:=J ars;have HT:=J hT;have Zt:=N.new wr 186 tdZ;have kz:Below wr.heap.size wr (wr.alloc (.cells tdZ.toArray 186)):=fZ;have hBs:=HB.size;subst hA;clear ag8 hcs ht htk hfo ars hT hlp;go_upto_block 1 with fail;go_cut[5] (fun sv wx=>∃(sb:Bool) (va:Value) (An:Option Addr) (nn cn:Nat) (ttl:Int) (xs:List sg),sv= .bool sb/\Hid (VW wx g3 gm (.slice An nn cn) ttl va xs)/\Hid (∀a∈xs,Eh l a)/\Hid ((∃t∈l.take (i+1),t.vd=1)->xs≠[])/\ao w wx/\N wx w.heap.size 50 [.int .i64 0,rI,rI,.int .i64 0])
  case first=>
   go_wp2_with(first
    |(refine rF (.load 186 (.tmp 18)) rfl ?_;go_must(refine sr rfl 186 (.tmp 18) rfl gs (off+i*18) rfl cs re _ underlying186 rfl dT ?_))
    |(refine rF (.store 186 (.tmp 7) (.tmp 19)) rfl (ab rfl wr.heap.size 0 cs Zt (by rw[hcl,VX];decide) dT hT1 ?_)))
   intro B B1 g1 s1;have C1:N B wr.heap.size 186 cs:=by
    have e:cs++tdZ.drop 18=cs:=by rw[List.drop_of_length_le (by rw[VX];exact Nat.le_refl _),List.append_nil]
    have B1':N B wr.heap.size 186 (cs++tdZ.drop 18):=by simpa[hcl]using B1
    rwa[e]at B1'
   have k1:ao wr B:=rE kz g1 kz.size (Nat.le_refl _);have H1:=rC HB hBs k1;have X1:=HX.out.G k1;have Z1:=BZ.G k1 BZ.lt;have d3:=C1.rD 3 hT3;clear Zt kz B1 g1 s1 HX BZ re;obtain⟨gt,hgt⟩:∃gt,wr.heap.size=gt:=gh;rw[hgt]at C1 d3⊢;clear hgt;by_cases hvd:t.vd=1
   case neg=>
    have hv':(t.vd !=1)=true:=by simpa using hvd
    have HE2:Hid ((∃t∈l.take (i+1),t.vd=1)->xs≠[]):=J (by
     rw[HTK.out];rintro⟨t',ht',e'⟩;rcases List.mem_append.1 ht' with h|h
     ·exact HE.out ⟨t',h,e'⟩
     ·
      simp only[List.mem_singleton]at h;subst h;exact absurd e' hvd)
    have HX1:=J X1;clear hvd HTK HE X1 HFO;generalize t.vd=tv at*;go_wp2_with fail;go_meet
    case rel=>exact⟨sb,va,An,nn,cn,ttl,xs,I,HX1,HF,HE2,H1,Z1⟩
   case pos=>
    obtain⟨f,hf,hfa⟩:=HFO.out hvd;obtain⟨vq,ds,arI,hNq,hM⟩:=HT.out;obtain⟨Aq,cq,hvq,hNR⟩:=hNq.form;obtain⟨mq,ma,mu,me,hds,k2,kA,k3,k4,l1,lA,_⟩:=hM;obtain⟨Aa,ca,hva⟩:=rJ.form kA;subst hvq hva;have d15:B.cell? ⟨gt,15,none⟩=some (.slice Aa t.m.an.length ca):=C1.rD 15 (by rw[arI,hds];rfl);have hQ:(cs.drop 0).take 3=qC (.slice Aq t.q.name.length cq) t.q:=by rw[arI];rfl
    have FOL:=J (JI t.q Aq Aa cq ca t.m.an B (hNR.G H1) hq5 (sM.G kA H1) lA);rw[hf]at FOL;unfold Om at FOL;obtain⟨fr1,fr2⟩:=BI _ _ _ _ _ _ _ hf;have hrl:f.ag7.length<=65535:=by rw[fr2];exact Nat.le_trans (List.length_filter_le _ _) lA
    have HFR:Hid (∀r∈f.ag7,Eh l r.ad):=J (fun r hr=>⟨t,HM.out,hvd,f,hf,r,hr,I⟩);have HFA:=J hfa;have aBC:=J fr1;rw[hvd]at d3;obtain⟨hb,hQ'⟩:∃hb,qC (.slice Aq t.q.name.length cq) t.q=hb:=gh;rw[hQ']at hQ;have asM:Hid (Calls prog 112 #[.agg hb.toArray,.slice Aa t.m.an.length ca] B (fun e w'=>∃An cn A c,e= .returned (.tuple #[.agg #[.slice An f.name.length cn,.slice A f.ag7.length c,.int .i64 (f.ttl.getD 0),.int .i64 f.ani],.int .i64 0])/\tw w' (.slice An f.name.length cn) f.name/\sM w' 0 (.slice A f.ag7.length c) f.ag7/\ao B w')):=J (by rw[<-hQ'];exact FOL.out);have HX1:=J X1;clear FOL arI hNq hNR hds k2 kA k3 k4 l1 lA hf hfa fr1 fr2 hvd HTK HE HFO X1 hQ' hT3;generalize t.m.an.length=an at*;obtain⟨nr,hnr⟩:=aq f.ag7.length;rw[hnr.out]at asM hrl;generalize f.name.length=fnl at*;generalize f.ttl.getD 0=ft at*;generalize(f.ani:Int)=fk at*;go_wp2_with(refine rF (.load 160 (.tmp 25)) I ?_;go_must(refine rG I _ _ I gt 0 I C1 3 Y _ underlying160 I xS hb hQ ?_));refine asM.out.mono ?_;rintro _ w2 ⟨Af,cf,Ar,cr,rfl,hTx,hRR,b2⟩;have k3:Below w2.heap.size w2 (w2.alloc (.cells #[.slice Af fnl cf,.slice Ar nr cr,.int .i64 ft,.int .i64 fk] 197)):=fZ;have FB:=N.new w2 197 [.slice Af fnl cf,.slice Ar nr cr,.int .i64 ft,.int .i64 fk];have X3:=(HX1.out.G b2).G k3;have H2:=rC H1 H1.size b2;have H3:=rC H2 H2.size k3;have Z3:=(Z1.G b2 Z1.lt).G k3 (Z1.G b2 Z1.lt).lt;have HRR:=J hRR;clear b2 hTx C1 d3 d15 HX1 asM H1 H2 k1 Z1 hRR;go_upto_if 35 with fail;obtain⟨gf,hgf⟩:=aq w2.heap.size;obtain⟨W3,hW3⟩:=aq ((w2.alloc (.cells #[.slice Af fnl cf,.slice Ar nr cr,.int .i64 ft,.int .i64 fk] 197)));rw[hW3.out]at X3 H3 Z3 FB k3⊢;rw[hgf.out]at FB⊢;have e0:=FB.rD 0 (u:=.slice Af fnl cf) I;have e2:=FB.rD 2 (u:=.int .i64 ft) I;have c2:=X3.b3.rD 2 (u:=.slice An nn cn) I;have c3:=X3.b3.rD 3 (u:=.int .i64 ttl) I;have f2:=X3.b3.frozen 2;have f3:=X3.b3.frozen 3;have hl3:=X3.b3.lt;have hgg:gf≠g3:=uU FB X3.b3 K;have aLT:g3≠gf:=fun c=>hgg c.symm
    go_cut[] (fun wx=>∃(An:Option Addr) (nn cn:Nat) (ttl:Int),VW wx g3 gm (.slice An nn cn) ttl va xs/\W3.grownBy wx (some g3))
    case first=>
     cases sb with
     |true=>
      go_wp2_with fail;go_meet
      case rel=>exact⟨An,nn,cn,ttl,X3,World.grownBy.refl _ _⟩
     |false=>
      go_wp2_with fail;go_region;go_wp2_with fail;go_meet
      case rel=>exact⟨Af,fnl,cf,ft,X3.put (wI (sd (sd (World.grownBy.refl _ _) 2 _) 3 _)) ((X3.b3.set 2 (.slice Af fnl cf)).set 3 (.int .i64 ft)),wI (sd (sd (World.grownBy.refl _ _) 2 _) 3 _)⟩
    obtain⟨An4,nn4,cn4,aq7,X4,G4⟩:=hcut;obtain⟨W4,rfl⟩:∃W4,W4=wc:=gh;have F4:=FB.grown G4 (by simpa using hgg);have R4:=sM.sD (sM.G HRR.out (by rw[<-hW3.out];exact(Below.refl _ _).alloc (Nat.le_refl _) _:ao w2 W3)) G4 X3.b3 K K;have H4:=rE H3 G4 H3.size Y;have Z4:=Z3.grown G4 aB;clear X3 H3 Z3 FB k3 hW3 hgf e0 e2 c2 c3 f2 f3 hl3 HRR G4;have e2:=F4.rD 2 (u:=.int .i64 ft) I;have e1:=F4.rD 1 (u:=.slice Ar nr cr) I;have c3:=X4.b3.rD 3 (u:=.int .i64 aq7) I;have f3:=X4.b3.frozen 3;have hl3:=X4.b3.lt;go_upto_region 12 with fail;go_cut[] (fun wx=>∃(ttl:Int),VW wx g3 gm (.slice An4 nn4 cn4) ttl va xs/\W4.grownBy wx (some g3))
    case first=>
     go_wp2_with fail
     ·
      go_meet
      case rel=>exact⟨ft,X4.put (sd (World.grownBy.refl _ _) 3 _) (X4.b3.set 3 (.int .i64 ft)),sd (World.grownBy.refl _ _) 3 _⟩
     ·
      go_meet
      case rel=>exact⟨aq7,X4.put (sd (World.grownBy.refl _ _) 3 _) (X4.b3.set 3 (.int .i64 aq7)),sd (World.grownBy.refl _ _) 3 _⟩
    obtain⟨aoV,X5,G5⟩:=hcut;obtain⟨W5,rfl⟩:∃W5,W5=wc:=gh;have F5:=F4.grown G5 (by simpa using hgg);have R5:=sM.sD R4 G5 X4.b3 K K;have H5:=rE H4 G5 H4.size Y;have Z5:=Z4.grown G5 aB;have e1:=F5.rD 1 (u:=.slice Ar nr cr) I;clear X4 H4 Z4 F4 R4 G5 e2 c3 f3 hl3;have ROW:Hid (∀j (hj:j<nr),∃gr off,Ar=some ⟨gr,off,none⟩/\(∃L,N W5 gr 201 L)/\∃(hj':j<f.ag7.length),∃cs,W5.rangeAt gr (off+j*33) cs/\cs.length=33/\(∀v∈cs,v.oneCell'=true)/\(cs.drop 4).take 18=f.ag7[j].ad.cells):=J (by
     intro j hj;have hj':j<f.ag7.length:=by rw[hnr.out];exact hj
     have R5':=R5;rw[<-hnr.out]at R5';obtain⟨gr,q1,q2,q3⟩:=R5'.rU (fun _ _ x=>x.len) Y;subst q1;obtain⟨L,hL⟩:=rJ.Oo R5' Y;obtain⟨cs,r1,r2⟩:=q3 j hj';refine⟨gr,0,I,⟨L,hL⟩,hj',cs,r1,r2.len,r2.one,?_⟩;obtain⟨v1,v2,v3,e,hw,_⟩:=r2;rw[e];exact IQ hw)
    have HX5:=J X5;clear R5 X5;have avh:gm≠g3:=HX5.out.map.Co HX5.out.b3;go_wp2_with fail;go_loopw[51] (fun iv wx=>∃(j:Nat) (va:Value) (ys:List sg),j<=nr/\iv= .int .i64 j/\Hid (VW wx g3 gm (.slice An4 nn4 cn4) aoV va ys)/\Hid (∀a∈ys,Eh l a)/\Hid ((xs≠[]\/0<j)->ys≠[])/\ao w wx/\N wx w.heap.size 50 [.int .i64 0,rI,rI,.int .i64 0]/\Hid (∀gr L,N W5 gr 201 L->N wx gr 201 L)) (fun iv _=>nr-(intOf iv).toNat)
    case atStart=>exact⟨0,va,xs,Nat.zero_le _,I,HX5,HF,J (fun h=>h.elim id (fun c=>absurd c Y)),H5,Z5,J (fun _ _ h=>h)⟩
    clear HX5 HF H5 Z5 F5 e1;obtain⟨j,va,ys,hj,rfl,HX,HF,HN,HB6,BZ6,HRW⟩:=hrel;by_cases hjl:j<nr
    case neg=>
     have akQ:¬(j:Int)<nr:=Y;have hj0:0<j:=by have U:0<f.ag7.length:=List.length_pos_iff.2 aBC.out;rw[hnr.out]at U;omega
     have HN2:=J (fun(_:∃t∈l.take (i+1),t.vd=1)=>HN.out (.inr hj0));clear ROW HRW HN;go_wp2_with fail;go_meet
     case rel=>exact⟨true,va,An4,nn4,cn4,aoV,ys,I,HX,HF,HN2,HB6,BZ6⟩
    have akQ:(j:Int)<nr:=Y;obtain⟨gr,ajQ,hAr,⟨L,hL⟩,hj',cs2,r1,r2,r3,r4⟩:=ROW.out j hjl;have hLx:=HRW.out gr L hL;have r1x:wr.rangeAt gr (ajQ+j*33) cs2:=fun q v hv=>(World.cell?_of_block (a:=⟨gr,ajQ+j*33+q,none⟩) (hLx.trans hL.symm)).trans (r1 q v hv)
    have arR:=HFA.out _ (List.getElem_mem hj');have anF:=HFR.out _ (List.getElem_mem hj');obtain⟨a,ha⟩:∃a,f.ag7[j].ad=a:=gh;rw[ha]at r4 arR anF;have Zq:=N.new wr 201 vM;have kq:Below wr.heap.size wr (wr.alloc (.cells vM.toArray 201)):=fZ;have hwr:=HB6.size;have hAF:=J arR;have hFR:=J anF;subst hAr;clear hL hLx r1 ha hj' arR anF;go_upto_block 3 with fail;go_cut[] (fun wx=>∃(va:Value) (ys:List sg),Hid (VW wx g3 gm (.slice An4 nn4 cn4) aoV va ys)/\Hid (∀a∈ys,Eh l a)/\Hid (ys≠[])/\ao w wx/\N wx w.heap.size 50 [.int .i64 0,rI,rI,.int .i64 0]/\Hid (∀gr L,N W5 gr 201 L->N wx gr 201 L))
    case first=>
     go_wp2_with(first
      |(refine rF (.load 201 (.tmp 53)) rfl ?_;go_must(refine sr rfl 201 (.tmp 53) rfl gr (ajQ+j*33) rfl cs2 r1x _ underlying201 rfl dV ?_))
      |(refine rF (.store 201 (.tmp 11) (.tmp 54)) rfl (ab rfl wr.heap.size 0 cs2 Zq (by rw[r2,Bd];decide) dV r3 ?_)))
     intro w6 B6 g6 s6;have C6:N w6 wr.heap.size 201 cs2:=by
      have e:cs2++vM.drop 33=cs2:=by rw[List.drop_of_length_le (by rw[Bd];exact Nat.le_refl _),List.append_nil]
      have B6':N w6 wr.heap.size 201 (cs2++vM.drop 33):=by simpa[r2]using B6
      rwa[e]at B6'
     have k6:ao wr w6:=rE kq g6 kq.size (Nat.le_refl _);have X6:=HX.out.G k6;have H6:=rC HB6 hwr k6;have Z6:=BZ6.G k6 BZ6.lt;have HW6:Hid (∀gr L,N W5 gr 201 L->N w6 gr 201 L):=J (fun gr L h=>(HRW.out gr L h).G k6 (HRW.out gr L h).lt);obtain⟨gq,hgq⟩:∃gq,wr.heap.size=gq:=gh;have aBs:w.heap.size<=gq:=Y;rw[hgq]at C6⊢;clear hgq Zq kq B6 g6 s6 HX HB6 BZ6 HRW r1x k6 hwr;have HLK:=X6.map.look a hAF.out;obtain⟨Av,cv,hva⟩:=X6.own.form;subst hva;have d1:=X6.b3.rD 1 (u:=.slice Av ys.length cv) I;by_cases hm:a∈ys
     case pos=>rw[if_pos hm]at HLK;have HY:Hid (ys≠[]):=J (List.ne_nil_of_mem hm);have HX6:=J X6;clear hm X6;exact oq
     case neg=>
      rw[if_neg hm]at HLK;by_cases h64:ys.length<64
      case neg=>have asa:¬(ys.length:Int)<64:=Y;have HY:Hid (ys≠[]):=J (fun c=>by rw[c]at h64;simp at h64);have HX6:=J X6;clear hm X6 h64;exact oq
      case pos=>
       have asa:(ys.length:Int)<64:=Y;have HX6:=J X6;have HM6:=J hm;clear hm X6;go_wp2_with(first
        |(refine rF (.load 67 (.tmp 56)) rfl ?_;go_must(refine rG rfl _ _ rfl gq 4 rfl C6 18 Y _ underlying67 rfl uq a.cells r4 ?_))
        |(refine rF (.load 67 (.tmp 67)) rfl ?_;go_must(refine rG rfl _ _ rfl gq 4 rfl C6 18 Y _ underlying67 rfl uq a.cells r4 ?_))
        |(refine rF (.mapUpdate 182 (.tmp 66) (.tmp 68) (.const (.int .i64 1))) rfl ?_;go_must(refine Hr _ rfl _ _ _ rfl gm ys.length ys a rfl rfl rfl HX6.out.map hAF.out aL ?_)))
       intro w7 M7 g7;have aBv:gq≠gm:=fun c=>HX6.out.map.Co C6 c.symm
       have C7:=C6.grown g7 (by simpa using aBv);have b37:=HX6.out.b3.grown g7 (by simpa using fun c:g3=gm=>avh c.symm);have O7:=rJ.map HX6.out.own g7 (HX6.out.map.OX HX6.out.own);have H7:=rE H6 g7 H6.size Y;have Z7:=Z6.grown g7 aB;have HW7:Hid (∀gr L,N W5 gr 201 L->N w7 gr 201 L):=J (fun gr L h=>(HW6.out gr L h).grown g7 (by
        have:=HX6.out.map.Co (HW6.out gr L h);simpa using fun c:gr=gm=>this c.symm))
       have hnl:=HX6.out.nd;have hln:=HX6.out.ln;have d17:=b37.rD 1 (u:=.slice Av ys.length cv) I;have HM7:=J M7;have HO7:=J O7;clear HLK d1 C6 H6 Z6 HW6 g7 M7 O7 HX6;go_wp2_with(first
        |(refine rF (.load 67 (.tmp 71)) rfl ?_;go_must(refine rG rfl _ _ rfl gq 4 rfl C7 18 Y _ underlying67 rfl uq a.cells r4 ?_))
        |(refine rF (.buildSlice 25 1 #[(0,.tmp 72)]) rfl ?_;go_must(refine vQ rfl 25 67 _ 18 32 underlying25 vg K K (.tmp 72) rfl a.cells rfl (a.rY hAF.out.2.2) ?_)))
       intro w8 B8 k8;have b38:=b37.G k8 b37.lt;have O8:uG w8 g3 (.slice Av ys.length cv) ys:=rJ.G HO7.out k8 (fun _ _ x=>x);have M8:=HM7.out.kept (r5 k8 none) ar;have H8:=rC H7 H7.size k8;have Z8:=Z7.G k8 Z7.lt;have HW8:Hid (∀gr L,N W5 gr 201 L->N w8 gr 201 L):=J (fun gr L h=>(HW7.out gr L h).G k8 (HW7.out gr L h).lt);have hl:=rJ.ne HO7.out (Nat.le_refl _);have HO8:=J O8;have HM8:=J M8;have aBz:g3<=w8.heap.size:=Nat.le_of_lt b38.lt;clear C7 b37 H7 Z7 HW7 k8 d17 O8 M8 HO7 HM7;go_wp2_with(at_builtin;go_must(refine sJ _ I (.tmp 70) (.tmp 73) 25 I 67 _ 18 32 underlying25 vg (by kernel_rfl) K (R:=xH) g3 _ ys I HO8.out aBz _ a.cells a I B8 hl (a.rY hAF.out.2.2) a.tm ⟨I,hAF.out.2.2⟩ aL Y ?_));intro v9 w9 O9 g9;have b39:=rJ.wF HO8.out b38 K g9;have M9:=HM8.out.kept g9 (HM8.out.OX HO8.out);have H9:=H8.grown g9 H8.size (fun k O=>by have:=HO8.out.base k O;omega);have Z9:=rJ.wF HO8.out Z8 K g9;have HW9:Hid (∀gr L,N W5 gr 201 L->N w9 gr 201 L):=J (fun gr L h=>rJ.wF HO8.out (HW8.out gr L h) K g9);obtain⟨zs,hzs⟩:=aq (ys++[a]);rw[hzs.out]at O9 M9;have hzl:Hid (zs.length=ys.length+1):=J dW;have aAv:zs.length<=64:=by rw[hzl.out];omega
       obtain⟨A9,c9,hv9⟩:=O9.form;subst hv9;have HO9:=J O9;have HM9:=J M9;clear O9 M9 g9 B8 hl b38 H8 Z8 HW8 HO8 HM8;go_wp2_with(refine rF (.store 25 (.tmp 75) (.tmp 74)) I (af I g3 1 (.slice A9 zs.length c9) b39 (by show 1<4;decide) aeb ?_));intro w10 B10 g10 sw;clear sw;have X10:VW w10 g3 gm (.slice An4 nn4 cn4) aoV (.slice A9 zs.length c9) zs:=⟨B10,HO9.out.sD g10 b39 K,by rw[hzl.out];exact HM9.out.kept g10 (by intro c;injection c with c;exact avh c),by
        rw[<-hzs.out];rw[List.nodup_append];refine⟨hnl,ar,fun x hx y hy=>?_⟩;simp only[List.mem_singleton]at hy;subst hy;intro c;subst c;exact HM6.out hx,aAv⟩
       have H10:=rE H9 g10 H9.size Y;have Z10:=Z9.grown g10 aB;have aDw:Hid (∀gr L,N W5 gr 201 L->N w10 gr 201 L):=J (fun gr L h=>(HW9.out gr L h).grown g10 (by
        have:=uU (HW9.out gr L h) b39 K;simpa using this))
       have HF2:Hid (∀x∈zs,Eh l x):=J (fun x hx=>by
        rw[<-hzs.out]at hx;rcases List.mem_append.1 hx with h|h
        ·exact HF.out x h
        ·
         simp only[List.mem_singleton]at h;subst h;exact hFR.out)
       have HZ:Hid (zs≠[]):=J dW;have aDt:=J X10;clear B10 g10 b39 HO9 HM9 H9 Z9 HW9 X10;go_wp2_with fail;go_meet
       case rel=>exact⟨_,zs,aDt,HF2,HZ,H10,Z10,aDw⟩
    obtain⟨va2,ys2,X2,HF2,HN2,HB2,BZ2,aDC⟩:=hcut;obtain⟨W6,rfl⟩:∃W6,W6=wc:=gh;have HN3:=J (fun(_:xs≠[]\/0<j+1)=>HN2.out);clear HX HF HN HB6 BZ6 HRW r1x Zq kq;go_wp2_with fail;go_roundw
    case rel=>exact⟨j+1,va2,ys2,Y,fQ,X2,HF2,HN3,HB2,BZ2,aDC⟩
    case measure=>simp[intOf];omega
  obtain⟨sb2,va2,An2,nn2,cn2,az2,xs2,rfl,HX2,HF2,HE2,HB2,BZ2⟩:=hcut;obtain⟨W9,rfl⟩:∃W9,W9=wc:=gh;clear HX HF HE HB BZ re Zt kz HTK HFO HM HT;go_wp2_with fail;go_roundw
  case rel=>exact⟨i+1,sb2,va2,An2,nn2,cn2,az2,xs2,Y,I,fQ,HX2,HF2,HE2,HB2,BZ2⟩
  case measure=>simp[intOf];omega
 have h1:¬(i:Int)<n:=Y;have hte:l.take i=l:=by rw[List.take_of_length_le (by rw[hn.out];omega)]
 rw[hte]at HE;obtain⟨Av,cv,hva⟩:=HX.out.own.form;subst hva;have B3:=HX.out.b3;have aLe:w.heap.size≠g3:=Y;clear HH HOK HHn hte;go_wp2_with(first
  |(refine rF (.load 50 (.tmp 3)) rfl ?_;go_must(refine rG rfl _ _ rfl g3 0 rfl B3 4 (Nat.le_refl 4) _ underlying50 rfl MW [.int .i64 1,.slice Av xs.length cv,.slice An nn cn,.int .i64 ttl] rfl ?_))
  |(refine rF (.store 50 (.tmp 2) (.tmp 78)) rfl (ab rfl w.heap.size 0 [.int .i64 1,.slice Av xs.length cv,.slice An nn cn,.int .i64 ttl] BZ (Nat.le_refl 4) MW aO ?_)))
 intro w11 B11 g11 sw;have asT:N w11 w.heap.size 50 [.int .i64 1,.slice Av xs.length cv,.slice An nn cn,.int .i64 ttl]:=lm;have O11:=HX.out.own.sD g11 BZ K;have H11:=rE HB g11 HB.size (Nat.le_refl _);have h2:UH l w (.returned (.agg [.int .i64 1,.slice Av xs.length cv,.slice An nn cn,.int .i64 ttl].toArray)) w11:=⟨_,_,_,xs,I,I,rJ.zero O11,HE.out,HX.out.nd,HX.out.ln,HF.out,H11⟩;have asH:=J h2;clear B11 g11 O11 H11 h2 HX HF HE HB BZ B3;exact oC
open Go.RowKit
def afc(p:Pr)(vd:Int)(xs:List sg):Prop:=1<=vd/\vd<=5/\(xs≠[]↔vd=1)/\xs.Nodup/\xs.length<=64/\∀a∈xs,a.ip.length=16/\∃Q∈p.tys,(Q=1/\a.fam=4)\/(Q=28/\a.fam=6)
def Iq(p:Pr)(w:World)(e:Ending)(w':World):Prop:=∃vd va vn ttl xs,e= .returned (.agg [.int .i64 vd,va,vn,.int .i64 ttl].toArray)/\vn.oneCell'=true/\uG w' 0 va xs/\afc p vd xs/\ao w w'
theorem adA{p:Pr}{L:Lt}(h:PI p L tk k H)(hty:∀t∈p.tys,t=1\/t=28)(hnm:p.nm.length<=100000)(hd:yh p=true):∀t∈yi p.bg,age t/\(1<=t.vd/\t.vd<=5)/\(t.vd=1->∀f,uO t.q t.m.an 16 0 t.q.name none= .ok f->f.ag7≠[]/\∀r∈f.ag7,r.ad.ip.length=16/\∃Q∈p.tys,(Q=1/\r.ad.fam=4)\/(Q=28/\r.ad.fam=6)):=by
 intro t ht;unfold yi at ht;obtain⟨x,hx,rfl⟩:=List.mem_map.1 ht;obtain⟨hx1,hx2⟩:=List.mem_filter.1 hx;obtain⟨i,hi⟩:=List.getElem?_of_mem hx1;obtain⟨e1,e2,e3,e4,e5⟩:=h.ea i x hi;have hib:i<p.bg.length:=(List.getElem?_eq_some_iff.1 hi).1;have hit:i<p.tys.length:=Nat.lt_of_lt_of_le hib h.bl;have hq:x.q=⟨p.nm,p.tys[i],1⟩:=by rw[e3];unfold RQ;rw[List.getD_eq_getElem?_getD,List.getElem?_eq_getElem hit];rfl
 have hm:p.tys[i]∈p.tys:=List.getElem_mem hit;have key:∀f,uO x.q x.xZ.an 16 0 x.q.name none= .ok f->f.ag7≠[]/\∀r∈f.ag7,adF r.ad/\((p.tys[i]=1/\r.ad.fam=4)\/(p.tys[i]=28/\r.ad.fam=6)):=by
  intro f hf;obtain⟨f1,f2⟩:=BI _ _ _ _ _ _ _ hf;refine⟨f1,fun r hr=>?_⟩;rw[f2]at hr;obtain⟨r1,r2⟩:=List.mem_filter.1 hr;unfold SX at r2;simp only[Bool.and_eq_true,decide_eq_true_eq]at r2;obtain⟨r3,r4,_⟩:=r2;rw[hq]at r3 r4;simp only at r3 r4;obtain⟨B,w2,w3⟩:=e4.1 r r1;rcases hty _ hm with e|e
  ·obtain⟨q1,q2⟩:=w2 (r3.trans e) r4;exact⟨⟨.inl q1,⟨Y,Y⟩,B.1⟩,.inl ⟨e,q1⟩⟩
  ·obtain⟨q1,q2⟩:=w3 (r3.trans e) r4;exact⟨⟨.inr q1,⟨Y,Y⟩,B.1⟩,.inr ⟨e,q1⟩⟩
 have hdx:x.done=true:=by simpa using hx2
 have hv:=e2 hdx;refine⟨⟨by show x.q.name.length<=100000;rw[hq];exact hnm,fun hv1=>?_⟩,?_,fun hv1 f hf=>?_⟩
 ·
  have hv1:x.vd=1:=hv1;rcases hv with hv|⟨_,f,hf⟩
  ·omega
  ·exact⟨f,hf,fun r hr=>((key f hf).2 r hr).1⟩
 ·show 1<=x.vd/\x.vd<=5;rcases hv with hv|⟨hv,_⟩<;>omega
 ·obtain⟨k1,k2⟩:=key f hf;refine⟨k1,fun r hr=>?_⟩;obtain⟨⟨_,_,q3⟩,q4⟩:=k2 r hr;exact⟨q3,_,hm,q4⟩
theorem adB{p:Pr}(hd:yh p=true)(hn:0<p.tys.length):∃t,t∈yi p.bg:=by
 unfold yh at hd;simp only[Bool.and_eq_true,List.all_eq_true,decide_eq_true_eq]at hd;obtain⟨U,F⟩:=hd;have E:0<p.bg.length:=Y;refine⟨CR p.bg[0],?_⟩;unfold yi;exact List.mem_map.2 ⟨_,List.mem_filter.2 ⟨List.getElem_mem E,U _ (List.getElem_mem E)⟩,I⟩
def OY(k:Nat):Int:=[1,5,4,2,3].getD k 0
theorem abr(k:Nat)(O:k<5)(W:World):(Instr.index 184 (.agg #[.int .i64 1,.int .i64 5,.int .i64 4,.int .i64 2,.int .i64 3]) (.int .i64 k)).run prog W= .ok (.int .i64 (OY k)) W:=by
 obtain rfl|rfl|rfl|rfl|rfl:k=0\/k=1\/k=2\/k=3\/k=4:=Y;all_goals kernel_rfl
theorem abt{v:Int}(U:1<=v)(h5:v<=5):∃k,k<5/\OY k=v:=by
 obtain rfl|rfl|rfl|rfl|rfl:v=1\/v=5\/v=4\/v=2\/v=3:=Y
 ·exact⟨0,Y,I⟩
 ·exact⟨1,Y,I⟩
 ·exact⟨2,Y,I⟩
 ·exact⟨3,Y,I⟩
 ·exact⟨4,Y,I⟩
theorem adC(k:Nat)(O:k<5):1<=OY k/\OY k<=5:=by
 obtain rfl|rfl|rfl|rfl|rfl:k=0\/k=1\/k=2\/k=3\/k=4:=Y;all_goals exact⟨K,K⟩
theorem CU(n:Int)(W:World):(Instr.build 50 #[(0,.int .i64 n)]).run prog W= .ok (.agg [Value.int .i64 n,rI,rI,.int .i64 0].toArray) W:=by kernel_rfl
theorem RY{w0:World}{g gl:Nat}{hk:List (Nat×Option Nat)}{p:Pr}{L:Lt}{k0:Nat}(h:yF w0 w b g gl hk p)(hI:PI p L tk k0 H)(hty:∀t∈p.tys,t=1\/t=28)(hnm:p.nm.length<=100000)(hd:yh p=true)(hn:0<p.tys.length)(hbw:b<=w.heap.size):
  Calls prog 93 #[.pointer (some ⟨g,0,none⟩)] w (Iq p w):=by
 have TOK:=J (adA hI hty hnm hd);obtain⟨t0,ht0⟩:=adB hd hn;have akR:p.bg.length<=2:=Nat.le_trans hI.bl hI.tl;have Z0:=N.new w 50 [.int .i64 0,rI,rI,.int .i64 0];have HZ:Below w.heap.size w (w.alloc (.cells #[.int .i64 0,.slice none 0 0,.slice none 0 0,.int .i64 0] 50)):=fZ;have DN:=J (fun V (hV:ao w V)=>Dn (h.G hbw hV) akR);have TL:=J (fun V (hV:ao w V)=>MU (h.G hbw hV) (fun i x hx=>(hI.ea i x hx).q) hI.bl akR);rw[hd]at DN;have hTl:(yi p.bg).length<=2:=by exact qK
 unfold OT at TL;obtain⟨T,hT⟩:=aq (yi p.bg);rw[hT.out]at TOK TL hTl ht0;have HT0:=J ht0;clear h hI hty hnm hd hn ht0;go_enter func93,ntmps93;go_wp2_with fail;have DN1:=J (DN.out _ HZ);refine DN1.out.mono ?_;rintro _ B ⟨rfl,b1⟩;have H1:=rC HZ HZ.size b1;have Z1:=Z0.G b1 Z0.lt;have TL1:=J (TL.out _ H1);clear DN DN1 TL HZ Z0 b1;go_wp2_with fail;refine TL1.out.mono ?_;rintro _ w2 ⟨vt,rfl,hOt,b2⟩;obtain⟨At,ct,hvt⟩:=rJ.form hOt;subst hvt;have H2:=rC H1 H1.size b2;have Z2:=Z1.G b2 Z1.lt;have HOT:=J hOt;have hH1:=H1.size;have aMi:=b2.size;clear TL1 H1 Z1 b2 hOt;obtain⟨nT,hnT⟩:=aq T.length;rw[hnT.out];have IX:=J (fun k O V=>abr k O V);obtain⟨arr,avx⟩:=aq (Value.agg #[.int .i64 1,.int .i64 5,.int .i64 4,.int .i64 2,.int .i64 3]);rw[avx.out]at IX;go_wp2_with fail;rw[avx.out];go_loopw[18] (fun iv wr=>∃k:Nat,k<=5/\iv= .int .i64 k/\Hid (∀j,j<k->¬ ∃t∈T,t.vd=OY j)/\ao w wr/\ao w2 wr/\N wr w.heap.size 50 [.int .i64 0,rI,rI,.int .i64 0]) (fun iv _=>5-(intOf iv).toNat)
 case atStart=>exact⟨0,Y,I,J (fun j c=>absurd c Y),H2,Below.refl _ _,Z2⟩
 clear H2 Z2;obtain⟨k,O,rfl,HS,HB,HB2,BZ⟩:=hrel;by_cases aA:k<5
 case neg=>exfalso;obtain⟨v1,v2⟩:=(TOK.out t0 HT0.out).2.1;obtain⟨j,j1,j2⟩:=abt v1 v2;exact HS.out j Y ⟨t0,HT0.out,j2.symm⟩
 have h1:(k:Int)<5:=Y;have IX1:=J (IX.out k aA);obtain⟨l1,l5⟩:=adC k aA;have HV1:Hid (OY k=1↔k=0):=J (by
  obtain rfl|rfl|rfl|rfl|rfl:k=0\/k=1\/k=2\/k=3\/k=4:=Y;all_goals decide)
 have HSN:Hid ((¬ ∃t∈T,t.vd=OY k)->∀j,j<k+1->¬ ∃t∈T,t.vd=OY j):=J (fun h j hj=>by
  by_cases e:j=k
  ·subst e;exact h
  ·
   exact HS.out j Y)
 obtain⟨v,hv⟩:=aq (OY k);rw[hv.out]at IX1 l1 l5 HV1 HSN;have hX:∀V,(Instr.index 184 arr (.int .i64 k)).run prog V= .ok (.int .i64 v) V:=IX1.out;have kz:Below wr.heap.size wr (wr.alloc (.cells #[.int .i64 v] 3)):=fZ;have Bv:N (wr.alloc (.cells #[.int .i64 v] 3)) wr.heap.size 3 [.int .i64 v]:=N.new wr 3 [.int .i64 v];have OTz:=yG.G (yG.G HOT.out HB2) kz;have Zz:=BZ.G kz BZ.lt;have Hz:=rC HB HB.size kz;have H2z:=rC HB2 HB2.size kz;have CT:=J (OU _ _ At ct T v wr.heap.size OTz Y (Bv.rD 0 I) Bv.lt);rw[hnT.out]at CT;obtain⟨gv,hgv⟩:=aq wr.heap.size;obtain⟨W1,hW1⟩:=aq (wr.alloc (.cells #[.int .i64 v] 3));rw[hW1.out,hgv.out]at CT Bv;rw[hW1.out]at OTz Zz Hz H2z;have aw0:=J OTz;clear kz OTz BZ HB HB2 HS IX IX1;go_wp2_with fail;rw[hW1.out,hgv.out];refine CT.out.mono ?_;rintro _ w3 ⟨bb,rfl,hbb,b3⟩;have H3:=rC Hz Hz.size b3;have H23:=rC H2z H2z.size b3;have Z3:=Zz.G b3 Zz.lt;have dv:=(Bv.G b3 Bv.lt).rD 0 (u:=.int .i64 v) I;have OT3:=yG.G aw0.out b3;have HBB:=J hbb;have aw1:=J OT3;clear CT Bv Zz Hz H2z aw0 b3 hX OT3 hbb hW1 hgv;cases bb with
 |false=>
  have HS2:=J (HSN.out (fun c=>by have:=HBB.out.2 c;cases this));clear HSN HV1 dv l1 l5 HBB;go_wp2_with fail;go_roundw
  case rel=>exact⟨k+1,Y,fQ,HS2,H3,H23,Z3⟩
  case measure=>simp[intOf];omega
 |true=>
  have HT1:=J (HBB.out.1 I);clear HSN HBB;by_cases hv1:v=1
  case pos=>
   subst hv1;have ANS:=J (RX w3 _ At ct T aw1.out hTl (fun t ht=>(TOK.out t ht).1));rw[hnT.out]at ANS;unfold UH at ANS;clear aw1 HV1;go_wp2_with fail;refine ANS.out.mono ?_;rintro _ w4 ⟨va,vn,ttl,xs,rfl,hvn,hOx,hl,hnd,hln,hfr,b4⟩;have Z4:=Z3.G b4 Z3.lt;have H4:=rC H3 H3.size b4;obtain⟨Ax,cx,hva⟩:=hOx.form;subst hva;have w1:∀u∈[Value.int .i64 1,.slice Ax xs.length cx,vn,.int .i64 ttl],u.oneCell'=true:=by exact nX
   have HO4:=J hOx;have RP:Hid (afc p 1 xs):=J ⟨K,K,⟨fun _=>rfl,fun _=>hl HT1.out⟩,hnd,hln,fun a ha=>by
    obtain⟨t,t1,t2,f,t3,r,t4,t5⟩:=hfr a ha;obtain⟨q1,q2⟩:=(TOK.out t t1).2.2 t2 f t3;obtain⟨q3,q4⟩:=q2 r t4;rw[t5]at q3 q4;exact⟨q3,q4⟩⟩
   clear ANS hOx hl hnd hfr b4 H3 Z3 H23 dv;go_wp2_with(refine rF (.store 50 (.tmp 2) (.tmp 29)) I (ab I w.heap.size 0 [.int .i64 1,.slice Ax xs.length cx,vn,.int .i64 ttl] Z4 (Nat.le_refl 4) MW w1 ?_));intro w11 B11 g11 sw;have asT:N w11 w.heap.size 50 [.int .i64 1,.slice Ax xs.length cx,vn,.int .i64 ttl]:=lm;have h2:Iq p w (.returned (.agg [.int .i64 1,.slice Ax xs.length cx,vn,.int .i64 ttl].toArray)) w11:=⟨_,_,_,_,xs,I,hvn,HO4.out.sD g11 Z4 K,RP.out,rE H4 g11 H4.size (Nat.le_refl _)⟩;have asH:=J h2;clear B11 g11 h2 H4 Z4 HO4 RP;exact oC
  case neg=>
   have aKP:(v==1)=false:=by simpa using hv1
   have RB:=J (fun V=>CU v V);have HNE:=J hv1;clear HV1 hv1;go_wp2_with(first
    |(refine rF (.build 50 #[(0,.tmp 30)]) rfl ?_;go_must(refine sy rfl 50 _ rfl #[(0,.int .i64 v)] cY (RB.out _) ?_))
    |(refine rF (.store 50 (.tmp 2) (.tmp 31)) rfl (ab rfl w.heap.size 0 [.int .i64 v,rI,rI,.int .i64 0] Z3 (Nat.le_refl 4) MW dX ?_)))
   intro w11 B11 g11 sw;have asT:N w11 w.heap.size 50 [.int .i64 v,rI,rI,.int .i64 0]:=lm;have RP:afc p v []:=⟨l1,l5,⟨fun c=>absurd I c,fun c=>absurd c HNE.out⟩,List.nodup_nil,Nat.zero_le _,fun a ha=>by cases ha⟩;have h2:Iq p w (.returned (.agg [.int .i64 v,rI,rI,.int .i64 0].toArray)) w11:=⟨_,_,_,_,[],I,I,rJ.nil _ _ _ _ _,RP,rE H3 g11 H3.size (Nat.le_refl _)⟩;have asH:=J h2;clear B11 g11 h2 H3 Z3 RP RB dv;exact oC
end Go.Proofs.YtakkipnmpmobbaaGreat
