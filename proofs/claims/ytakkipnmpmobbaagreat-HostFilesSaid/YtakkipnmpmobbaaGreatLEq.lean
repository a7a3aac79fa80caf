/-
  Layer 21,the reference:Held of a config.
-/
import Derived.Test.YtakkipnmpmobbaaGreatLDq
namespace Go.Proofs.YtakkipnmpmobbaaGreat
open _root_.Go.Proofs.Tryz
set_option maxHeartbeats 8000000
open Go.RowKit
set_option maxRecDepth 100000
set_option linter.unusedVariables false
set_option linter.unusedSimpArgs false
variable {e t:TypeId} {v:Value} {g Hh:Nat} {L cs:List Value} {w0 w w':World}
theorem agj:(prog.info? 22).map (·.size)=some 1:=by kernel_rfl
theorem abM:(prog.info? 30).map (·.size)=some 1:=by kernel_rfl
theorem agk:(prog.info? 31).map (·.size)=some 1:=by kernel_rfl
def Nq:List Value:=zQ rI rI rI ⟨[],[],[],0,0,0,false,false,false,false⟩++[rI,rI,rI]
structure KU (w wr:World) (CS OC:List Value) (gx:Nat):Prop where
 c:N wr w.heap.size 33 CS
 z:N wr (w.heap.size+1) 33 Nq
 o:N wr gx 33 OC
 b:ao w wr
 g:w.heap.size+1<gx
section
variable {w wr w':World} {CS OC:List Value} {gx:Nat}
theorem KU.G(h:KU w wr CS OC gx)(k:ao wr w'):KU w w' CS OC gx:=⟨h.c.G k h.c.lt,h.z.G k h.z.lt,h.o.G k h.o.lt,rC h.b h.b.size k,h.g⟩
theorem KU.own{α:Type}{k:Nat}{R:List Value->α->Prop}{l:List α}(h:KU w wr CS OC gx)(ho:rJ wr w.heap.size e k R v l)(he:33≠e)(hg:wr.grownBy w' v.ownBlock):KU w w' CS OC gx:=⟨ho.wF h.c he hg,ho.wF h.z he hg,ho.wF h.o he hg,h.b.grown hg h.b.size ho.base,h.g⟩
theorem KU.put(h:KU w wr CS OC gx){OC':List Value}(hg:wr.grownBy w' (some gx))(Z:N w' gx 33 OC'):KU w w' CS OC' gx:=⟨h.c.grown hg fh,h.z.grown hg fh,Z,rE h.b hg h.b.size (by have:=h.g;omega),h.g⟩
theorem KU.sD(h:KU w wr CS OC gx)(hg:wr.grownBy w' (some g))(Z:N wr g t L)(ht:33≠t)(E:w.heap.size<=g):KU w w' CS OC gx:=by
 have ne:∀{i:Nat} {M:List Value},N wr i 33 M->i≠g:=fun{i M} k he=>by subst he;unfold N at k Z;rw[k]at Z;injection Z with Z;injection Z with _ Z;exact ht Z
 exact⟨h.c.grown hg (by simpa using ne h.c),h.z.grown hg (by simpa using ne h.z),h.o.grown hg (by simpa using ne h.o),rE h.b hg h.b.size E,h.g⟩
end
def abN(w0:World)(hs:List xC)(ss:List Src)(w:World)(e:Ending)(w':World):Prop:=∃cs v1 v2 v3,e= .returned (.agg (cs++[v1,v2,v3]).toArray)/\cs.length=10/\rJ w' 0 74 19 (sG w0 w') v1 (tI hs)/\rJ w' 0 86 5 uK v2 (sP ss)/\(∃A n c,v3= .slice A n c)/\(∀u∈cs,u.oneCell'=true)/\ao w w'
theorem Nr{o:Oper}{a:Act}(ho:o.op= .alloc 74)(w:World):(execOp a.eval o).run prog w= .ok (.value (.pointer (some ⟨w.heap.size,0,none⟩))) (w.alloc (.cells zR.toArray 74)):=by
 unfold execOp;simp only[ho];kernel_rfl
theorem sG.own{α:Type}{R:List Value->α->Prop}{l:List α}{x:xC}(h:sG w0 w cs x)(ho:rJ w Hh 74 19 R v l)(hg:w.grownBy w' v.ownBlock):sG w0 w' cs x:=by
 obtain⟨vn,h0,U,F⟩:=h;exact⟨vn,h0,U,ho.JG F K hg⟩
theorem sG.agl{α:Type}{k:Nat}{R:List Value->α->Prop}{l:List α}{x:xC}(h:sG w0 w cs x)(ho:rJ w Hh e k R v l)(he:24≠e)(hg:w.grownBy w' v.ownBlock):sG w0 w' cs x:=by
 obtain⟨vn,h0,U,F⟩:=h;exact⟨vn,h0,U,ho.JG F he hg⟩
theorem sG.YA{x:xC}(h:sG w0 w cs x)(hg:w.grownBy w' (some g))(Z:N w g t L)(ht:t≠24):sG w0 w' cs x:=by
 obtain⟨vn,h0,U,F⟩:=h;exact⟨vn,h0,U,F.sD hg Z ht⟩
theorem Sw(w:World):Calls prog 33 #[] w (fun e w'=>∃A c,e= .returned (.slice A 2 c)/\rJ w' 0 86 5 uK (.slice A 2 c) Gj/\ao w w'):=by
 go_enter func33,ntmps33;go_wp2_with fail;go_ret;refine⟨_,_,I,?_,(Below.refl _ _).alloc (Nat.le_refl _) _⟩;exact rJ.rows (css:=[Jx ⟨1,true,false,false,false⟩,Jx ⟨2,true,false,false,false⟩]) (l:=Gj) 5 (N.new w _ _) (fun _ _ h=>by rw[h];rfl) ⟨I,I,trivial⟩ K
section
variable {w0:World} {cs:List Value} {r:Rs} {Ah As Asv:Option Addr} {ch cS csv:Nat} {hs:List xC} {ss:List Src} {vs:List He}
theorem Ns(w:World)(h:yc w cs r)(hw:ao w0 w)(hH:wH w0 19 (yY w0) Ah hs)(hhl:hs.length<=100)(hhn:∀h∈hs,h.ns.length<=100)(hSr:wH w0 5 uK As ss)(hsl:ss.length<=17592186044416)(hSv:wH w0 3 wG Asv vs)(hvl:vs.length<=1000):
  Calls prog 10 #[.agg (cs++[Value.slice Ah hs.length ch,Value.slice As ss.length cS,Value.slice Asv vs.length csv]).toArray] w (abN w0 hs ss w):=by
 have hcl:=h.len;have HB:Below w.heap.size w ((w.alloc (.cells (cs++[Value.slice Ah hs.length ch,Value.slice As ss.length cS,Value.slice Asv vs.length csv]).toArray 33)).alloc (.cells Nq.toArray 33)):=gF;have B0:=(N.new w 33 (cs++[Value.slice Ah hs.length ch,Value.slice As ss.length cS,Value.slice Asv vs.length csv])).alloc (.cells Nq.toArray 33);have Z0:=N.uE (w.alloc (.cells (cs++[Value.slice Ah hs.length ch,Value.slice As ss.length cS,Value.slice Asv vs.length csv]).toArray 33)) 33 Nq (w.heap.size+1) ar;have RR:=J (KP cs r _ (show yc ((w.alloc (.cells (cs++[Value.slice Ah hs.length ch,Value.slice As ss.length cS,Value.slice Asv vs.length csv]).toArray 33)).alloc (.cells Nq.toArray 33)) cs r from by
  obtain⟨A1,c1,A2,c2,A3,c3,h0,U,F,h3,l1,l2,l3⟩:=h;exact⟨A1,c1,A2,c2,A3,c3,h0,U.mono HB (fun _ _ h=>h),xA F HB,h3.mono HB (fun _ _ h=>h),l1,l2,l3⟩))
 unfold aaP at RR;have aiE:(cs++[Value.slice Ah hs.length ch,Value.slice As ss.length cS,Value.slice Asv vs.length csv]).length=13:=ko;have hCt:(cs++[Value.slice Ah hs.length ch,Value.slice As ss.length cS,Value.slice Asv vs.length csv]).take 10=cs:=List.take_left' hcl;have e1:(cs++[Value.slice Ah hs.length ch,Value.slice As ss.length cS,Value.slice Asv vs.length csv])[10]?=some (.slice Ah hs.length ch):=by rw[List.getElem?_append_right Y,hcl];rfl
 have e2:(cs++[Value.slice Ah hs.length ch,Value.slice As ss.length cS,Value.slice Asv vs.length csv])[11]?=some (.slice As ss.length cS):=by rw[List.getElem?_append_right Y,hcl];rfl
 have e3:(cs++[Value.slice Ah hs.length ch,Value.slice As ss.length cS,Value.slice Asv vs.length csv])[12]?=some (.slice Asv vs.length csv):=by rw[List.getElem?_append_right Y,hcl];rfl
 generalize(cs++[Value.slice Ah hs.length ch,Value.slice As ss.length cS,Value.slice Asv vs.length csv])=CS at*;have E1:=J e1;have E2:=J e2;have E3:=J e3;have HW0:=J hw;have HHI:=J hH;have HSI:=J hSr;have HVI:=J hSv;clear h hw hH hSr hSv hcl e1 e2 e3;go_enter func10,ntmps10;go_wp2_with(refine rF (.load 29 (.tmp 9)) I ?_;go_must(refine rG I _ _ I w.heap.size 0 I B0 10 Y _ underlying29 I wE cs (by rw[List.drop_zero];exact hCt) ?_));refine RR.out.mono ?_;rintro _ B ⟨A,c,A2,n2,c2,A3,n3,c3,rfl,hO,b1⟩;obtain⟨R10,anO⟩:∃R10,R10=zQ (.slice A (rT r).sv.length c) (.slice A2 n2 c2) (.slice A3 n3 c3) (rT r):=gh;have RB:Hid (∀W,(Instr.build 33 #[(0,.agg R10.toArray)]).run prog W= .ok (.agg (R10++[rI,rI,rI]).toArray) W):=J (fun W=>by rw[anO];exact JC ..);have hRl:R10.length=10:=by rw[anO];rfl
 have hRo:∀u∈R10,u.oneCell'=true:=by rw[anO];intro v hv;unfold zQ at hv;simp only[List.mem_cons,List.not_mem_nil,or_false]at hv;rcases hv with rfl|rfl|rfl|rfl|rfl|rfl|rfl|rfl|rfl|rfl<;>rfl
 rw[<-anO];clear anO hO;have H1:=rC HB HB.size b1;have Y1:=N.new B 33 Nq;have k1:Below B.heap.size B (B.alloc (.cells Nq.toArray 33)):=fZ;have B1:=(B0.G b1 B0.lt).G k1 (B0.G b1 B0.lt).lt;have Z1:=(Z0.G b1 Z0.lt).G k1 (Z0.G b1 Z0.lt).lt;have hL0:(R10++[rI,rI,rI]).length=13:=fA;have aqf:∀u∈R10++[rI,rI,rI],u.oneCell'=true:=by
  intro u hu;rcases List.mem_append.1 hu with hu|hu
  ·exact hRo u hu
  ·simp only[List.mem_cons,List.not_mem_nil,or_false,or_self]at hu;rw[hu];rfl
 have hz1:w.heap.size+1<B.heap.size:=(Z0.G b1 Z0.lt).lt;clear RR B0 Z0 HB b1 hCt;go_wp2_with(first
  |(refine rF (.build 33 #[(0,.tmp 11)]) rfl ?_;go_must(refine sy rfl 33 _ rfl #[(0,.agg R10.toArray)] cY (RB.out _) ?_))
  |(refine rF (.store 33 (.tmp 3) (.tmp 12)) rfl (ab rfl B.heap.size 0 (R10++[rI,rI,rI]) Y1 (by rw[hL0];decide) (by rw[hL0];exact xv) aqf ?_)))
 intro w2 X2 g2 sw;clear sw;replace X2:N w2 B.heap.size 33 (R10++[rI,rI,rI]):=X2;obtain⟨gx,hgx⟩:=aq B.heap.size;rw[hgx.out]at hz1 X2 g2⊢;have S2:KU w w2 CS (R10++[rI,rI,rI]) gx:=⟨B1.grown g2 aB,Z1.grown g2 aB,X2,rE (rC H1 H1.size k1) g2 (by have:=H1.size;have:=k1.size;omega) Y,hz1⟩;clear X2 g2 Y1 k1 B1 Z1 H1 hL0 aqf RB;go_upto_block 0 with fail;go_cut[] (fun wx=>∃hv:Value,Hid (KU w wx CS (R10++[hv,rI,rI]) gx)/\Hid (rJ wx w.heap.size 74 19 (sG w0 wx) hv (tI hs)))
 case first=>
  go_wp2_with fail;go_loopw[4] (fun iv wr=>∃(k:Nat) (hv:Value) (lo:List xC),k<=hs.length/\iv= .int .i64 k/\rJ wr w.heap.size 74 19 (sG w0 wr) hv lo/\Hid (lo=((hs.map wh).take k).filter yE)/\KU w wr CS (R10++[hv,rI,rI]) gx) (fun iv _=>hs.length-(intOf iv).toNat)
  case atStart=>exact⟨0,rI,[],Nat.zero_le _,I,rJ.nil _ _ _ _ _,J ar,S2⟩
  clear S2;obtain⟨k,hv,lo,O,rfl,ho,rH,S3⟩:=hrel;have d10:=S3.c.rD 10 E1.out;by_cases aA:k<hs.length
  case neg=>
   have h1:¬(k:Int)<hs.length:=Y;have hll:Hid (lo=tI hs):=J (by
    unfold tI;rw[Mw,rH.out,List.take_of_length_le dd])
   have HO:=J ho;have HS:=J S3;clear ho rH S3;go_wp2_with fail;go_meet
   case rel=>exact⟨hv,HS,by rw[<-hll.out];exact HO⟩
  have h1:(k:Int)<hs.length:=Y;obtain⟨Av,cv,hvv⟩:=ho.form;subst hvv;have hH:=HHI.out;obtain⟨b,off,hAA,hbw,hr⟩:=hH Y;obtain⟨es,hes,An,cn,hce,rB,hnm⟩:=hr k aA;subst hAA;have hnl:=hhn _ (List.getElem_mem aA);have NMS:=J (fun V (hV:ao w V)=>Fc w0 An cn hs[k].ns hs[k].ns.length V hnm (rC HW0.out HW0.out.size hV) Y Y);unfold wC at NMS;have CKS:=J (fun V=>ze hs[k].ad rB V);have HST:=J (show(hs.map wh)[k]'(by rw[List.length_map];exact aA)=wh hs[k]by simp);have FS:=J (ux (p:=yE) (show k<(hs.map wh).length by rw[List.length_map];exact aA));rw[HST.out]at FS;have hal:hs[k].ad.cells.length=18:=hs[k].ad.rY rB;have hel:es.length=19:=by rw[hce];simp[hal]
  have HES:Hid (∀V:World,ao w V->V.rangeAt b (off+k*19) es):=jw;have amb:∀V:World,V.rangeAt b (off+k*19) es->V.rangeAt b (off+k*19) hs[k].ad.cells:=fun V hV j v hv=>hV j v (by rw[hce,List.getElem?_append_left (by have:=(List.getElem?_eq_some_iff.1 hv).1;omega)];exact hv)
  have hnc:∀V:World,V.rangeAt b (off+k*19) es->V.cell? ⟨b,off+k*19+18,none⟩=some (.slice An hs[k].ns.length cn):=fun V hV=>hV 18 _ (by rw[hce,List.getElem?_append_right Y,hal];rfl)
  have apM:=J amb;have HNC:=J hnc;have HIP:=J rB;have HAL:=J hal;have HHE:=J hce;have RBH:=J (fun A x y W=>Oj hs[k].ad.cells hal A x y W);clear hH hes hnm hr rB hal amb hnc hce HST;obtain⟨hh,hhd⟩:=aq (hs[k]);rw[hhd.out]at NMS CKS FS apM HNC HIP HAL HHE RBH hnl;clear hhd;have HO:=J ho;have HS3:=J S3;have HLO:=J rH;clear ho rH;go_wp2_with fail;refine wp_region_held_drew (S:=fun V=>N V w.heap.size 33 CS/\V.rangeAt b (off+k*19) es) (by kernel_rfl) ⟨S3.c.drew,HES.out _ S3.b.drew⟩ (fun hS=>?_);clear S3 d10;refine rS hS 19 [0,1,2,3,4,5,6,7,8,9,10,11,12,13,14,15,16,17,18] I (by kernel_rfl) (fun _ _ _ _ _ h=>h) I I ?_
  (refine ak (.pointer (some ⟨w.heap.size,10,none⟩)) ?_;simp only[X])
  (refine aj _ I I (fun V hV=>(rX 22 (.tmp 20) ⟨w.heap.size,10,none⟩ I I (rQ underlying22 I (hV.1.rD 10 E1.out)))) ?_;simp only[X])
  (refine ak (.int .i64 (k:Int)) ?_;simp only[X])
  (refine aj _ I I (fun V hV=>(vi underlying22 yN K (.tmp 21) (.tmp 22) I I I aA V)) ?_;simp only[X])
  (refine ak (.pointer (some ⟨b,off+k*19,none⟩)) ?_;simp only[X])
  (refine aj _ I I (fun V hV=>(rX 67 (.tmp 24) ⟨b,off+k*19,none⟩ I I (uN (apM.out V hV.2) underlying67 I (by rw[HAL.out];exact uq)))) ?_;simp only[X])
  (refine ak (.pointer (some ⟨w.heap.size,10,none⟩)) ?_;simp only[X])
  (refine aj _ I I (fun V hV=>(rX 22 (.tmp 26) ⟨w.heap.size,10,none⟩ I I (rQ underlying22 I (hV.1.rD 10 E1.out)))) ?_;simp only[X])
  (refine ak (.int .i64 (k:Int)) ?_;simp only[X])
  (refine aj _ I I (fun V hV=>(vi underlying22 yN K (.tmp 27) (.tmp 28) I I I aA V)) ?_;simp only[X])
  (refine ak (.pointer (some ⟨b,off+k*19+18,none⟩)) ?_;simp only[X])
  (refine aj _ I I (fun V hV=>(rX 26 (.tmp 30) ⟨b,off+k*19+18,none⟩ I I (rQ underlying26 I (HNC.out V hV.2)))) ?_;simp only[X])
  (refine ak (.pointer (some ⟨w.heap.size,10,none⟩)) ?_;simp only[X])
  (refine aj _ I I (fun V hV=>(rX 22 (.tmp 32) ⟨w.heap.size,10,none⟩ I I (rQ underlying22 I (hV.1.rD 10 E1.out)))) ?_;simp only[X])
  (refine ak (.int .i64 (k:Int)) ?_;simp only[X])
  (refine aj _ I I (fun V hV=>(vi underlying22 yN K (.tmp 33) (.tmp 34) I I I aA V)) ?_;simp only[X])
  (refine ak (.pointer (some ⟨b,off+k*19+18,none⟩)) ?_;simp only[X])
  (refine aj _ I I (fun V hV=>(rX 26 (.tmp 36) ⟨b,off+k*19+18,none⟩ I I (rQ underlying26 I (HNC.out V hV.2)))) ?_;simp only[X])
  (refine aj (.int .i64 (hh.ns.length:Int)) I I (fun V hV=>bc) ?_;simp only[X])
  simp only[sS];refine uZ 19 21 (by kernel_rfl) ?_ ?_
  ·
   refine sZ 19 (some 39) 31 #[.slice An hh.ns.length cn,.int .i64 (hh.ns.length:Int)] I I (by kernel_rfl) bc (NMS.out _ HS3.out.b.drew) ?_;rintro _ w4 ⟨v4,rfl,hN4,b4⟩;obtain⟨A6,c6,hv6⟩:=hN4.form;subst hv6;have Na0:=hN4.zero;clear hN4;obtain⟨n6,hn6⟩:∃n6,(sL xu hh.ns hh.ns.length).length=n6:=gh;rw[hn6]at Na0⊢;have HN6:=J hn6;clear hn6;have S4:=(HS3.out.G (Below.refl _ _).drew).G b4;have O4:=rJ.G (R':=sG w0 w4) (rJ.G (R':=sG w0 wr.drew) HO.out (Below.refl _ _).drew (fun _ _ x=>x.G (Below.refl _ _).drew)) b4 (fun _ _ x=>x.G b4);refine⟨_,I,⟨S4.c,HES.out _ S4.b⟩,?_⟩;clear hS;have hS:N w4 w.heap.size 33 CS/\w4.rangeAt b (off+k*19) es:=⟨S4.c,HES.out _ S4.b⟩;simp only[X];refine rS hS 1 [20] I (by kernel_rfl) (fun _ _ _ _ _ h=>h) I I ?_
   (refine aj (.agg (hh.ad.cells++[Value.slice A6 n6 c6]).toArray) I I (fun V hV=>(wm 74 _ I #[(0,.agg hh.ad.cells.toArray),(1,.slice A6 n6 c6)] (by kernel_rfl) (RBH.out A6 n6 c6 V))) ?_;simp only[X])
   simp only[sS];refine rV 21 (by kernel_rfl) ?_;refine sx 21 (some 5) I I (by kernel_rfl) (Nr I _) ?_;have ka:Below w4.heap.size w4 (w4.alloc (.cells zR.toArray 74)):=fZ;have Sa:=S4.G ka;have Oa:=rJ.G (R':=sG w0 (w4.alloc (.cells zR.toArray 74))) O4 ka (fun _ _ x=>x.G ka);have Na:=rJ.G (R':=Ii w0) Na0 ka (fun _ _ x=>x);have Ga:=N.new w4 74 zR;have apb:=O4.ne (Nat.le_refl _);have hg5:w.heap.size<=w4.heap.size:=S4.b.size;refine⟨⟨Sa.c,HES.out _ Sa.b⟩,?_⟩;clear S4 O4 Na0 ka b4;obtain⟨g5,arC⟩:=aq w4.heap.size;rw[arC.out]at Ga apb hg5⊢;simp only[X];have aj2:(hh.ad.cells++[Value.slice A6 n6 c6]).length=19:=cH;have hs1:∀v∈hh.ad.cells++[Value.slice A6 n6 c6],v.oneCell'=true:=by exact pC
   refine rV 22 (by kernel_rfl) ?_;refine OP 22 74 (.tmp 5) (.tmp 40) I I I (by kernel_rfl) g5 0 I (hh.ad.cells++[Value.slice A6 n6 c6]) I Ga (by rw[aj2];decide) fi hs1 ?_;intro w5 B5 G5 s5;replace B5:N w5 g5 74 (hh.ad.cells++[Value.slice A6 n6 c6]):=mr;have S5:=Sa.sD G5 Ga K hg5;have N5:=Na.sD G5 Ga K;have O5:rJ w5 w.heap.size 74 19 (sG w0 w5) (.slice Av lo.length cv) lo:=jD;refine⟨⟨S5.c,HES.out _ S5.b⟩,?_⟩;clear hS Sa Na Oa Ga s5 G5;simp only[X];refine wpAnyH_done (by kernel_rfl) ?_ _;have HS5:=J S5;have HO5:=J O5;have HN5:=J N5;clear S5 O5 N5 HS3 HO NMS RBH apM HNC;go_wp2_with(refine rF (.load 67 (.tmp 41)) I ?_;go_must(refine rG I _ _ I g5 0 I B5 18 Y _ underlying67 I uq hh.ad.cells fl ?_));refine(CKS.out _).mono ?_;rintro _ w6 ⟨rfl,b6⟩;have S6:=HS5.out.G b6;have O6:=rJ.G (R':=sG w0 w6) HO5.out b6 (fun _ _ x=>x.G b6);have N6:=rJ.G (R':=Ii w0) HN5.out b6 (fun _ _ x=>x);have B6:=B5.G b6 B5.lt;have d18:=B6.rD 18 (u:=.slice A6 n6 c6) (by rw[List.getElem?_append_right (Nat.le_of_eq HAL.out),HAL.out];rfl);have HB6:=J B6;have aBb:lo.length<=100:=by exact qz
   have HOK:Hid (yE (wh hh)=(hh.ad.check==0&&decide (1<=n6))):=J fw;clear HS5 HO5 HN5 B5 b6 CKS;have HS6:=J S6;have HO6:=J O6;by_cases hz:hh.ad.check=0
   case neg=>have hz':(hh.ad.check==0)=false:=jy;rw[hz',Bool.false_and]at HOK;have FS0:Hid (lo=((hs.map wh).take (k+1)).filter yE):=J fO;exact np
   by_cases hn0:n6=0
   case pos=>subst hn0;have FS0:Hid (lo=((hs.map wh).take (k+1)).filter yE):=jc;have hz':(hh.ad.check==0)=true:=kG;exact np
   have au1:(0:Int)<n6:=Y;have hz':(hh.ad.check==0)=true:=kG;have FS1:Hid (lo++[wh hh]=((hs.map wh).take (k+1)).filter yE):=J fP;have d10:=S6.o.rD 10 (u:=.slice Av lo.length cv) (by rw[List.getElem?_append_right Y,hRl];rfl);have K7:Below w6.heap.size w6 (w6.alloc (.cells (hh.ad.cells++[Value.slice A6 n6 c6]).toArray 74)):=fZ;have O7:=rJ.G (R':=sG w0 (w6.alloc (.cells (hh.ad.cells++[Value.slice A6 n6 c6]).toArray 74))) O6 K7 (fun _ _ x=>x.G K7);have N7:sG w0 (w6.alloc (.cells (hh.ad.cells++[Value.slice A6 n6 c6]).toArray 74)) (hh.ad.cells++[Value.slice A6 n6 c6]) (wh hh):=jB;have S7:=S6.G K7;have ne7:=O6.ne (Nat.le_refl _);have akI:=S7.b.size;clear hz hn0;go_wp2_with(first
    |(refine rF (.load 74 (.tmp 5)) rfl ?_;go_must(refine rG rfl _ _ rfl g5 0 rfl B6 19 Y _ underlying74 rfl yN (hh.ad.cells++[Value.slice A6 n6 c6]) (uH Y) ?_))
    |(refine rF (.buildSlice 22 1 #[(0,.tmp 53)]) rfl ?_;go_must(refine uT rfl 22 74 _ 19 56 underlying22 yD K K (.tmp 53) rfl (hh.ad.cells++[Value.slice A6 n6 c6]) rfl aj2 ?_))
    |(at_builtin;go_must(refine sJ _ rfl _ _ 22 rfl 74 _ 19 56 underlying22 yD (by kernel_rfl) K w.heap.size _ lo rfl O7 akI w6.heap.size (hh.ad.cells++[Value.slice A6 n6 c6]) (wh hh) rfl (N.new _ _ _) ne7 aj2 hs1 N7 aL Y ?_)))
   exact mS
  ·
   refine sx 21 (some 5) I I (by kernel_rfl) (Nr I _) ?_;have ka:Below wr.drew.heap.size wr.drew (wr.drew.alloc (.cells zR.toArray 74)):=fZ;have S4:=(HS3.out.G (Below.refl _ _).drew).G ka;have O4:=rJ.G (R':=sG w0 wr.drew) HO.out (Below.refl _ _).drew (fun _ _ x=>x.G (Below.refl _ _).drew);have Ga0:=N.new wr.drew 74 zR;have apb:=O4.ne (Nat.le_refl _);have hg5:w.heap.size<=wr.drew.heap.size:=HS3.out.b.size;have O4a:=rJ.G (R':=sG w0 (wr.drew.alloc (.cells zR.toArray 74))) O4 ka (fun _ _ x=>x.G ka);refine⟨⟨S4.c,HES.out _ S4.b⟩,?_⟩;obtain⟨g5,arC⟩:=aq wr.drew.heap.size;rw[arC.out]at Ga0 apb hg5⊢;clear ka O4;simp only[X];refine rV 19 (by kernel_rfl) ?_;refine sZ 19 (some 39) 31 #[.slice An hh.ns.length cn,.int .i64 (hh.ns.length:Int)] I I (by kernel_rfl) bc (NMS.out _ S4.b) ?_;rintro _ w4 ⟨v4,rfl,hN4,b4⟩;obtain⟨A6,c6,hv6⟩:=hN4.form;subst hv6;have Na:=hN4.zero;clear hN4;obtain⟨n6,hn6⟩:∃n6,(sL xu hh.ns hh.ns.length).length=n6:=gh;rw[hn6]at Na⊢;have HN6:=J hn6;clear hn6;have Sa:=S4.G b4;have Oa:=rJ.G (R':=sG w0 w4) O4a b4 (fun _ _ x=>x.G b4);have Ga:=Ga0.G b4 Ga0.lt;refine⟨_,I,⟨Sa.c,HES.out _ Sa.b⟩,?_⟩;clear hS S4 O4a Ga0 b4;have hS:N w4 w.heap.size 33 CS/\w4.rangeAt b (off+k*19) es:=⟨Sa.c,HES.out _ Sa.b⟩;simp only[X];refine rS hS 1 [20] I (by kernel_rfl) (fun _ _ _ _ _ h=>h) I I ?_
   (refine aj (.agg (hh.ad.cells++[Value.slice A6 n6 c6]).toArray) I I (fun V hV=>(wm 74 _ I #[(0,.agg hh.ad.cells.toArray),(1,.slice A6 n6 c6)] (by kernel_rfl) (RBH.out A6 n6 c6 V))) ?_;simp only[X])
   simp only[sS];have aj2:(hh.ad.cells++[Value.slice A6 n6 c6]).length=19:=cH;have hs1:∀v∈hh.ad.cells++[Value.slice A6 n6 c6],v.oneCell'=true:=by exact pC
   refine rV 22 (by kernel_rfl) ?_;refine OP 22 74 (.tmp 5) (.tmp 40) I I I (by kernel_rfl) g5 0 I (hh.ad.cells++[Value.slice A6 n6 c6]) I Ga (by rw[aj2];decide) fi hs1 ?_;intro w5 B5 G5 s5;replace B5:N w5 g5 74 (hh.ad.cells++[Value.slice A6 n6 c6]):=mr;have S5:=Sa.sD G5 Ga K hg5;have N5:=Na.sD G5 Ga K;have O5:rJ w5 w.heap.size 74 19 (sG w0 w5) (.slice Av lo.length cv) lo:=jD;refine⟨⟨S5.c,HES.out _ S5.b⟩,?_⟩;clear hS Sa Na Oa Ga s5 G5;simp only[X];refine wpAnyH_done (by kernel_rfl) ?_ _;have HS5:=J S5;have HO5:=J O5;have HN5:=J N5;clear S5 O5 N5 HS3 HO NMS RBH apM HNC;go_wp2_with(refine rF (.load 67 (.tmp 41)) I ?_;go_must(refine rG I _ _ I g5 0 I B5 18 Y _ underlying67 I uq hh.ad.cells fl ?_));refine(CKS.out _).mono ?_;rintro _ w6 ⟨rfl,b6⟩;have S6:=HS5.out.G b6;have O6:=rJ.G (R':=sG w0 w6) HO5.out b6 (fun _ _ x=>x.G b6);have N6:=rJ.G (R':=Ii w0) HN5.out b6 (fun _ _ x=>x);have B6:=B5.G b6 B5.lt;have d18:=B6.rD 18 (u:=.slice A6 n6 c6) (by rw[List.getElem?_append_right (Nat.le_of_eq HAL.out),HAL.out];rfl);have HB6:=J B6;have aBb:lo.length<=100:=by exact qz
   have HOK:Hid (yE (wh hh)=(hh.ad.check==0&&decide (1<=n6))):=J fw;clear HS5 HO5 HN5 B5 b6 CKS;have HS6:=J S6;have HO6:=J O6;by_cases hz:hh.ad.check=0
   case neg=>have hz':(hh.ad.check==0)=false:=jy;rw[hz',Bool.false_and]at HOK;have FS0:Hid (lo=((hs.map wh).take (k+1)).filter yE):=J fO;exact np
   by_cases hn0:n6=0
   case pos=>subst hn0;have FS0:Hid (lo=((hs.map wh).take (k+1)).filter yE):=jc;have hz':(hh.ad.check==0)=true:=kG;exact np
   have au1:(0:Int)<n6:=Y;have hz':(hh.ad.check==0)=true:=kG;have FS1:Hid (lo++[wh hh]=((hs.map wh).take (k+1)).filter yE):=J fP;have d10:=S6.o.rD 10 (u:=.slice Av lo.length cv) (by rw[List.getElem?_append_right Y,hRl];rfl);have K7:Below w6.heap.size w6 (w6.alloc (.cells (hh.ad.cells++[Value.slice A6 n6 c6]).toArray 74)):=fZ;have O7:=rJ.G (R':=sG w0 (w6.alloc (.cells (hh.ad.cells++[Value.slice A6 n6 c6]).toArray 74))) O6 K7 (fun _ _ x=>x.G K7);have N7:sG w0 (w6.alloc (.cells (hh.ad.cells++[Value.slice A6 n6 c6]).toArray 74)) (hh.ad.cells++[Value.slice A6 n6 c6]) (wh hh):=jB;have S7:=S6.G K7;have ne7:=O6.ne (Nat.le_refl _);have akI:=S7.b.size;clear hz hn0;go_wp2_with(first
    |(refine rF (.load 74 (.tmp 5)) rfl ?_;go_must(refine rG rfl _ _ rfl g5 0 rfl B6 19 Y _ underlying74 rfl yN (hh.ad.cells++[Value.slice A6 n6 c6]) (uH Y) ?_))
    |(refine rF (.buildSlice 22 1 #[(0,.tmp 53)]) rfl ?_;go_must(refine uT rfl 22 74 _ 19 56 underlying22 yD K K (.tmp 53) rfl (hh.ad.cells++[Value.slice A6 n6 c6]) rfl aj2 ?_))
    |(at_builtin;go_must(refine sJ _ rfl _ _ 22 rfl 74 _ 19 56 underlying22 yD (by kernel_rfl) K w.heap.size _ lo rfl O7 akI w6.heap.size (hh.ad.cells++[Value.slice A6 n6 c6]) (wh hh) rfl (N.new _ _ _) ne7 aj2 hs1 N7 aL Y ?_)))
   exact mS
 obtain⟨hv,HS3,HO3⟩:=hcut;obtain⟨w3,rfl⟩:∃w3,w3=wc:=gh;clear S2 HHI E1 hhn;obtain⟨E,HHL⟩:=aq (tI hs);rw[HHL.out]at HO3;go_upto_block 2 with fail;go_cut[] (fun wx=>∃sv:Value,Hid (KU w wx CS (R10++[hv,sv,rI]) gx)/\Hid (rJ wx w.heap.size 74 19 (sG w0 wx) hv E)/\Hid (rJ wx w.heap.size 86 5 uK sv (sL vH ss 8)))
 case first=>
  go_wp2_with fail;go_loopw[6] (fun iv wr=>∃(k:Nat) (sv:Value) (lo:List Src),k<=ss.length/\iv= .int .i64 k/\rJ wr w.heap.size 86 5 uK sv lo/\lo.length<=8/\Hid (lo=(ss.take k).filter vH)/\KU w wr CS (R10++[hv,sv,rI]) gx/\Hid (rJ wr w.heap.size 74 19 (sG w0 wr) hv E)) (fun iv _=>ss.length-(intOf iv).toNat)
  case atStart=>exact⟨0,rI,[],Nat.zero_le _,I,rJ.nil _ _ _ _ _,ar,J ar,HS3.out,HO3⟩
  clear HS3 HO3;obtain⟨k,sv,lo,O,rfl,ho,hle,rH,S3,HO⟩:=hrel;obtain⟨Av,cv,hvv⟩:=ho.form;subst hvv;have d11:=S3.c.rD 11 E2.out;have f11:=S3.o.rD 11 (u:=.slice Av lo.length cv) (by rw[List.getElem?_append_right Y,hRl];rfl);have HSO:=J ho;have HS3:=J S3;clear ho;by_cases aA:k<ss.length
  case neg=>
   have h1:¬(k:Int)<ss.length:=Y;have hll:Hid (lo=sL vH ss 8):=J (by
    have U:=rH.out;rw[List.take_of_length_le Y]at U;rw[U,EM (by rw[<-U];exact hle)])
   clear S3 rH;exact pU
  have h1:(k:Int)<ss.length:=Y;by_cases aj8:lo.length<8
  case neg=>have h3:lo.length=8:=Y;have hll:Hid (lo=sL vH ss 8):=J (by rw[xz (show((ss.take k).filter vH).length=8 by rw[<-rH.out];omega),rH.out]);have ag2:¬(lo.length:Int)<8:=Y;clear S3 rH h3;exact pU
  have ag2:(lo.length:Int)<8:=Y;obtain⟨b,off,hAA,hbw,hr⟩:=HSI.out Y;obtain⟨es,hes,hce⟩:=hr k aA;subst hAA;have hce:es=Jx ss[k]:=hce;have HES:Hid (∀V:World,ao w V->V.rangeAt b (off+k*5) es):=jw;have FS:=J (ux (p:=vH) aA);obtain⟨x,hx⟩:∃x,ss[k]=x:=gh;rw[hx]at hce FS;have dk:wr.cell? ⟨b,off+k*5,none⟩=some (.int .i64 x.kd):=by have:=HES.out wr S3.b 0 (.int .i64 x.kd) (by rw[hce];rfl);simpa using this
  have hel:es.length=5:=by rw[hce];rfl
  have w1:∀v∈es,v.oneCell'=true:=by rw[hce];exact QZ x
  have HI:Hid (uK es x):=J hce;have HOK:Hid (vH x=(x.kd==1||x.kd==2||x.kd==3)):=jO;clear hes hr hx hce S3;by_cases U:1<=x.kd
  case neg=>exact m7
  by_cases h3:x.kd<=3
  case neg=>exact m7
  have FS1:Hid (lo++[x]=(ss.take (k+1)).filter vH):=J (by
   have F:vH x=true:=by rw[HOK.out];have:x.kd=1\/x.kd=2\/x.kd=3:=Y;rcases this with h|h|h<;>rw[h]<;>rfl
   rw[FS.out,if_pos F,<-rH.out])
  clear FS rH;go_wp2_with fail;have O5:Hid (rJ (wr.drew.alloc (.cells es.toArray 86)) w.heap.size 86 5 uK (.slice Av lo.length cv) lo):=J (rJ.G (R':=uK) (rJ.G (R':=uK) HSO.out (Below.refl _ _).drew (fun _ _ x=>x)) ((Below.refl _ _).alloc (Nat.le_refl _) _) (fun _ _ x=>x));have S4:=HS3.out.G (Below.refl _ _).drew;have S5:Hid (KU w (wr.drew.alloc (.cells es.toArray 86)) CS (R10++[hv,.slice Av lo.length cv,rI]) gx):=J (S4.G ((Below.refl _ _).alloc (Nat.le_refl _) _));have HO5:Hid (rJ (wr.drew.alloc (.cells es.toArray 86)) w.heap.size 74 19 (sG w0 (wr.drew.alloc (.cells es.toArray 86))) hv E):=J (rJ.G (rJ.G (R':=sG w0 wr.drew) HO.out (Below.refl _ _).drew (fun _ _ x=>x.G (Below.refl _ _).drew)) ((Below.refl _ _).alloc (Nat.le_refl _) _) (fun _ _ x=>x.G ((Below.refl _ _).alloc (Nat.le_refl _) _)));have LD:Hid ((Instr.loadAt 30 (.pointer (some ⟨gx,11,none⟩))).run prog wr.drew= .ok (.slice Av lo.length cv) wr.drew):=J (rQ underlying30 I (S4.o.rD 11 (by rw[List.getElem?_append_right Y,hRl];rfl)));have LD5:Hid ((Instr.loadAt 30 (.pointer (some ⟨gx,11,none⟩))).run prog (wr.drew.alloc (.cells es.toArray 86))= .ok (.slice Av lo.length cv) (wr.drew.alloc (.cells es.toArray 86))):=J (rQ underlying30 I (S5.out.o.rD 11 (by rw[List.getElem?_append_right Y,hRl];rfl)));have RBS:=J (fun V=>EL (P:=prog) V 30 86 _ 5 16 underlying30 CI K K es hel);refine wp_region_held_drew (S:=fun V=>N V w.heap.size 33 CS/\V.rangeAt b (off+k*5) es) (by kernel_rfl) ⟨S4.c,HES.out _ S4.b⟩ (fun hS=>?_);refine rS hS 6 [0,2,3,4,5,6] I (by kernel_rfl) (fun _ _ _ _ _ h=>h) I I ?_
  (refine ak (.pointer (some ⟨gx,11,none⟩)) ?_;simp only[X])
  (refine ak (.pointer (some ⟨w.heap.size,11,none⟩)) ?_;simp only[X])
  (refine aj _ I I (fun V hV=>(rX 30 (.tmp 88) ⟨w.heap.size,11,none⟩ I I (rQ underlying30 I (hV.1.rD 11 E2.out)))) ?_;simp only[X])
  (refine ak (.int .i64 (k:Int)) ?_;simp only[X])
  (refine aj _ I I (fun V hV=>(vi underlying30 Mu K (.tmp 89) (.tmp 90) I I I aA V)) ?_;simp only[X])
  (refine aj _ I I (fun V hV=>(rX 86 (.tmp 91) ⟨b,off+k*5,none⟩ I I (uN hV.2 underlying86 I (by rw[hel];exact Mu)))) ?_;simp only[X])
  simp only[sS];refine uZ 1 7 (by kernel_rfl) ?_ ?_
  ·
   refine uj 1 (some 87) 30 (.tmp 86) ⟨gx,11,none⟩ I I I I (by kernel_rfl) LD.out ?_;refine⟨hS,?_⟩;simp only[X];refine rV 7 (by kernel_rfl) ?_;refine sx 7 (some 93) I I (by kernel_rfl) (zt (.tmp 92) I I (RBS.out _)) ?_;refine⟨⟨S5.out.c,HES.out _ S5.out.b⟩,?_⟩;simp only[X];obtain⟨v',wb,hr,O6,g6⟩:=zu (P:=prog) (wr.drew.alloc (.cells es.toArray 86)) 30 30 86 _ 5 16 underlying30 CI (by kernel_rfl) K w.heap.size _ lo O5.out S5.out.b.size wr.drew.heap.size es x (N.new wr.drew 86 es) hel w1 HI.out aL Y;obtain⟨Av',cv',hv'⟩:=O6.form;subst hv';have S6:=S5.out.own O5.out K g6;have HO6:rJ wb w.heap.size 74 19 (sG w0 wb) hv E:=iG;refine rV 8 (by kernel_rfl) ?_;refine sx 8 (some 94) I I (by kernel_rfl) (xX (.tmp 87) (.tmp 93) I I I I hr) ?_;refine⟨⟨S6.c,HES.out _ S6.b⟩,?_⟩;clear O5 S5 HO5 g6 hr LD LD5 RBS hS S4;simp only[X];have hS:N wb w.heap.size 33 CS/\wb.rangeAt b (off+k*5) es:=⟨S6.c,HES.out _ S6.b⟩;refine rS hS 1 [9] I (by kernel_rfl) (fun _ _ _ _ _ h=>h) I I ?_
   (refine ak (.pointer (some ⟨gx,11,none⟩)) ?_;simp only[X])
   simp only[sS];clear hS;refine rV 10 (by kernel_rfl) ?_;refine ur 10 30 (.tmp 95) (.tmp 94) I I I (by kernel_rfl) gx 11 I (.slice Av' (lo++[x]).length cv') I S6.o fA abM I I ?_;intro w7 B7 g7 _;have S7:=J (S6.put (OC':=R10++[hv,.slice Av' (lo++[x]).length cv',rI]) g7 fC);have O7:=J (O6.sD g7 S6.o K);have HO7:Hid (rJ w7 w.heap.size 74 19 (sG w0 w7) hv E):=jh;refine⟨⟨S7.out.c,HES.out _ S7.out.b⟩,?_⟩;clear O6 S6 HO6 g7 B7;simp only[X];refine wpAnyH_done (by kernel_rfl) ?_ _;exact oJ
  ·
   refine sx 7 (some 93) I I (by kernel_rfl) (zt (.tmp 92) I I (RBS.out _)) ?_;refine⟨⟨S5.out.c,HES.out _ S5.out.b⟩,?_⟩;simp only[X];refine rV 1 (by kernel_rfl) ?_;refine uj 1 (some 87) 30 (.tmp 86) ⟨gx,11,none⟩ I I I I (by kernel_rfl) LD5.out ?_;refine⟨⟨S5.out.c,HES.out _ S5.out.b⟩,?_⟩;simp only[X];obtain⟨v',wb,hr,O6,g6⟩:=zu (P:=prog) (wr.drew.alloc (.cells es.toArray 86)) 30 30 86 _ 5 16 underlying30 CI (by kernel_rfl) K w.heap.size _ lo O5.out S5.out.b.size wr.drew.heap.size es x (N.new wr.drew 86 es) hel w1 HI.out aL Y;obtain⟨Av',cv',hv'⟩:=O6.form;subst hv';have S6:=S5.out.own O5.out K g6;have HO6:rJ wb w.heap.size 74 19 (sG w0 wb) hv E:=iG;refine rV 8 (by kernel_rfl) ?_;refine sx 8 (some 94) I I (by kernel_rfl) (xX (.tmp 87) (.tmp 93) I I I I hr) ?_;refine⟨⟨S6.c,HES.out _ S6.b⟩,?_⟩;clear O5 S5 HO5 g6 hr LD LD5 RBS hS S4;simp only[X];have hS:N wb w.heap.size 33 CS/\wb.rangeAt b (off+k*5) es:=⟨S6.c,HES.out _ S6.b⟩;refine rS hS 1 [9] I (by kernel_rfl) (fun _ _ _ _ _ h=>h) I I ?_
   (refine ak (.pointer (some ⟨gx,11,none⟩)) ?_;simp only[X])
   simp only[sS];clear hS;refine rV 10 (by kernel_rfl) ?_;refine ur 10 30 (.tmp 95) (.tmp 94) I I I (by kernel_rfl) gx 11 I (.slice Av' (lo++[x]).length cv') I S6.o fA abM I I ?_;intro w7 B7 g7 _;have S7:=J (S6.put (OC':=R10++[hv,.slice Av' (lo++[x]).length cv',rI]) g7 fC);have O7:=J (O6.sD g7 S6.o K);have HO7:Hid (rJ w7 w.heap.size 74 19 (sG w0 w7) hv E):=jh;refine⟨⟨S7.out.c,HES.out _ S7.out.b⟩,?_⟩;clear O6 S6 HO6 g7 B7;simp only[X];refine wpAnyH_done (by kernel_rfl) ?_ _;exact oJ
 obtain⟨sv,HS4,HO4,apK⟩:=hcut;obtain⟨w4,rfl⟩:∃w4,w4=wc:=gh;clear HS3 HO3 HSI E2;have HHS:Hid (sP ss=if sL vH ss 8=[]then Gj else sL vH ss 8):=jO;generalize sL vH ss 8=sl at*;obtain⟨Sl,hSl⟩:=aq (sP ss);rw[hSl.out]at HHS;obtain⟨Av,cv,hvv⟩:=apK.out.form;subst hvv;have d11:=HS4.out.o.rD 11 (u:=.slice Av sl.length cv) (by rw[List.getElem?_append_right Y,hRl];rfl);go_upto_if 99 with fail;go_cut[] (fun wx=>∃sv:Value,Hid (KU w wx CS (R10++[hv,sv,rI]) gx)/\Hid (rJ wx w.heap.size 74 19 (sG w0 wx) hv E)/\Hid (rJ wx 0 86 5 uK sv Sl))
 case first=>
  by_cases h0:sl.length=0
  case neg=>
   have h0':((sl.length:Int)==0)=false:=by have:¬(sl.length:Int)=0:=Y;simpa using this
   have hs:Hid (Sl=sl):=J (by rw[HHS.out,if_neg (by intro h;rw[h]at h0;exact h0 I)]);have HSr:=J apK.out.zero;clear h0;go_wp2_with fail;go_meet
   case rel=>exact⟨_,HS4,HO4,by rw[hs.out];exact HSr⟩
  case pos=>
   have hs:Hid (Sl=Gj):=J (by rw[HHS.out,if_pos (List.length_eq_zero_iff.1 h0)]);have PL:=J (fun V=>Sw V);have h0':((sl.length:Int)==0)=true:=fG;clear h0;go_wp2_with fail;refine(PL.out _).mono ?_;rintro _ w5 ⟨A5,c5,rfl,hO5,b5⟩;have S5:=HS4.out.G b5;have O5:=rJ.G (R':=sG w0 w5) HO4.out b5 (fun _ _ x=>x.G b5);have HP5:=J hO5;clear hO5 d11 PL HS4 HO4 apK;go_wp2_with(refine rF (.store 30 (.tmp 101) (.tmp 100)) I (af I gx 11 (.slice A5 2 c5) S5.o fA abM ?_));intro w6 B6 g6 sw;clear sw;have S6:=J (S5.put (OC':=R10++[hv,.slice A5 2 c5,rI]) g6 (by simpa[hRl]using B6));have O6:Hid (rJ w6 w.heap.size 74 19 (sG w0 w6) hv E):=J (O5.rM (fun _ x=>tY x g6 S5.o K) (fun _ _ x=>x.YA g6 S5.o K));have P6:=J (HP5.out.sD g6 S5.o K);clear B6 g6 S5 O5 b5;go_wp2_with fail;go_meet
   case rel=>exact⟨_,S6,O6,by rw[hs.out];exact P6⟩
 obtain⟨sv,HS5,HO5,HP5⟩:=hcut;obtain⟨w5,rfl⟩:∃w5,w5=wc:=gh;clear HS4 HO4 apK HHS d11;go_upto_block 4 with fail;go_cut[] (fun wx=>∃A9 n9 c9,Hid (KU w wx CS (R10++[hv,sv,.slice A9 n9 c9]) gx)/\Hid (rJ wx w.heap.size 74 19 (sG w0 wx) hv E)/\Hid (rJ wx 0 86 5 uK sv Sl))
 case first=>
  go_wp2_with fail;go_loopw[7] (fun iv wr=>∃(k:Nat) (vv:Value) (lo:List He),k<=vs.length/\iv= .int .i64 k/\rJ wr w.heap.size 77 3 wG vv lo/\lo.length<=k/\KU w wr CS (R10++[hv,sv,vv]) gx/\Hid (rJ wr w.heap.size 74 19 (sG w0 wr) hv E)/\Hid (rJ wr 0 86 5 uK sv Sl)) (fun iv _=>vs.length-(intOf iv).toNat)
  case atStart=>exact⟨0,rI,[],Nat.zero_le _,I,rJ.nil _ _ _ _ _,ar,HS5.out,HO5,HP5⟩
  clear HS5 HO5 HP5;obtain⟨k,vv,lo,O,rfl,ho,hle,S3,HO3,HP3⟩:=hrel;obtain⟨Av,cv,hvv⟩:=ho.form;subst hvv;have d12:=S3.c.rD 12 E3.out;by_cases aA:k<vs.length
  case neg=>
   have h1:¬(k:Int)<vs.length:=Y;have HS3:=J S3;clear S3 ho;go_wp2_with fail;go_meet
   case rel=>exact⟨_,_,_,HS3,HO3,HP3⟩
  have h1:(k:Int)<vs.length:=Y;obtain⟨b,off,hAA,hbw,hr⟩:=HVI.out Y;obtain⟨es,hes,An,cn,hce⟩:=hr k aA;subst hAA;have avl:wr.rangeAt b (off+k*3) es:=rN hes (rC HW0.out HW0.out.size S3.b) hbw;obtain⟨x,hx⟩:∃x,vs[k]=x:=gh;rw[hx]at hce;have hel:es.length=3:=by rw[hce];rfl
  have w1:∀v∈es,v.oneCell'=true:=by rw[hce];intro v hv;exact pP
  have HI:Hid (wG es x):=J ⟨An,cn,hce⟩;have k1:Below wr.heap.size wr (wr.alloc (.cells Q6.toArray 77)):=fZ;have Y1:=N.new wr 77 Q6;have HCE:=J hce;clear hes hr hx hce;go_wp2_with(first
   |(refine rF (.load 77 (.tmp 112)) rfl ?_;go_must(refine sr rfl 77 (.tmp 112) rfl b (off+k*3) rfl es avl _ underlying77 rfl fD ?_))
   |(refine rF (.store 77 (.tmp 8) (.tmp 113)) rfl (ab rfl wr.heap.size 0 es Y1 (by rw[hel];decide) fD w1 ?_)))
  intro w6 B6 g6 sw;clear sw;have B5:N w6 wr.heap.size 77 es:=tH (M:=Q6) (n:=3) (by simpa[hel]using B6) K;have k6:=rE k1 g6 k1.size (Nat.le_refl _);have S5:=S3.G k6;have HO5:Hid (rJ w6 w.heap.size 74 19 (sG w0 w6) hv E):=J (rJ.G (R':=sG w0 w6) HO3.out k6 (fun _ _ x=>x.G k6));have HP5:=J (rJ.G (R':=uK) HP3.out k6 (fun _ _ x=>x));have Q5:=rJ.G (R':=wG) ho k6 (fun _ _ x=>x);have HS5:=J S5;have HQ5:=J Q5;have e0:=B5.rD 0 (u:=.slice An x.n cn) fE;have e1:=B5.rD 1 (u:=.int .i64 x.po) fE;have e2:=B5.rD 2 (u:=.int .i64 x.pr) fE;have hkl:lo.length<=1000:=Y;clear S3 HO3 HP3 ho B6 g6 k6 k1 Y1 avl HCE d12;by_cases U:1<=x.n
  case neg=>have h1':¬(0:Int)<x.n:=Y;exact nb
  have h1':(0:Int)<x.n:=Y;by_cases F:0<=x.po
  case neg=>exact nb
  by_cases h3:x.po<=65535
  case neg=>exact nb
  by_cases h6:x.pr=6\/x.pr=17
  case neg=>
   have h6':(x.pr==6)=false:=by simpa using fun h=>h6 (.inl h)
   have h7':(x.pr==17)=false:=by simpa using fun h=>h6 (.inr h)
   clear h6;exact nb
  have h6':(x.pr==6||x.pr==17)=true:=by rcases h6 with h|h<;>rw[h]<;>rfl
  have d12:=S5.o.rD 12 (u:=.slice Av lo.length cv) (by rw[List.getElem?_append_right Y,hRl];rfl);have K7:Below w6.heap.size w6 (w6.alloc (.cells es.toArray 77)):=fZ;have Q7:=rJ.G (R':=wG) Q5 K7 (fun _ _ x=>x);have S7:=S5.G K7;have HO7:Hid (rJ (w6.alloc (.cells es.toArray 77)) w.heap.size 74 19 (sG w0 (w6.alloc (.cells es.toArray 77))) hv E):=J (rJ.G HO5.out K7 (fun _ _ x=>x.G K7));have HP7:=J (rJ.G (R':=uK) HP5.out K7 (fun _ _ x=>x));have ne7:=Q5.ne (Nat.le_refl _);have akI:=S7.b.size;rcases h6 with h6|h6
  ·
   rw[h6]at e2;clear h6' h6;go_wp2_with(first
    |(refine rF (.load 77 (.tmp 8)) rfl ?_;go_must(refine rG rfl _ _ rfl wr.heap.size 0 rfl B5 3 Y _ underlying77 rfl Mv es (uH Y) ?_))
    |(refine rF (.buildSlice 31 1 #[(0,.tmp 140)]) rfl ?_;go_must(refine uT rfl 31 77 _ 3 40 underlying31 AG K K (.tmp 140) rfl es rfl hel ?_))
    |(at_builtin;go_must(refine sJ _ rfl _ _ 31 rfl 77 _ 3 40 underlying31 AG (by kernel_rfl) K w.heap.size _ lo rfl Q7 akI w6.heap.size es x rfl (N.new _ _ _) ne7 hel w1 HI.out aL Y ?_)))
   exact mM
  ·
   rw[h6]at e2;clear h6' h6;go_wp2_with(first
    |(refine rF (.load 77 (.tmp 8)) rfl ?_;go_must(refine rG rfl _ _ rfl wr.heap.size 0 rfl B5 3 Y _ underlying77 rfl Mv es (uH Y) ?_))
    |(refine rF (.buildSlice 31 1 #[(0,.tmp 140)]) rfl ?_;go_must(refine uT rfl 31 77 _ 3 40 underlying31 AG K K (.tmp 140) rfl es rfl hel ?_))
    |(at_builtin;go_must(refine sJ _ rfl _ _ 31 rfl 77 _ 3 40 underlying31 AG (by kernel_rfl) K w.heap.size _ lo rfl Q7 akI w6.heap.size es x rfl (N.new _ _ _) ne7 hel w1 HI.out aL Y ?_)))
   exact mM
 obtain⟨A9,n9,c9,HS6,HO6,HP6⟩:=hcut;obtain⟨w6,rfl⟩:∃w6,w6=wc:=gh;clear HS5 HO5 HP5 E3 HVI;have S6:=HS6.out;obtain⟨Ah2,ch2,hvh⟩:=HO6.out.form;obtain⟨As2,cs2,hvs⟩:=HP6.out.form;have h13:(R10++[hv,sv,.slice A9 n9 c9]).length=13:=fA;have w1:∀u∈R10++[hv,sv,.slice A9 n9 c9],u.oneCell'=true:=by
  intro u hu;rcases List.mem_append.1 hu with hu|hu
  ·exact hRo u hu
  ·
   simp only[List.mem_cons,List.not_mem_nil,or_false]at hu;rcases hu with rfl|rfl|rfl
   ·rw[hvh];rfl
   ·rw[hvs];rfl
   ·rfl
 have hzl:Nq.length=13:=rfl;obtain⟨OC,hOC⟩:=aq (R10++[hv,sv,.slice A9 n9 c9]);rw[hOC.out]at S6 h13 w1;have HRL:=J hRl;clear hvh hvs HS6 hRl;go_wp2_with(first
  |(refine rF (.load 33 (.tmp 3)) rfl ?_;go_must(refine rG rfl _ _ rfl gx 0 rfl S6.o 13 Y _ underlying33 rfl xv OC (uH Y) ?_))
  |(refine rF (.store 33 (.tmp 2) (.tmp 144)) rfl (ab rfl (w.heap.size+1) 0 OC S6.z (by rw[h13];decide) fF w1 ?_)))
 intro w7 B7 g7 sw;clear sw;replace B7:N w7 (w.heap.size+1) 33 OC:=tH (M:=Nq) (n:=13) (by simpa[h13]using B7) K;have H7:=J (rE S6.b g7 S6.b.size Y);have O7:=J (HO6.out.rM (R':=sG w0 w7) (fun _ x=>tY x g7 S6.z K) (fun _ _ x=>x.YA g7 S6.z K));have P7:=J (HP6.out.sD g7 S6.z K);clear g7 S6 HO6 HP6;go_wp2_with fail;refine tx I (w.heap.size+1) I B7 _ underlying33 I fF I ?_;rw[<-hOC.out];exact⟨R10,hv,sv,_,I,HRL.out,by rw[HHL.out];exact O7.out.zero,by rw[hSl.out];exact P7.out,⟨_,_,_,I⟩,hRo,H7.out⟩
end
def agm(hs:List xC)(ss:List Src)(vs:List He):Prop:=hs.length<=30/\vs.length<=30/\ss.length<=20/\∀h∈hs,h.ns.length<=6
def abO(hs:List xC)(ss:List Src)(vs:List He)(w:World)(e:Ending)(w':World):Prop:=∃b,e= .returned (.bool b)/\(b=true->agm hs ss vs)/\ao w w'
section
variable {cs:List Value} {r:Rs} {Ah As Asv:Option Addr} {ch cS csv:Nat} {hs:List xC} {ss:List Src} {vs:List He}
theorem Ko(w:World)(h:yc w cs r)(hH:wH w 19 (yY w) Ah hs)(hSv:wH w 3 wG Asv vs)(hhl:hs.length<=17592186044416)(hsl:ss.length<=17592186044416)(hvl:vs.length<=17592186044416):
  Calls prog 6 #[.agg (cs++[Value.slice Ah hs.length ch,Value.slice As ss.length cS,Value.slice Asv vs.length csv]).toArray] w (abO hs ss vs w):=by
 have hcl:=h.len;obtain⟨A1,c1,A2,c2,A3,c3,h0,U,F,h3,l1,l2,l3⟩:=h;have HB:Below w.heap.size w (w.alloc (.cells (cs++[Value.slice Ah hs.length ch,Value.slice As ss.length cS,Value.slice Asv vs.length csv]).toArray 33)):=fZ;have B0:=N.new w 33 (cs++[Value.slice Ah hs.length ch,Value.slice As ss.length cS,Value.slice Asv vs.length csv]);have e1:=B0.rD 10 (u:=.slice Ah hs.length ch) (by rw[List.getElem?_append_right Y,hcl];rfl);have e2:=B0.rD 11 (u:=.slice As ss.length cS) (by rw[List.getElem?_append_right Y,hcl];rfl);have e3:=B0.rD 12 (u:=.slice Asv vs.length csv) (by rw[List.getElem?_append_right Y,hcl];rfl);have f0:=B0.rD 0 (u:=.slice A1 r.sv.length c1) fG;have f1:=B0.rD 1 (u:=.slice A2 r.se.length c2) fG;have f2:=B0.rD 2 (u:=.slice A3 r.so.length c3) fG;have HN:=J F;have HHI:=J hH;have HSI:=J hSv;clear h0 U F h3 hH hSv hcl B0;generalize(cs++[Value.slice Ah hs.length ch,Value.slice As ss.length cS,Value.slice Asv vs.length csv])=CS at*;go_enter func6,ntmps6;by_cases q1:(hs.length:Int)<=30
 case neg=>exact ni
 by_cases q2:(vs.length:Int)<=30
 case neg=>exact ni
 by_cases q3:(ss.length:Int)<=20
 case neg=>exact ni
 by_cases q4:(r.sv.length:Int)<=20
 case neg=>exact ni
 by_cases q5:(r.se.length:Int)<=20
 case neg=>exact ni
 by_cases q6:(r.so.length:Int)<=20
 case neg=>exact ni
 go_upto_block 0 with fail;obtain⟨W,hW⟩:∃W,W=w.alloc (.cells CS.toArray 33):=gh;rw[<-hW]at HB e1 e2 e3 f0 f1 f2⊢;have FN:Hid (∀(A:Option Addr) (c:Nat) (n:List (List UInt8)),wA w A c n->Calls prog 7 #[.slice A n.length c] W (uQ (.bool (decide (sq n<=400))) W)):=J (fun A c n hN=>Zd A c n W (hN.G HB));clear hW;go_cut[] (fun wx=>wx=W)
 case first=>
  go_wp2_with fail;go_loopw[3] (fun iv wr=>∃k:Nat,k<=r.se.length/\iv= .int .i64 k/\wr=W) (fun iv _=>r.se.length-(intOf iv).toNat)
  case atStart=>exact⟨0,Nat.zero_le _,I,I⟩
  obtain⟨k,O,rfl,rfl⟩:=hrel;by_cases aA:k<r.se.length
  case neg=>
   have h1:¬(k:Int)<r.se.length:=Y;go_wp2_with fail;go_meet
   case rel=>rfl
  have h1:(k:Int)<r.se.length:=Y;obtain⟨b,off,rfl,Z,hr⟩:=HN.out Y;obtain⟨Ai,ci,hc,hR⟩:=hr k aA;have hc:=(HB.cell (p:=⟨b,off+k,none⟩) Z).trans hc;have CK:=J (FN.out _ _ _ hR);clear hr hR;generalize decide (sq r.se[k]<=400)=bk at*;generalize r.se[k].length=nk at*;go_wp2_with fail;refine CK.out.mono ?_;rintro _ _ ⟨rfl,rfl⟩;clear CK;cases bk with
  |false=>exact ni
  |true=>exact ox
 subst hcut;clear f0 f1 f2 q4 q5 q6 e2 HN;go_upto_block 2 with fail;go_cut[] (fun wx=>wx=wc/\Hid (∀h∈hs,h.ns.length<=6))
 case first=>
  go_wp2_with fail;go_loopw[4] (fun iv wr=>∃k:Nat,k<=hs.length/\iv= .int .i64 k/\wr=wc/\Hid (∀h∈hs.take k,h.ns.length<=6)) (fun iv _=>hs.length-(intOf iv).toNat)
  case atStart=>exact⟨0,Nat.zero_le _,I,I,J ar⟩
  obtain⟨k,O,rfl,rfl,hok⟩:=hrel;by_cases aA:k<hs.length
  case neg=>
   have h1:¬(k:Int)<hs.length:=Y;have hal:Hid (∀h∈hs,h.ns.length<=6):=J (by have:=hok.out;rwa[List.take_of_length_le Y]at this);clear hok;go_wp2_with fail;go_meet
   case rel=>exact⟨I,hal⟩
  have h1:(k:Int)<hs.length:=Y;obtain⟨b,off,rfl,Z,hr⟩:=HHI.out Y;obtain⟨es,hes,An,cn,hce,rB,hnm⟩:=hr k aA;have hc:wr.cell? ⟨b,off+k*19+18,none⟩=some (.slice An hs[k].ns.length cn):=by have:=rN hes HB Z 18 _ (show es[18]?=some (.slice An hs[k].ns.length cn)by rw[hce,List.getElem?_append_right (by rw[hs[k].ad.rY rB];omega),hs[k].ad.rY rB];rfl);exact this
  have HNM:=J hnm;have HTK:Hid (hs.take (k+1)=hs.take k++[hs[k]]):=J (List.take_succ_eq_append_getElem aA);clear hr hes hce rB hnm;obtain⟨hh,hhe⟩:=aq (hs[k]);rw[hhe.out]at HNM hc HTK;clear hhe;by_cases h6:hh.ns.length<=6
  case neg=>have h6':¬(hh.ns.length:Int)<=6:=Y;clear h6;exact ni
  have h6':(hh.ns.length:Int)<=6:=Y;have aDM:Hid (∀h∈hs.take (k+1),h.ns.length<=6):=J (by
   rw[HTK.out];intro h hm;rcases List.mem_append.1 hm with hm|hm
   ·exact hok.out h hm
   ·
    rw[List.mem_singleton.1 hm];exact h6)
  clear hok HTK h6;go_wp2_with fail;go_loopw[5] (fun iv wx=>∃j:Nat,j<=hh.ns.length/\iv= .int .i64 j/\wx=wr) (fun iv _=>hh.ns.length-(intOf iv).toNat)
  case atStart=>exact⟨0,Nat.zero_le _,I,I⟩
  obtain⟨j,hj,rfl,rfl⟩:=hrel;by_cases hjl:j<hh.ns.length
  case neg=>
   have akQ:¬(j:Int)<hh.ns.length:=Y;go_wp2_with fail;go_roundw
   case rel=>exact⟨k+1,Y,fQ,trivial,aDM⟩
   case measure=>simp[intOf];omega
  have akQ:(j:Int)<hh.ns.length:=Y;obtain⟨b2,ajQ,rfl,hb2,hr2⟩:=HNM.out Y;obtain⟨Ai,ci,hcn,hR⟩:=hr2 j hjl;have hcn:=(HB.cell (p:=⟨b2,ajQ+j,none⟩) hb2).trans hcn;have CK:=J (FN.out _ _ _ hR);clear hr2 hR;generalize decide (sq hh.ns[j]<=400)=bk at*;generalize hh.ns[j].length=nk at*;go_wp2_with fail;refine CK.out.mono ?_;rintro _ _ ⟨rfl,rfl⟩;clear CK;cases bk with
  |false=>exact ni
  |true=>
   go_wp2_with fail;go_roundw
   case rel=>exact⟨j+1,Y,fQ,trivial⟩
   case measure=>simp[intOf];omega
 obtain⟨rfl,HOK⟩:=hcut;clear HHI e1 FN;go_upto_block 6 with fail;go_cut[] (fun wx=>wx=wc)
 case first=>
  go_wp2_with fail;go_loopw[6] (fun iv wr=>∃k:Nat,k<=vs.length/\iv= .int .i64 k/\wr=wc) (fun iv _=>vs.length-(intOf iv).toNat)
  case atStart=>exact⟨0,Nat.zero_le _,I,I⟩
  obtain⟨k,O,rfl,rfl⟩:=hrel;by_cases aA:k<vs.length
  case neg=>
   have h1:¬(k:Int)<vs.length:=Y;go_wp2_with fail;go_meet
   case rel=>rfl
  have h1:(k:Int)<vs.length:=Y;obtain⟨b,off,rfl,Z,hr⟩:=HSI.out Y;obtain⟨es,hes,An,cn,hce⟩:=hr k aA;have hc:wr.cell? ⟨b,off+k*3,none⟩=some (.slice An vs[k].n cn):=by have:=rN hes HB Z 0 _ (show es[0]?=some (.slice An vs[k].n cn)by rw[hce];rfl);simpa using this
  clear hr hes hce;generalize vs[k].n=nk at*;by_cases h6:(nk:Int)<=6
  case neg=>exact ni
  exact ox
 subst hcut;go_wp2_with fail;go_ret;exact⟨true,I,fun _=>⟨Y,Y,Y,HOK.out⟩,HB⟩
end
end Go.Proofs.YtakkipnmpmobbaaGreat
