/-
  Layer 29,the laws' own:XchgPlays.
-/
import Derived.Test.YthnbcmlnpdabhaaGreatKEq
namespace Go.Proofs.YthnbcmlnpdabhaaGreat
open _root_.Go.Proofs.Tryz
set_option maxHeartbeats 8000000
open Go.RowKit
set_option maxRecDepth 100000
set_option linter.unusedVariables false
set_option linter.unusedSimpArgs false
theorem YI(w:World):Calls prog 38 #[.pointer none] w (xX (.bool true) w):=by
 go_enter func38,ntmps38;exact tn
theorem YJ(w:World):Calls prog 39 #[.pointer none] w (xX (.int .i64 0) w):=by
 go_enter func39,ntmps39;exact tn
theorem YK(vs:List Value)(w:World):Calls prog 36 #[.pointer none,.agg vs.toArray] w (uI (.slice none 0 0) w):=by
 have HX:Below w.heap.size w (w.alloc (.cells vs.toArray 42)):=gF;go_enter func36,ntmps36;go_wp2_with fail;go_ret;exact uI.mk J HX
theorem abw(W:World):(Instr.build 92 #[]).run prog W= .ok (.agg (Value.int .i64 0::uX).toArray) W:=by kernel_rfl
theorem ade(w:World):Calls prog 40 #[.pointer none] w (uI (.agg (Value.int .i64 0::uX).toArray) w):=by
 have HX:Below w.heap.size w (w.alloc (.cells (Value.int .i64 0::uX).toArray 92)):=gF;have BZ:=F.new w 92 (Value.int .i64 0::uX);have RB:=Y (fun W=>abw W);have zl0:(Value.int .i64 0::uX:List Value).length=15:=jy;have z1:∀u∈(Value.int .i64 0::uX:List Value),u.oneCell'=true:=TM 0;obtain⟨aeI,hO⟩:=ao (Value.int .i64 0::uX);rw[hO.out]at RB z1 zl0⊢;go_enter func40,ntmps40;go_wp2_with(first
  |(refine ur (.build 92 #[]) rfl ?_;go_must(refine wi rfl 92 _ rfl #[] ap (RB.out _) ?_))
  |(refine ur (.store 92 (.tmp 2) (.tmp 5)) rfl (ab rfl w.heap.size 0 aeI BZ (by rw[hO.out,zl0];decide) gh z1 ?_)))
 intro w2 B2 g2 sw;clear sw;replace B2:=xA (L:=aeI) B2 dL;have H2:=uq HX g2 HX.size (Nat.le_refl _);clear BZ HX g2;go_wp2_with fail;refine xd J w.heap.size J B2 _ underlying92 J gh J ?_;exact uI.mk J H2
theorem NF(As:Option Addr)(cs:List Value)(r:Rs)(A:Option Addr)(c:Nat)(q:Qn)(turn:Int)(ds:List Int)(cd:Nat)(Ae:Option Addr)(ce:Nat)(l:List Ev)(w:World)(h:Dh w cs r)(hN:xE w A c q.name)(hD:MW w As ds)(hE:QB w Ae l)(hEl:l.length<=17592186044416):
  Calls prog 8 #[.agg (EY (.slice As ds.length cd) (.slice A q.name.length c) cs q turn).toArray,.slice Ae l.length ce] w (uI (.bool true) w):=by
 have hcl:=h.len;obtain⟨hLl,L0,L10,L13,L14⟩:=abr (vs:=.slice As ds.length cd) (vn:=.slice A q.name.length c) (q:=q) (turn:=turn) hcl;have SM:=Y (fun V (b:al w V)=>Kf As cs r A c q turn ds.length cd V (h.G b) (hN.G b));have FE:=Y (fun w' (b:al w w')=>Pg Ae ce l 80 w' (hE.G b) hEl);have HRS:=Lib.hid h;have HNM:=Y hN;have HDR:=Y hD;have HEV:=Y hE;obtain⟨L,hL⟩:=ao (EY (.slice As ds.length cd) (.slice A q.name.length c) cs q turn);rw[hL.out]at hLl L0 L10 L13 L14 SM⊢;have hB:Below w.heap.size w (w.alloc (.cells L.toArray 72)):=gF;have B:=F.new w 72 L;clear h hN hD hE hL;go_enter func8,ntmps8;go_wp2_with fail;refine(Ds _).mono ?_;rintro _ w1 ⟨rfl,b1⟩;have B1:=B.G b1 B.lt;have H1:=um hB hB.size b1;clear B hB b1;go_wp2_with(refine ur (.load 72 (.tmp 2)) J ?_;go_must(refine vE 72 (.tmp 2) J bp w.heap.size 0 J B1 15 I _ underlying72 J aft L (wP I) ?_));refine(SM.out _ H1).mono ?_;rintro _ w2 ⟨b,rfl,hsm,b2⟩;have B2:=B1.G b2 B1.lt;have H2:=um H1 H1.size b2;have HSM:=Y hsm;clear B1 H1 b2 SM hsm;cases b with
 |false=>exact rU
 |true=>
 obtain⟨hq4,hdl⟩:=HSM.out J;have hqn:q.name.length<=100000:=nW;clear HSM;go_wp2_with fail;refine(FE.out _ H2).mono ?_;rintro _ w3 ⟨b,rfl,hfe,b3⟩;have B3:=B2.G b3 B2.lt;have H3:=um H2 H2.size b3;have HFE:=Y hfe;clear B2 H2 b3 FE hfe;cases b with
 |false=>exact rY
 |true=>
 obtain⟨axZ,axB⟩:=HFE.out J;clear HFE;have XN:=Y (fun gl V (hV:al w V) (hLt:yn V gl ⟨ds,0⟩)=>MV cs r q A c turn gl ⟨ds,0⟩ V (HRS.out.G hV) (HNM.out.G hV) hqn hLt fV fW);have QN:=Y (fun gl V (hV:al w V) (hLt:F V gl 86 [.slice As ds.length cd,.int .i64 0]) (hg:w.heap.size<=gl)=>Po w cs r q A c turn gl As cd ⟨ds,0⟩ V (HRS.out.G hV) HNM.out hqn hq4 hLt HDR.out hV hg fV);have LR:Hid (∀V,al w3 V->(Instr.loadAt 69 (.pointer (some ⟨w.heap.size,0,none⟩))).run prog V= .ok (.agg cs.toArray) V):=jJ;have LQ:Hid (∀V,al w3 V->(Instr.loadAt 28 (.pointer (some ⟨w.heap.size,10,none⟩))).run prog V= .ok (.agg (qC (.slice A q.name.length c) q).toArray) V):=jG;have LT:Hid (∀V,al w3 V->(Instr.loadAt 3 (.pointer (some ⟨w.heap.size,13,none⟩))).run prog V= .ok (.int .i64 turn) V):=jX;have LD:Hid (∀V,al w3 V->(Instr.loadAt 70 (.pointer (some ⟨w.heap.size,14,none⟩))).run prog V= .ok (.slice As ds.length cd) V):=jT;have NI:=Y (fun ok=>OkX.new r q turn ⟨ds,0⟩ J hdl ok);have NL:=Y (Ug (uJ r).cl (uJ r).vc (uJ r).ed q (vP r turn) ⟨ds,0⟩);obtain⟨X0,hX0⟩:=ao (BL (uJ r).cl (uJ r).vc (uJ r).ed q (vP r turn) ⟨ds,0⟩);rw[hX0.out]at XN NI NL QN;obtain⟨Q,hQ⟩:=ao (qC (.slice A q.name.length c) q);have aks:=L10;rw[hQ.out]at XN LQ QN aks;have HL0:=Y L0;have aqG:=Y aks;clear L0 L10 aks hQ hX0 HNM hq4;go_upto_region 4 with fail;go_cut[5,6] (fun v5 v6 wx=>∃g gl D Aa ca,v5= .pointer (some ⟨g,0,none⟩)/\v6= .slice Aa X0.2.2.length ca/\Hid (vJ w3.heap.size wx (.slice Aa X0.2.2.length ca) X0.2.2)/\Hid (PX w wx g gl D X0.1 X0.2.1)/\al w3 wx)
 case first=>
  refine wp_region_held_drew (S:=fun V=>al w3 V) (by kernel_rfl) (Below.refl _ _).drew (fun K=>?_);refine uL K 8 [0,1,2,3,4,5,7,8] J (by kernel_rfl) (fun _ _ _ _ _ h=>h) J J ?_;repeat(refine aj _ ?_;simp only[E])
  (refine ah _ J J (fun V hV=>(uP 69 (.tmp 27) ⟨w.heap.size,0,none⟩ J J (LR.out V hV))) ?_;simp only[E])
  repeat(refine aj _ ?_;simp only[E])
  (refine ah _ J J (fun V hV=>(uP 28 (.tmp 29) ⟨w.heap.size,10,none⟩ J J (LQ.out V hV))) ?_;simp only[E])
  repeat(refine aj _ ?_;simp only[E])
  (refine ah _ J J (fun V hV=>(uP 3 (.tmp 31) ⟨w.heap.size,13,none⟩ J J (LT.out V hV))) ?_;simp only[E])
  repeat(refine aj _ ?_;simp only[E])
  (refine ah _ J J (fun V hV=>(uP 70 (.tmp 34) ⟨w.heap.size,14,none⟩ J J (LD.out V hV))) ?_;simp only[E])
  simp only[vY];have kn:Below w3.drew.heap.size w3.drew (w3.drew.alloc (.cells #[] 3)):=gF;have hSa:=um K K.size kn;have Ba:=F.new w3.drew 3 [];have hga:w3.heap.size<=w3.drew.heap.size:=me;refine zz 6 (some 33) (by kernel_rfl) J J (by kernel_rfl) (v:=.slice (some ⟨w3.drew.heap.size,0,none⟩) 0 0) (w':=w3.drew.alloc (.cells #[] 3)) (by kernel_rfl) hSa ?_;simp only[E];clear K kn;obtain⟨wa,hwa⟩:=ao (w3.drew.alloc (.cells #[] 3));obtain⟨ga,as3⟩:=ao w3.drew.heap.size;rw[as3.out]at Ba hga⊢;rw[hwa.out]at hSa⊢;replace Ba:F wa ga 3 []:=by rw[<-hwa.out];exact Ba
  have adU:wa.ownsRow w3.heap.size 3 1 (.slice (some ⟨ga,0,none⟩) 0 0) 0 []:=⟨J,.inr ⟨ga,0,#[],J,hga,Ba,Nat.le_refl _,Nat.zero_le _,J,J⟩⟩;obtain⟨v',w6,hr,ho,hg⟩:=IA (P:=prog) wa 70 70 3 (.int .i64 0) 1 8 underlying70 (by kernel_rfl) J az w3.heap.size (.slice (some ⟨ga,0,none⟩) 0 0) 0 [] adU hSa.size As ds.length cd (PV ds) (fun hp=>by obtain⟨b,off,U,X,h3⟩:=HDR.out hp;exact⟨b,off,U,uD h3 (um H3 H3.size hSa) X⟩) cR (fun u hu=>by obtain⟨b,_,rfl⟩:=List.mem_map.1 hu;rfl) aK I;rw[Nat.zero_add,List.nil_append]at ho;obtain⟨A',c',rfl⟩:=ya ho;have hS6:al w3 w6:=uq hSa hg hSa.size hga;refine zz 9 (some 36) (by kernel_rfl) J J (by kernel_rfl) (v:=.slice A' ds.length c') (w':=w6) (Eb (.tmp 33) (.tmp 35) J J J J hr) hS6 ?_;simp only[E];have LN2:=Y (Mk A' c' ds w6 (fun hp=>by
   obtain⟨b,L',hA',hb',hL',_⟩:=AY ho hp cR;exact⟨b,0,hA',fun j u hu=>by
    rw[Nat.zero_add];refine hb'.M j ?_;rw[<-hL',List.getElem?_take]at hu;split at hu
    ·exact hu
    ·
     cases hu⟩) I)
  have K:=hS6;clear hS6 hSa hr ho hg adU Ba hga hwa as3;refine vx 10 (some 37) 33 #[.slice A' ds.length c'] (by kernel_rfl) J J (by kernel_rfl) bp LN2.out ?_;rintro _ w4 ⟨gl,rfl,hLt,b4,hgl⟩;have hS4:=um K K.size b4;refine⟨_,J,hS4,?_⟩;have as1:w3.heap.size<=gl:=Nat.le_trans K.size hgl;clear K b4 hgl LN2;have K:=hS4;clear hS4;simp only[E];refine vx 11 (some 38) 32 #[.agg cs.toArray,.agg Q.toArray,.int .i64 turn,.pointer (some ⟨gl,0,none⟩)] (by kernel_rfl) J J (by kernel_rfl) bp (XN.out gl _ (um H3 H3.size K) hLt) ?_;rintro _ w5 ⟨g,v,D,rfl,hO,hX,hl5,hf,hg,hD⟩;have hS5:al w3 w5:=mS;refine⟨_,J,hS5,?_⟩;obtain⟨Aa,ca,hva,-⟩:=hO.form;subst hva;have hO5:=Y (hO.mono (show w3.heap.size<=w4.heap.size from K.size));have hwW:w.heap.size<=w3.heap.size:=H3.size;have hw4:w3.heap.size<=w4.heap.size:=me;have HP:Hid (PX w w5 g gl D X0.1 X0.2.1):=lm;clear K hf hO hg hD hLt hX hl5;have K:=hS5;clear hS5;simp only[E];refine uL K 5 [12,13,14,15,16] J (by kernel_rfl) (fun _ _ _ _ _ h=>h) J J ?_
  (refine aj (.tuple #[.pointer (some ⟨g,0,none⟩),.slice Aa X0.2.2.length ca]) ?_;simp only[E])
  (refine aj (.pointer (some ⟨g,0,none⟩)) ?_;simp only[E])
  (refine aj (.slice Aa X0.2.2.length ca) ?_;simp only[E])
  (refine aj (.pointer (some ⟨g,0,none⟩)) ?_;simp only[E])
  (refine aj (.slice Aa X0.2.2.length ca) ?_;simp only[E])
  simp only[vY];refine wpAnyH_done (by kernel_rfl) ?_ _;go_wp2_with fail;go_meet
  case rel=>exact⟨g,gl,D,Aa,ca,J,J,hO5,HP,K⟩
 obtain⟨g,gl,D,Aa,ca,rfl,rfl,hO,hP,HW⟩:=hcut;obtain⟨w5,rfl⟩:∃w5,w5=wc:=gG;have H5:=um H3 H3.size HW;have B5:=B3.G HW B3.lt;have a13:=B5.M 13 L13;have a14:=B5.M 14 L14;have kl:Below w5.heap.size w5 (w5.alloc (.cells #[.slice As ds.length cd,.int .i64 0] 86)):=gF;have QC:=Y (QN.out w5.heap.size _ (um H5 H5.size kl) (F.new w5 86 [.slice As ds.length cd,.int .i64 0]) H5.size);clear LR LQ LT LD XN QN L13 L14 HW;go_wp2_with(first
  |(refine ur (.load 69 (.tmp 42)) rfl ?_;go_must(refine uu rfl _ _ rfl w.heap.size 0 rfl B5 10 I _ underlying69 rfl AK cs HL0.out ?_))
  |(refine ur (.load 28 (.tmp 44)) rfl ?_;go_must(refine uu rfl _ _ rfl w.heap.size 10 rfl B5 3 I _ underlying28 rfl xu Q aqG.out ?_)))
 refine QC.out.mono ?_;rintro _ w6 ⟨gq,vb,Dq,rfl,hOb,hRX,hFq,hgq⟩;have K56:al w5 w6:=nK;have H6:=um H5 H5.size K56;have hOK:=Y (NI.out hP.out.x.ok);have hlen:=NL.out;obtain⟨Ab,cb,hvb,-⟩:=hOb.form;subst hvb;have hP6:=Y (hP.out.G K56);have ai5:=Y hRX;have SO:Hid (Calls prog 25 #[.slice Aa X0.2.2.length ca,.slice Ab X0.2.2.length cb] w6 (uI (.bool true) w6)):=Y (by
  obtain⟨_,_,e1,r1,_⟩:=(hO.out.G K56).form;obtain⟨_,_,e2,r2,_⟩:=hOb.form;injection e1 with e1a e1b e1c;injection e2 with e2a e2b e2c;subst e1a e2a;have:=EK Aa Ab ca cb X0.2.2 X0.2.2 w6 r1 r2 I I;simpa using this)
 obtain⟨glq,al1⟩:=ao w5.heap.size;rw[al1.out]at ai5;obtain⟨x0,hx0⟩:=ao X0.1;obtain⟨L1,hL1⟩:=ao X0.2.1;rw[hx0.out,hL1.out]at hOK hP6 ai5;clear QC NI NL hO hP hOb hRX hFq K56 H5 B5 a13 a14 kl hgq hx0 hL1 al1 hLl hlen;go_wp2_with fail;refine SO.out.mono ?_;rintro _ w7 ⟨rfl,b7⟩;have H7:=um H6 H6.size b7;have hP7:=Y (hP6.out.G b7);have hQ7:=Y (ai5.out.G b7);have SA:=Y (Pq g gl D x0 w gq glq A c As cd Dq L1 w7 hP7.out.x hQ7.out);clear SO b7 H6 hP6 ai5;go_wp2_with fail;refine SA.out.mono ?_;rintro _ w8 ⟨rfl,b8⟩;have H8:=um H7 H7.size b8;have hP8:=Y (hP7.out.G b8);have hQ8:=Y (hQ7.out.G b8);clear SA b8 H7 hP7 hQ7;go_wp2_with fail;go_loopw[9] (fun iv wr=>∃(k:Nat) (x:Xc) (ul:Lt) (aeH Eq:Option Nat),k<=l.length/\iv= .int .i64 k/\Hid (PX w wr g gl aeH x ul)/\Hid (zj w wr gq glq A c As cd Eq x ul)/\Hid (OkX (vP r 0).length (MH r) k (GU (l.take k)) x ul)/\al w wr) (fun iv _=>l.length-(intOf iv).toNat)
 case atStart=>exact⟨0,x0,L1,D,Dq,Nat.zero_le _,J,hP8,hQ8,hOK,H8⟩
 clear hP8 hQ8 hOK H8;obtain⟨k,x,ul,aeH,Eq,z,rfl,HP,HQ,HI,HB⟩:=hrel;have hsn:=HI.out.uV;by_cases aB:k<l.length
 case pos=>
  have h1:(k:Int)<l.length:=I;obtain⟨ba,oa,hA1,la1,ra,h2,akT⟩:=HEV.out.uG k aB;have hT:=Jx l k aB;have hT2:=WM l (k+1);have hel:(yj l[k]).length=22:=Dk h2;have hhv:=HI.out.h;have huu:=HI.out.u;have hdd:=HI.out.d;have hxn:x.q.name.length<=100000:=by exact tx
  have kd:Below wr.heap.size wr wr.drew:=iQ;have HPd:=Y (HP.out.G kd);have HQd:=Y (HQ.out.G kd);have HBd:=um HB HB.size kd;have HC:=Y (Jw g gl aeH x ul l[k] wr.drew HPd.out.x HPd.out.l h2 I I I I);have HI2:=Y (HI.out.ac8 HP.out.x.ok l[k]);rw[<-hT]at HI2;have hx2:=Pd x ul l[k];have QH:=Y (fun V (hV:zj w V gq glq A c As cd Eq x ul)=>Ng w gq glq A c As cd Eq x ul l[k] V hV HI.out.o h2 I I I hxn);subst hA1;generalize xI x ul l[k]=R at*;generalize hek:yj l[k]=ek at*;have LE:Hid (∀V,al w V->(Instr.loadAt 42 (.pointer (some ⟨ba,oa+k*22,none⟩))).run prog V= .ok (.agg ek.toArray) V):=Y (fun V hV=>yM (uD ra hV la1) underlying42 J fX);clear hT hT2 hhv huu hdd hxn ra akT HI h2 hek HP HQ;go_upto_region 10 with fail;go_cut[94] (fun v wx=>∃E2 Eq2,v= .bool false/\Hid (PX w wx g gl E2 R.1 R.2.1)/\Hid (zj w wx gq glq A c As cd Eq2 R.1 R.2.1)/\al w wx)
  case first=>
   refine wp_region_held_drew (S:=fun V=>al w V) (by kernel_rfl) HBd (fun K=>?_);refine uL K 10 [0,1,2,3,4,6,7,8,9,10] J (by kernel_rfl) (fun _ _ _ _ _ h=>h) J J ?_
   (refine aj (.pointer (some ⟨g,0,none⟩)) ?_;simp only[E])
   (refine aj (.slice (some ⟨ba,oa,none⟩) l.length ce) ?_;simp only[E])
   (refine aj (.int .i64 k) ?_;simp only[E])
   (refine ah (.pointer (some ⟨ba,oa+k*22,none⟩)) J J (fun V hV=>(yV underlying56 MR az (.tmp 76) (.tmp 77) J J J aB V)) ?_;simp only[E])
   (refine ah _ J J (fun V hV=>(uP 42 (.tmp 78) ⟨ba,oa+k*22,none⟩ J J (LE.out V hV))) ?_;simp only[E])
   (refine aj (.pointer (some ⟨gq,0,none⟩)) ?_;simp only[E])
   (refine aj (.slice (some ⟨ba,oa,none⟩) l.length ce) ?_;simp only[E])
   (refine aj (.int .i64 k) ?_;simp only[E])
   (refine ah (.pointer (some ⟨ba,oa+k*22,none⟩)) J J (fun V hV=>(yV underlying56 MR az (.tmp 82) (.tmp 83) J J J aB V)) ?_;simp only[E])
   (refine ah _ J J (fun V hV=>(uP 42 (.tmp 84) ⟨ba,oa+k*22,none⟩ J J (LE.out V hV))) ?_;simp only[E])
   simp only[vY];refine vx 5 (some 80) 36 #[.pointer (some ⟨g,0,none⟩),.agg ek.toArray] (by kernel_rfl) J J (by kernel_rfl) bp HC.out ?_;intro e6 w6 hr6;obtain⟨v6,E2,rfl,hO6,hP6,hf6,HB6⟩:=HPd.out.uR HBd hr6;have hQ6:=HQd.out.byX HPd.out hf6;obtain⟨Aa,ca,hva,-⟩:=hO6.form;subst hva;refine⟨_,J,HB6,?_⟩;clear K HC hr6 HPd HQd hf6;have K:=HB6;simp only[E];refine vx 11 (some 86) 37 #[.pointer (some ⟨gq,0,none⟩),.agg ek.toArray] (by kernel_rfl) J J (by kernel_rfl) bp (QH.out _ hQ6) ?_;rintro _ w8 ⟨v8,Eq2,rfl,hO8,hQ8,hf8⟩;have hP8:=hP6.byQ hQ6 hf8;have hA8:=hO6.byQ hQ6 hf8;have HB8:=hQ6.abt hf8;obtain⟨Ab,cb,hvb,-⟩:=hO8.form;subst hvb;refine⟨_,J,HB8,?_⟩;have SO:Hid (Calls prog 25 #[.slice Aa R.2.2.length ca,.slice Ab R.2.2.length cb] w8 (uI (.bool true) w8)):=Y (by
    obtain⟨_,_,e1,r1,_⟩:=hA8.form;obtain⟨_,_,e2,r2,_⟩:=hO8.form;injection e1 with e1a e1b e1c;injection e2 with e2a e2b e2c;subst e1a e2a;have:=EK Aa Ab ca cb R.2.2 R.2.2 w8 r1 r2 I I;simpa using this)
   clear K QH hP6 hQ6 HB6 hO6 hO8 hA8 hf8;have K:=HB8;simp only[E];refine vx 12 (some 87) 25 #[.slice Aa R.2.2.length ca,.slice Ab R.2.2.length cb] (by kernel_rfl) J J (by kernel_rfl) bp SO.out ?_;rintro _ w9 ⟨rfl,b9⟩;have HB9:=um HB8 HB8.size b9;have hP9:=hP8.G b9;have hQ9:=hQ8.G b9;refine⟨_,J,HB9,?_⟩;have SA:=Y (Pq g gl E2 R.1 w gq glq A c As cd Eq2 R.2.1 w9 hP9.x hQ9);clear K SO hP8 hQ8 HB8 b9;have K:=HB9;simp only[E];refine uL K 4 [13,14,15,16] J (by kernel_rfl) (fun _ _ _ _ _ h=>h) J J ?_
   (refine aj (.bool false) ?_;simp only[E])
   (refine aj (.bool false) ?_;simp only[E])
   (refine aj (.pointer (some ⟨g,0,none⟩)) ?_;simp only[E])
   (refine aj (.pointer (some ⟨gq,0,none⟩)) ?_;simp only[E])
   simp only[vY];refine vx 17 (some 92) 45 #[.pointer (some ⟨g,0,none⟩),.pointer (some ⟨gq,0,none⟩)] (by kernel_rfl) J J (by kernel_rfl) bp SA.out ?_;rintro _ w10 ⟨rfl,b10⟩;have aqI:=um HB9 HB9.size b10;have ayL:=Y (hP9.G b10);have ayK:=Y (hQ9.G b10);refine⟨_,J,aqI,?_⟩;clear K SA hP9 hQ9 HB9 b10;have K:=aqI;simp only[E];refine uL K 2 [18,19] J (by kernel_rfl) (fun _ _ _ _ _ h=>h) J J ?_
   (refine aj (.bool false) ?_;simp only[E])
   (refine aj (.bool false) ?_;simp only[E])
   simp only[vY];refine wpAnyH_done (by kernel_rfl) ?_ _;go_wp2_with fail;go_meet
   case rel=>exact⟨E2,Eq2,J,ayL,ayK,aqI⟩
  obtain⟨E2,Eq2,rfl,hP2,hQ2,ty⟩:=hcut;clear HC QH HPd HQd LE;go_wp2_with fail;go_roundw
  case rel=>exact⟨k+1,R.1,R.2.1,E2,Eq2,I,gp,hP2,hQ2,HI2,ty⟩
  case measure=>simp[intOf];omega
 have h1:¬(k:Int)<l.length:=I;clear HP HQ HI HEV hEl;go_wp2_with fail;refine(VR wr).mono ?_;rintro _ w4 ⟨rfl,b4⟩;have H4:=um HB HB.size b4;have k4:Below w4.heap.size w4 (w4.alloc (.cells EP.toArray 37)):=gF;have BZ:=F.new w4 37 EP;obtain⟨ai9,hZ⟩:=ao EP;have hzl:ai9.length=23:=by rw[<-hZ.out];rfl
 have hz1:∀v∈ai9,v.oneCell'=true:=nD;have EB:=Y (fun V=>WN V);obtain⟨ez,hez⟩:=ao (yj ⟨1,vG.zero,0,0,[]⟩);rw[hez.out]at EB;rw[hZ.out];clear b4 HB;go_wp2_with(first
  |(refine ur (.store 37 (.tmp 11) (.tmp 98)) rfl (ab rfl w4.heap.size 0 ai9 BZ fU (by rw[hzl];exact Dy) hz1 ?_)))
 intro w5 B5 g5 sw;clear sw B5;have H5:=um H4 H4.size (uq k4 g5 k4.size (Nat.le_refl _));clear BZ k4 g5 H4;go_wp2_with(refine ur (.build 42 #[(0,.const (.int .i64 1))]) J ?_;go_must(refine wi J 42 _ J #[(0,.int .i64 1)] ee (EB.out _) ?_));refine(YK ez _).mono ?_;rintro _ w6 ⟨rfl,b6⟩;have H6:=um H5 H5.size b6;clear b6 H5;go_wp2_with fail;refine(YI _).mono ?_;rintro _ w6' ⟨rfl,rfl⟩;go_wp2_with fail;refine(ade _).mono ?_;rintro _ w7 ⟨rfl,b7⟩;have H7:=um H6 H6.size b7;have FO:=Y (fun V=>aa9 0 uX zF V);obtain⟨aeI,hO⟩:=ao (Value.int .i64 0::uX);rw[hO.out]at FO⊢;clear b7 H6;go_wp2_with(refine ur (.field 92 (.tmp 111) 0) J ?_;go_must(refine EG (v:=.int .i64 0) bp (MI 92 (.tmp 111) 0 J J (FO.out _)) ?_));refine(YJ _).mono ?_;rintro _ w8 ⟨rfl,rfl⟩;go_wp2_with fail;go_ret;exact uI.mk J H7
end Go.Proofs.YthnbcmlnpdabhaaGreat
