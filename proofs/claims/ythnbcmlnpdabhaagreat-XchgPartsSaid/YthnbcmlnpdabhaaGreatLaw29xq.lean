/-
  Layer 29,the laws' own:XchgParts.
-/
import Derived.Test.YthnbcmlnpdabhaaGreatKEq
namespace Go.Proofs.YthnbcmlnpdabhaaGreat
open _root_.Go.Proofs.Tryz
set_option maxHeartbeats 8000000
open Go.RowKit
set_option maxRecDepth 100000
set_option linter.unusedVariables false
set_option linter.unusedSimpArgs false
theorem ND(As:Option Addr)(cs:List Value)(r:Rs)(A:Option Addr)(c:Nat)(q:Qn)(turn:Int)(ds:List Int)(cd:Nat)(Ae:Option Addr)(ce:Nat)(l:List Ev)(uG:Int)(w:World)(h:Dh w cs r)(hN:xE w A c q.name)(hD:MW w As ds)(hE:QB w Ae l)(hEl:l.length<=17592186044416):
  Calls prog 7 #[.agg (EY (.slice As ds.length cd) (.slice A q.name.length c) cs q turn).toArray,.slice Ae l.length ce,.int .i64 uG] w (uI (.bool true) w):=by
 have hcl:=h.len;obtain⟨hLl,L0,L10,L13,L14⟩:=abr (vs:=.slice As ds.length cd) (vn:=.slice A q.name.length c) (q:=q) (turn:=turn) hcl;have SM:=Y (fun V (b:al w V)=>Kf As cs r A c q turn ds.length cd V (h.G b) (hN.G b));have FE:=Y (fun w' (b:al w w')=>Pg Ae ce l 80 w' (hE.G b) hEl);have HRS:=Lib.hid h;have HNM:=Y hN;have HDR:=Y hD;have HEV:=Y hE;obtain⟨L,hL⟩:=ao (EY (.slice As ds.length cd) (.slice A q.name.length c) cs q turn);rw[hL.out]at hLl L0 L10 L13 L14 SM⊢;have hB:Below w.heap.size w (w.alloc (.cells L.toArray 72)):=gF;have B:=F.new w 72 L;clear h hN hD hE hL;go_enter func7,ntmps7;go_wp2_with fail;refine(Ds _).mono ?_;rintro _ w1 ⟨rfl,b1⟩;have B1:=B.G b1 B.lt;have H1:=um hB hB.size b1;clear B hB b1;go_wp2_with(refine ur (.load 72 (.tmp 3)) J ?_;go_must(refine vE 72 (.tmp 3) J bp w.heap.size 0 J B1 15 I _ underlying72 J aft L (wP I) ?_));refine(SM.out _ H1).mono ?_;rintro _ w2 ⟨b,rfl,hsm,b2⟩;have B2:=B1.G b2 B1.lt;have H2:=um H1 H1.size b2;have HSM:=Y hsm;clear B1 H1 b2 SM hsm;cases b with
 |false=>exact rU
 |true=>
 obtain⟨hq4,hdl⟩:=HSM.out J;have hqn:q.name.length<=100000:=nW;clear HSM;go_wp2_with fail;refine(FE.out _ H2).mono ?_;rintro _ w3 ⟨b,rfl,hfe,b3⟩;have B3:=B2.G b3 B2.lt;have H3:=um H2 H2.size b3;have HFE:=Y hfe;clear B2 H2 b3 FE hfe;cases b with
 |false=>exact rY
 |true=>
 obtain⟨axZ,axB⟩:=HFE.out J;clear HFE;have LN:=Y (fun V (hV:al w V)=>Mk As cd ds V (fun hp=>by obtain⟨b,off,U,X,h3⟩:=HDR.out hp;exact⟨b,off,U,uD h3 hV X⟩) I);have XN:=Y (fun gl V (hV:al w V) (hLt:yn V gl ⟨ds,0⟩)=>MV cs r q A c turn gl ⟨ds,0⟩ V (HRS.out.G hV) (HNM.out.G hV) hqn hLt fV fW);have QN:=Y (fun gl V (hV:al w V) (hLt:F V gl 86 [.slice As ds.length cd,.int .i64 0]) (hg:w.heap.size<=gl)=>Po w cs r q A c turn gl As cd ⟨ds,0⟩ V (HRS.out.G hV) HNM.out hqn hq4 hLt HDR.out hV hg fV);have LR:Hid (∀V,al w3 V->(Instr.loadAt 69 (.pointer (some ⟨w.heap.size,0,none⟩))).run prog V= .ok (.agg cs.toArray) V):=jJ;have LQ:Hid (∀V,al w3 V->(Instr.loadAt 28 (.pointer (some ⟨w.heap.size,10,none⟩))).run prog V= .ok (.agg (qC (.slice A q.name.length c) q).toArray) V):=jG;have LT:Hid (∀V,al w3 V->(Instr.loadAt 3 (.pointer (some ⟨w.heap.size,13,none⟩))).run prog V= .ok (.int .i64 turn) V):=jX;have LD:Hid (∀V,al w3 V->(Instr.loadAt 70 (.pointer (some ⟨w.heap.size,14,none⟩))).run prog V= .ok (.slice As ds.length cd) V):=jT;have NI:=Y (fun ok=>OkX.new r q turn ⟨ds,0⟩ J hdl ok);have NL:=Y (Ug (uJ r).cl (uJ r).vc (uJ r).ed q (vP r turn) ⟨ds,0⟩);obtain⟨X0,hX0⟩:=ao (BL (uJ r).cl (uJ r).vc (uJ r).ed q (vP r turn) ⟨ds,0⟩);rw[hX0.out]at XN NI NL QN;obtain⟨Q,hQ⟩:=ao (qC (.slice A q.name.length c) q);have aks:=L10;rw[hQ.out]at XN LQ QN aks;have HL0:=Y L0;have aqG:=Y aks;clear L0 L10 aks hQ hX0 HNM hq4;obtain⟨m,hm⟩:∃m:Nat,m=((IntKind.u64.wrap uG)% (l.length+1)).toNat:=gG;have hu0:0<=IntKind.u64.wrap uG:=n6;have hme:(m:Int)=(IntKind.u64.wrap uG)% (l.length+1):=by rw[hm];exact Int.toNat_of_nonneg (Int.emod_nonneg _ I)
 have hmL:m<=l.length:=by have:=Int.emod_lt_of_pos (IntKind.u64.wrap uG) (show(0:Int)<l.length+1 by omega);omega
 have hcu:wrap64 ((IntKind.u64.wrap uG).tmod (l.length+1))=m:=by rw[Int.tmod_eq_emod_of_nonneg hu0,<-hme];exact IntWalk.wrap64_in _ ⟨I,I⟩
 clear hm hu0 hme;go_upto_region 4 with fail;rw[hcu];clear hcu;go_upto_region 5 with fail;go_cut[8,9] (fun v5 v6 wx=>∃g gl D Aa ca,v5= .pointer (some ⟨g,0,none⟩)/\v6= .slice Aa X0.2.2.length ca/\Hid (vJ w3.heap.size wx (.slice Aa X0.2.2.length ca) X0.2.2)/\Hid (PX w wx g gl D X0.1 X0.2.1)/\Hid (w3.heap.size<=g/\w3.heap.size<=gl/\∀i,D=some i->w3.heap.size<=i)/\al w3 wx)
 case first=>
  refine wp_region_held_drew (S:=fun V=>al w3 V) (by kernel_rfl) (Below.refl _ _).drew (fun K=>?_);have anf:=Below.size (Below.refl w3.heap.size w3);have H3W:=um H3 H3.size (Below.refl w3.heap.size w3);refine uL K 8 [0,1,2,3,4,5,6,7] J (by kernel_rfl) (fun _ _ _ _ _ h=>h) J J ?_;repeat(refine aj _ ?_;simp only[E])
  (refine ah _ J J (fun V hV=>(uP 69 (.tmp 35) ⟨w.heap.size,0,none⟩ J J (LR.out V (um (Below.refl w3.heap.size w3) anf hV)))) ?_;simp only[E])
  repeat(refine aj _ ?_;simp only[E])
  (refine ah _ J J (fun V hV=>(uP 28 (.tmp 37) ⟨w.heap.size,10,none⟩ J J (LQ.out V (um (Below.refl w3.heap.size w3) anf hV)))) ?_;simp only[E])
  repeat(refine aj _ ?_;simp only[E])
  (refine ah _ J J (fun V hV=>(uP 3 (.tmp 39) ⟨w.heap.size,13,none⟩ J J (LT.out V (um (Below.refl w3.heap.size w3) anf hV)))) ?_;simp only[E])
  repeat(refine aj _ ?_;simp only[E])
  (refine ah _ J J (fun V hV=>(uP 70 (.tmp 41) ⟨w.heap.size,14,none⟩ J J (LD.out V (um (Below.refl w3.heap.size w3) anf hV)))) ?_;simp only[E])
  simp only[vY];refine vx 8 (some 43) 33 #[.slice As ds.length cd] (by kernel_rfl) J J (by kernel_rfl) bp (LN.out _ (um H3W H3W.size K)) ?_;rintro _ w4 ⟨gl,rfl,hLt,b4,hgl⟩;have hS4:=um K K.size b4;refine⟨_,J,hS4,?_⟩;have as1:w3.heap.size<=gl:=Nat.le_trans K.size hgl;clear K b4 hgl;have K:=hS4;clear hS4;simp only[E];refine vx 9 (some 44) 32 #[.agg cs.toArray,.agg Q.toArray,.int .i64 turn,.pointer (some ⟨gl,0,none⟩)] (by kernel_rfl) J J (by kernel_rfl) bp (XN.out gl _ (um H3W H3W.size K) hLt) ?_;rintro _ w5 ⟨g,v,D,rfl,hO,hX,hl5,hf,hg,hD⟩;have hS5:al w3 w5:=mS;refine⟨_,J,hS5,?_⟩;obtain⟨Aa,ca,hva,-⟩:=hO.form;subst hva;have hO5:=Y (hO.mono (show w3.heap.size<=w4.heap.size from K.size));have hwW:w.heap.size<=w3.heap.size:=H3W.size;have hw4:w3.heap.size<=w4.heap.size:=me;have HP:Hid (PX w w5 g gl D X0.1 X0.2.1):=lm;have HFR:Hid (w3.heap.size<=g/\w3.heap.size<=gl/\∀i,D=some i->w3.heap.size<=i):=Y ⟨I,as1,fun i hi=>by have:=hD i hi;omega⟩;clear K hf hO hg hD hLt hX hl5;have K:=hS5;clear hS5;simp only[E];refine uL K 5 [10,11,12,13,14] J (by kernel_rfl) (fun _ _ _ _ _ h=>h) J J ?_
  (refine aj (.tuple #[.pointer (some ⟨g,0,none⟩),.slice Aa X0.2.2.length ca]) ?_;simp only[E])
  (refine aj (.pointer (some ⟨g,0,none⟩)) ?_;simp only[E])
  (refine aj (.slice Aa X0.2.2.length ca) ?_;simp only[E])
  (refine aj (.pointer (some ⟨g,0,none⟩)) ?_;simp only[E])
  (refine aj (.slice Aa X0.2.2.length ca) ?_;simp only[E])
  simp only[vY];refine wpAnyH_done (by kernel_rfl) ?_ _;go_wp2_with fail;go_meet
  case rel=>exact⟨g,gl,D,Aa,ca,J,J,hO5,HP,HFR,K⟩
 obtain⟨g,gl,D,Aa,ca,rfl,rfl,hO,hP,-,HW⟩:=hcut;obtain⟨w5,rfl⟩:∃w5,w5=wc:=gG;have H5:=um H3 H3.size HW;have B5:=B3.G HW B3.lt;have a13:=B5.M 13 L13;have a14:=B5.M 14 L14;have kl:Below w5.heap.size w5 (w5.alloc (.cells #[.slice As ds.length cd,.int .i64 0] 86)):=gF;have QC:=Y (QN.out w5.heap.size _ (um H5 H5.size kl) (F.new w5 86 [.slice As ds.length cd,.int .i64 0]) H5.size);clear LR LQ LT LD LN XN QN L13 L14 HW;go_wp2_with(first
  |(refine ur (.load 69 (.tmp 48)) rfl ?_;go_must(refine uu rfl _ _ rfl w.heap.size 0 rfl B5 10 I _ underlying69 rfl AK cs HL0.out ?_))
  |(refine ur (.load 28 (.tmp 50)) rfl ?_;go_must(refine uu rfl _ _ rfl w.heap.size 10 rfl B5 3 I _ underlying28 rfl xu Q aqG.out ?_)))
 refine QC.out.mono ?_;rintro _ w6 ⟨gq,vb,Dq,rfl,hOb,hRX,hFq,hgq⟩;have K56:al w5 w6:=nK;have H6:=um H5 H5.size K56;have hOK:=Y (NI.out hP.out.x.ok);have hlen:=NL.out;obtain⟨Ab,cb,hvb,-⟩:=hOb.form;subst hvb;have hap:Hid (∀i,(Value.slice Aa X0.2.2.length ca).ownBlock=some i->(Value.slice Ab X0.2.2.length cb).ownBlock≠some i):=Y (fun i hi hj=>by
  have:=hO.out.lt hi;obtain⟨uo,U,_⟩:=hOb;have:=xZ U i hj;simp at this;omega)
 have hO6:=Y ((hO.out.G K56).mono (lo':=w.heap.size) H3.size);have hP6:=Y (hP.out.G K56);have atE:=Y (hOb.mono (lo':=w.heap.size) (by have:=H5.size;simp;omega));have ai5:=Y hRX;obtain⟨glq,al1⟩:=ao w5.heap.size;rw[al1.out]at ai5;obtain⟨x0,hx0⟩:=ao X0.1;obtain⟨L1,hL1⟩:=ao X0.2.1;rw[hx0.out,hL1.out]at hOK hP6 ai5;generalize X0.2.2=o0 at*;clear QC NI NL hO hP hOb hRX hFq K56 H5 B5 a13 a14 kl hgq hx0 hL1 al1 hLl;go_wp2_with fail;go_loopw[9,11,12] (fun av bv iv wr=>∃(k:Nat) (x:Xc) (ul:Lt) (aeH Eq:Option Nat) (os:List Ou) (Aa:Option Addr) (ca:Nat) (Ab:Option Addr) (cb:Nat),k<=m/\iv= .int .i64 k/\av= .slice Aa os.length ca/\bv= .slice Ab os.length cb/\Hid (vJ w.heap.size wr (.slice Aa os.length ca) os)/\Hid (vJ w.heap.size wr (.slice Ab os.length cb) os)/\os.length<=1+2*k/\Hid (∀i,(Value.slice Aa os.length ca).ownBlock=some i->(Value.slice Ab os.length cb).ownBlock≠some i)/\Hid (PX w wr g gl aeH x ul)/\Hid (zj w wr gq glq A c As cd Eq x ul)/\Hid (OkX (vP r 0).length (MH r) k (GU (l.take k)) x ul)/\al w wr) (fun _ _ iv _=>m-(intOf iv).toNat)
 case atStart=>exact⟨0,x0,L1,D,Dq,o0,Aa,ca,Ab,cb,Nat.zero_le _,J,J,J,hO6,atE,I,hap,hP6,ai5,hOK,H6⟩
 clear hO6 atE hap hP6 ai5 hOK H6 hlen;obtain⟨k,x,ul,aeH,Eq,os,Aa,ca,Ab,cb,z,rfl,rfl,rfl,HA,HBb,hos,hap,HP,HQ,HI,HB⟩:=hrel;have hsn:=HI.out.uV;by_cases aB:k<m
 case pos=>
  have h1:(k:Int)<m:=I;have hkl:k<l.length:=I;have aGl:(k:Int)<l.length:=I;obtain⟨ba,oa,hA1,la1,ra,h2,akT⟩:=HEV.out.uG k hkl;have hT:=Jx l k hkl;have hT2:=WM l (k+1);have hel:(yj l[k]).length=22:=Dk h2;have re:=uD ra HB la1;have hhv:=HI.out.h;have huu:=HI.out.u;have hdd:=HI.out.d;have hxn:x.q.name.length<=100000:=by exact tx
  have HC:=Y (Jw g gl aeH x ul l[k] wr HP.out.x HP.out.l h2 I I I I);have HI2:=Y (HI.out.ac8 HP.out.x.ok l[k]);rw[<-hT]at HI2;have hx2:=Pd x ul l[k];have QH:=Y (fun V (hV:zj w V gq glq A c As cd Eq x ul)=>Ng w gq glq A c As cd Eq x ul l[k] V hV HI.out.o h2 I I I hxn);subst hA1;generalize xI x ul l[k]=R at*;generalize hek:yj l[k]=ek at*;have RA:=Y ra;clear hT hT2 hhv huu hdd hxn ra akT HI h2 hek;go_wp2_with(refine ur (.load 42 (.tmp 70)) J ?_;go_must(refine wj J 42 (.tmp 70) J ba (oa+k*22) J ek re _ underlying42 J fX ?_));refine HC.out.mono ?_;intro e6 w6 hr6;obtain⟨v6,E2,rfl,hO6,hP6,hf6,HB6⟩:=HP.out.uR HB hr6;have hQ6:=HQ.out.byX HP.out hf6;have hA6:=HA.out.byX HP.out hf6;have hB6:=HBb.out.byX HP.out hf6;have hw6:=HB6.size;clear HC hr6 HP HQ HA HBb HB hf6 re;go_wp2_with(at_builtin;go_must(refine He _ J (.tmp 66) (.tmp 72) J J J hA6 hO6 hw6 I ?_));intro av w7 hA7 f7 hn7;have hP7:=hP6.Cm hA6 f7;have hQ7:=hQ6.Cm hA6 (Nat.le_refl _) f7;have hB7:=hB6.apart f7 (fun i hi hj=>hap.out i hj hi);have HB7:al w w7:=f7.zq HB6 HB6.size (fun i hi h=>by
   obtain⟨uo,U,_⟩:=hA6;have:=xZ U i h;omega)
  obtain⟨Aa',ca',hva,-⟩:=hA7.form;subst hva;have apS:Hid (∀i,(Value.slice Aa' (os++R.2.2).length ca').ownBlock=some i->(Value.slice Ab os.length cb).ownBlock≠some i):=Y (fun i hi hj=>by
   rcases hn7 with h|h
   ·rw[h]at hi;exact hap.out i hi hj
   ·
    rw[h]at hi;injection hi with hi;have:=hB6.lt hj;omega)
  have re7:=uD RA.out HB7 la1;have akV:=Y hQ7;clear hO6 hP6 hQ6 hA6 hB6 HB6 f7 hn7 hap hw6 hQ7;go_wp2_with(refine ur (.load 42 (.tmp 78)) J ?_;go_must(refine wj J 42 (.tmp 78) J ba (oa+k*22) J ek re7 _ underlying42 J fX ?_));refine(QH.out _ akV.out).mono ?_;rintro _ w8 ⟨v8,Eq2,rfl,hO8,hQ8,hf8⟩;have hP8:=hP7.byQ akV.out hf8;have hA8:=hA7.byQ akV.out hf8;have hB8:=hB7.byQ akV.out hf8;have HB8:=akV.out.abt hf8;have hw8:=HB8.size;clear QH akV hP7 hA7 hB7 HB7 hf8 re7;go_wp2_with(at_builtin;go_must(refine He _ J (.tmp 74) (.tmp 80) J J J hB8 hO8 hw8 I ?_));intro bv w9 hB9 f9 hn9;have hP9:=Y (hP8.Cm hB8 f9);have hQ9:=Y (hQ8.Cm hB8 (Nat.le_refl _) f9);have hA9:=Y (hA8.apart f9 apS.out);have HB9:al w w9:=f9.zq HB8 HB8.size (fun i hi h=>by
   obtain⟨uo,U,_⟩:=hB8;have:=xZ U i h;omega)
  obtain⟨Ab',cb',hvb,-⟩:=hB9.form;subst hvb;have ayA:Hid (∀i,(Value.slice Aa' (os++R.2.2).length ca').ownBlock=some i->(Value.slice Ab' (os++R.2.2).length cb').ownBlock≠some i):=Y (fun i hi hj=>by
   rcases hn9 with h|h
   ·rw[h]at hj;exact apS.out i hi hj
   ·
    rw[h]at hj;injection hj with hj;have:=hA8.lt hi;omega)
  have ayW:=Y hB9;have axN:(os++R.2.2).length<=1+2*(k+1):=by rw[List.length_append];omega
  clear hO8 hP8 hQ8 hA8 hB8 HB8 f9 hn9 apS hB9;have aoi:Hid ((os++R.2.2).length=os.length+R.2.2.length):=Y List.length_append;generalize os++R.2.2=os2 at*;go_wp2_with fail;go_roundw
  case rel=>exact⟨k+1,R.1,R.2.1,E2,Eq2,os2,Aa',ca',Ab',cb',I,gp,by rw[aoi.out],by rw[aoi.out],hA9,ayW,axN,ayA,hP9,hQ9,HI2,HB9⟩
  case measure=>simp[intOf];omega
 have h1:¬(k:Int)<m:=I;obtain⟨A5,c5,e5,hR5,_⟩:=HA.out.form;obtain⟨B5,d5,e6,hR6,_⟩:=HBb.out.form;injection e5 with e5a e5b e5c;injection e6 with e6a e6b e6c;subst e5a e5c e6a e6c;have SO:=Y (EK Aa Ab ca cb os os);obtain⟨qs,S,hgo⟩:=HQ.out.s;obtain⟨M2,vt,dq,Z,hMl,-,-,-,-,-,-,-,-,-,m18,-,-,-,m44,-,-,-,-⟩:=S.cells;obtain⟨dn,hdn⟩:=ao x.done;have DN:Hid (∀V,al wr V->Calls prog 38 #[.pointer (some ⟨g,0,none⟩)] V (xX (.bool dn) V)):=Y (fun V hV=>by rw[<-hdn.out];exact Gw (HP.out.G hV).x);have SN:Hid (∀V,al wr V->Calls prog 39 #[.pointer (some ⟨g,0,none⟩)] V (xX (.int .i64 x.uV) V)):=Y (fun V hV=>GB (HP.out.G hV).x);rw[hdn.out]at m44;have hgq:=Z.lt;have HR5:=Y hR5;have HR6:=Y hR6;have hol:os.length<=100000000:=I;have DG:=Y (fun V=>Uh x.uV I V);clear HP HQ HA HBb hap HI S hgo hR5 hR6 hEl;generalize(ada x.uV)=sd at*;go_wp2_with fail;refine wY (by kernel_rfl) (by kernel_rfl) ?_
 (refine ux (v:=(.slice Aa os.length ca)) J (fun W hW=>by first|(go_simp;done)|(go_simp;omega)) ?_;simp only[E])
 (refine ux (v:=(.slice Ab os.length cb)) J (fun W hW=>by first|(go_simp;done)|(go_simp;omega)) ?_;simp only[E])
 refine vy (v:=.bool true) 25 #[.slice Aa os.length ca,.slice Ab os.length cb] J (fun W=>by go_simp) (fun W hW=>uI.y9 hW (by
  have:=SO.out W (HR5.out.G hW) (HR6.out.G hW) hol hol;simpa using this)) ?_
 simp only[E]
 (refine ux (v:=(.bool true)) J (fun W hW=>by first|(go_simp;done)|(go_simp;omega)) ?_;simp only[E])
 (refine ux (v:=(.pointer (some ⟨g,0,none⟩))) J (fun W hW=>by first|(go_simp;done)|(go_simp;omega)) ?_;simp only[E])
 refine vy 38 #[.pointer (some ⟨g,0,none⟩)] J (fun W=>by go_simp) (fun W hW=>xX.y9 hW (DN.out W hW)) ?_;simp only[E]
 (refine ux (v:=(.pointer (some ⟨gq,0,none⟩))) J (fun W hW=>by first|(go_simp;done)|(go_simp;omega)) ?_;simp only[E])
 refine ux (v:=.pointer (some ⟨gq,0,none⟩)) J (fun W hW=>by kernel_rfl) ?_;simp only[E];refine ux (v:=.pointer (some ⟨gq,44,none⟩)) J (fun W hW=>rfl) ?_;simp only[E];refine vr (v:=.bool dn) 4 (.tmp 90) J ⟨gq,44,none⟩ J J (fun V hV=>uB underlying4 J ((Z.G hV hgq).M 44 m44)) ?_;simp only[E];refine ux (v:=.bool true) J (fun W hW=>by change Result.ok (Next.value (Value.bool (dn==dn))) W=_;simp) ?_;simp only[E]
 (refine ux (v:=(.bool true)) J (fun W hW=>by first|(go_simp;done)|(go_simp;omega)) ?_;simp only[E])
 (refine ux (v:=(.bool true)) J (fun W hW=>by first|(go_simp;done)|(go_simp;omega)) ?_;simp only[E])
 (refine ux (v:=(.pointer (some ⟨g,0,none⟩))) J (fun W hW=>by first|(go_simp;done)|(go_simp;omega)) ?_;simp only[E])
 refine vy 39 #[.pointer (some ⟨g,0,none⟩)] J (fun W=>by go_simp) (fun W hW=>xX.y9 hW (SN.out W hW)) ?_;simp only[E];refine vy 44 #[.int .i64 x.uV] J (fun W=>by go_simp) (fun W hW=>xX.y9 hW (DG.out W)) ?_;simp only[E]
 (refine ux (v:=(.pointer (some ⟨gq,0,none⟩))) J (fun W hW=>by first|(go_simp;done)|(go_simp;omega)) ?_;simp only[E])
 refine ux (v:=.pointer (some ⟨gq,0,none⟩)) J (fun W hW=>by kernel_rfl) ?_;simp only[E];refine ux (v:=.pointer (some ⟨gq,18,none⟩)) J (fun W hW=>rfl) ?_;simp only[E];refine vr (v:=.int .i64 x.uV) 3 (.tmp 100) J ⟨gq,18,none⟩ J J (fun V hV=>uB underlying3 J ((Z.G hV hgq).M 18 m18)) ?_;simp only[E];refine vy 44 #[.int .i64 x.uV] J (fun W=>by go_simp) (fun W hW=>xX.y9 hW (DG.out W)) ?_;simp only[E];refine ux (v:=.bool true) J (fun W hW=>by go_simp) ?_;simp only[E]
 (refine ux (v:=(.bool true)) J (fun W hW=>by first|(go_simp;done)|(go_simp;omega)) ?_;simp only[E])
 (refine ux (v:=(.bool true)) J (fun W hW=>by first|(go_simp;done)|(go_simp;omega)) ?_;simp only[E])
 refine wpQuiet_nil ?_;intro w4 hB4;have HF:=Y (um HB HB.size hB4);clear DN SN DG SO HR5 HR6 Z hB4;go_wp2_with fail;go_ret;exact uI.mk J HF.out
end Go.Proofs.YthnbcmlnpdabhaaGreat
