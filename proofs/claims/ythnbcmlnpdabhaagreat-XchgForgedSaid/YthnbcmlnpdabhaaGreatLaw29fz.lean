/-
  Layer 29,the laws' own:XchgForged.
-/
import Derived.Test.YthnbcmlnpdabhaaGreatKEz
namespace Go.Proofs.YthnbcmlnpdabhaaGreat
open _root_.Go.Proofs.Tryz
set_option maxHeartbeats 8000000
open Go.RowKit
set_option maxRecDepth 100000
set_option linter.unusedVariables false
set_option linter.unusedSimpArgs false
theorem Tb{x:Xc}(ok:x.ok)(L:Lt)(e:Ev)(O:e.kind≠1)(h:x.done=false->(A8 x.y e).2=false/\¬(x.lg=2/\e.port=x.y.port/\3<=e.kind/\e.kind<=5)):wU x L e=(x,L,[]):=by
 cases hd:x.done with
 |true=>exact Mk hd L e
 |false=>
  obtain⟨U,X⟩:=h hd;have hdo:=(ok.go hd).2.2.2.2.2;unfold wU;rw[if_neg eP];by_cases hl:x.lg=2
  ·
   obtain⟨s0,sy,_⟩:=hdo hl;have e0:uW x.d e=(x.d,[]):=by
    unfold uW;by_cases hp:x.d.st≠0\/e.port≠x.d.y.port
    ·rw[if_pos hp]
    ·
     rw[if_neg hp];have hpp:e.port=x.y.port:=by rw[sy]at hp;exact Decidable.not_not.1 (fun h=>hp (.inr h))
     have hn:¬(3<=e.kind/\e.kind<=5):=fun h=>X ⟨hl,hpp,h⟩
     rw[if_neg I,if_neg I,if_neg I]
   rw[if_pos hl,if_neg O,e0,if_neg (by show ¬x.d.st=1;rw[s0];decide),if_neg (by show ¬x.d.st=2;rw[s0];decide)]
  ·rw[if_neg hl,if_neg O,if_neg (by rw[U];decide)]
def EY(g gl:Nat)(D:Option Nat)(gy gly:Nat)(Dy:Option Nat):Prop:=gy≠g/\gly≠gl/\∀i,D=some i->Dy≠some i
theorem EY.symm{g gl gy gly:Nat}{D Dy:Option Nat}(h:EY g gl D gy gly Dy):EY gy gly Dy g gl D:=⟨h.1.symm,h.2.1.symm,fun i U X=>h.2.2 i X U⟩
section
variable {w0 w w':World} {g gl gy gly:Nat} {D D' Dy:Option Nat} {x y:Xc} {L h2:Lt}
theorem PX.adS(h':PX w0 w gy gly Dy y h2)(h:PX w0 w g gl D x L)(n:EY g gl D gy gly Dy)(k:Fr (XS g gl D) w w'):PX w0 w' gy gly Dy y h2:=by
 obtain⟨L1,b1⟩:=h.x.uG;obtain⟨L2,b2⟩:=xU h.l;obtain⟨L3,b3⟩:=h'.x.uG;obtain⟨L4,b4⟩:=xU h'.l;refine h'.fr k (fun hs=>?_) (fun hs=>?_) (fun i tM hi F hs=>?_)
 ·
  rcases hs with U|U|U
  ·exact n.1 U
  ·exact wJ b3 b2 ax U
  ·obtain⟨tM,hN⟩:=h.x.XP _ U;exact wJ b3 hN ax J
 ·
  rcases hs with U|U|U
  ·exact wJ b4 b1 ax U
  ·exact n.2.1 U
  ·obtain⟨tM,hN⟩:=h.x.XP _ U;exact wJ b4 hN ax J
 ·
  rcases hs with U|U|U
  ·exact wJ F b1 ax U
  ·exact wJ F b2 ax U
  ·exact n.2.2 i U hi
theorem EY.next(n:EY g gl D gy gly Dy)(h':PX w0 w gy gly Dy y h2)(hD:∀i,D'=some i->D=some i\/w.heap.size<=i):EY g gl D' gy gly Dy:=⟨n.1,n.2.1,fun i hi X=>by
 rcases hD i hi with U|U
 ·exact n.2.2 i U X
 ·
  obtain⟨tM,hN⟩:=h'.x.XP i X;have:=hN.lt;omega⟩
end
theorem VS.mono{nt T k hv k' hv':Nat}{x:Xc}{L:Lt}(h:VS nt T k hv x L)(O:k<=k')(hh:hv<=hv'):VS nt T k' hv' x L:=⟨h.i,h.n,by have:=h.u;omega,h.d,Nat.le_trans h.h hh,h.o⟩
def otC(ud:Int)(e:Ev):List Value:=.int .i64 ud::xA e
theorem Mq(As:Option Addr)(cs:List Value)(r:Rs)(A:Option Addr)(c:Nat)(q:Qn)(turn:Int)(ds:List Int)(cd:Nat)(Ae:Option Addr)(ce:Nat)(l:List Ev)(ud:Int)(oe:Ev)(w:World)(h:CU w cs r)(hN:xj w A c q.name)(hD:Oo w As ds)(hE:Sz w Ae l)(hEl:l.length<=17592186044416)(akV:oe.fr.ip.length=16)(hod:oe.data.length<=140737488355328):
  Calls prog 5 #[.agg (GQ (.slice As ds.length cd) (.slice A q.name.length c) cs q turn).toArray,.slice Ae l.length ce,.agg (otC ud oe).toArray] w (uf (.bool true) w):=by
 have hcl:=h.len;obtain⟨hLl,L0,L10,L13,L14⟩:=adQ (vs:=.slice As ds.length cd) (vn:=.slice A q.name.length c) (q:=q) (turn:=turn) hcl;have SM:=Y (fun V (b:al w V)=>SG As cs r A c q turn ds.length cd V (h.G b) (hN.G b));have FE:=Y (fun w' (b:al w w')=>Xv Ae ce l 80 w' (hE.G b) hEl);have HRS:=Lib.hid h;have HNM:=Y hN;have HDR:=Y hD;have HEV:=Y hE;obtain⟨L,hL⟩:=ao (GQ (.slice As ds.length cd) (.slice A q.name.length c) cs q turn);rw[hL.out]at hLl L0 L10 L13 L14 SM⊢;have hB:Below w.heap.size w (w.alloc (.cells L.toArray 72)):=gj;have B:=Z.new w 72 L;clear h hN hD hE hL;have hol:(xA oe).length=22:=Cv akV;have ho1:∀v∈xA oe,v.oneCell'=true:=abv;obtain⟨es,hes⟩:=ao (xA oe);obtain⟨aek,hO⟩:=ao (otC ud oe);have hOl:aek.length=23:=by rw[<-hO.out];unfold otC;simp[hol]
 have O0:aek[0]?=some (.int .i64 ud):=by rw[<-hO.out];rfl
 have O1:(aek.drop 1).take 22=es:=by rw[<-hO.out,<-hes.out];unfold otC;rw[List.drop_one,List.tail_cons,List.take_of_length_le I]
 have E0:es[0]?=some (.int .i64 oe.kind):=by rw[<-hes.out];rfl
 have E20:es[20]?=some (.int .i64 oe.port):=by rw[<-hes.out];exact z7 akV 1
 have E21:es[21]?=some (.string (bs oe.data)):=by rw[<-hes.out];exact z7 akV 2
 rw[hes.out]at hol ho1;rw[hO.out];have hB2:=hB.alloc ap (.cells aek.toArray 74);have BT2:=B.alloc (.cells aek.toArray 74);have BO2:=Z.vP (w.alloc (.cells L.toArray 72)) 74 aek (w.heap.size+1) ap;obtain⟨wb,hwb⟩:=ao ((w.alloc (.cells L.toArray 72)).alloc (.cells aek.toArray 74));rw[hwb.out]at hB2 BT2 BO2;clear hB B;go_enter func5,ntmps5;go_upto_region 1 with fail;rw[hwb.out];have BZ:=Z.new wb 42 (xA ⟨0,uV.zero,0,0,[]⟩);have kz:Below wb.heap.size wb (wb.alloc (.cells (xA ⟨0,uV.zero,0,0,[]⟩).toArray 42)):=gj;obtain⟨ge,hge⟩:=ao wb.heap.size;go_wp2_with(first
  |(refine tO (.load 42 (.tmp 21)) rfl ?_;go_must(refine tP rfl _ _ rfl (w.heap.size+1) 1 rfl BO2 22 I _ underlying42 rfl ER es O1 ?_))
  |(refine tO (.store 42 (.tmp 7) (.tmp 22)) rfl (ab rfl wb.heap.size 0 es BZ (by rw[hol];decide) (by rw[hol];exact ER) ho1 ?_)))
 intro w0 BE g0 sw;clear sw;replace BE:=xG (L:=es) BE ax;have k0:=tN kz g0 kz.size (Nat.le_refl _);have hB:=tL hB2 hB2.size k0;have B:=BT2.G k0 BT2.lt;have BO:=BO2.G k0 BO2.lt;rw[hge.out]at BE⊢;clear BZ kz g0 k0 hB2 BT2 BO2 hge;go_wp2_with fail;refine(EV _).mono ?_;rintro _ w1 ⟨rfl,b1⟩;have B1:=B.G b1 B.lt;have BO1:=BO.G b1 BO.lt;have BE1:=BE.G b1 BE.lt;have H1:=tL hB hB.size b1;clear B BO BE hB b1;go_wp2_with(refine tO (.load 72 (.tmp 3)) J ?_;go_must(refine uX 72 (.tmp 3) J bm w.heap.size 0 J B1 15 I _ underlying72 J ae9 L (wg I) ?_));refine(SM.out _ H1).mono ?_;rintro _ w2 ⟨b,rfl,hsm,b2⟩;have B2:=B1.G b2 B1.lt;have BO2:=BO1.G b2 BO1.lt;have BE2:=BE1.G b2 BE1.lt;have H2:=tL H1 H1.size b2;have HSM:=Y hsm;clear B1 BO1 BE1 H1 b2 SM hsm;cases b with
 |false=>clear FE;go_wp2_with fail;refine(EV _).mono ?_;rintro _ w3 ⟨rfl,b3⟩;go_wp2_with fail;go_ret;exact uf.mk J (tL H2 H2.size b3)
 |true=>
 obtain⟨hq4,hdl⟩:=HSM.out J;have hqn:q.name.length<=100000:=by have:=zE q.name;omega
 clear HSM;go_wp2_with fail;refine(FE.out _ H2).mono ?_;rintro _ w3 ⟨b,rfl,hfe,b3⟩;have B3:=B2.G b3 B2.lt;have BO3:=BO2.G b3 BO2.lt;have BE3:=BE2.G b3 BE2.lt;have H3:=tL H2 H2.size b3;have HFE:=Y hfe;clear B2 BO2 BE2 H2 b3 FE hfe;cases b with
 |false=>exact ry
 |true=>
 obtain⟨aFf,aEQ⟩:=HFE.out J;clear HFE;have d21:=BE3.K 21 E21;by_cases hdo:oe.data.length<=3000
 case neg=>have axd:(3000:Int)<oe.data.length:=I;clear hdo;exact ry
 have axd:¬(3000:Int)<oe.data.length:=I;have LN:=Y (fun V (hV:al w V)=>Q7 As cd ds V (fun hp=>by obtain⟨b,off,U,X,h3⟩:=HDR.out hp;exact⟨b,off,U,tX h3 hV X⟩) I);have XN:=Y (fun gl V (hV:al w V) (hLt:xT V gl ⟨ds,0⟩)=>SC cs r q A c turn gl ⟨ds,0⟩ V (HRS.out.G hV) (HNM.out.G hV) hqn hLt fO (by show ds.length<=17592186044416;omega));have QN:=Y (fun gl V (hV:al w V) (hLt:Z V gl 86 [.slice As ds.length cd,.int .i64 0]) (hg:w.heap.size<=gl)=>XO w cs r q A c turn gl As cd ⟨ds,0⟩ V (HRS.out.G hV) HNM.out hqn hq4 hLt HDR.out hV hg fO);have LR:Hid (∀V,al w3 V->(Instr.loadAt 69 (.pointer (some ⟨w.heap.size,0,none⟩))).run prog V= .ok (.agg cs.toArray) V):=Y (fun V hV=>(B3.G hV B3.lt).wk 69 0 10 I _ underlying69 J zX _ L0);have LQ:Hid (∀V,al w3 V->(Instr.loadAt 28 (.pointer (some ⟨w.heap.size,10,none⟩))).run prog V= .ok (.agg (qC (.slice A q.name.length c) q).toArray) V):=Y (fun V hV=>(B3.G hV B3.lt).wk 28 10 3 I _ underlying28 J xh _ L10);have LT:Hid (∀V,al w3 V->(Instr.loadAt 3 (.pointer (some ⟨w.heap.size,13,none⟩))).run prog V= .ok (.int .i64 turn) V):=Y (fun V hV=>tV underlying3 J ((B3.G hV B3.lt).K 13 L13));have LD:Hid (∀V,al w3 V->(Instr.loadAt 70 (.pointer (some ⟨w.heap.size,14,none⟩))).run prog V= .ok (.slice As ds.length cd) V):=Y (fun V hV=>tV underlying70 J ((B3.G hV B3.lt).K 14 L14));have NI:=Y (fun ok=>VS.new r q turn ⟨ds,0⟩ J hdl ok);have NL:=Y (aaF (ui r).hS (ui r).vc (ui r).ed q (vj r turn) ⟨ds,0⟩);obtain⟨X0,hX0⟩:=ao (AU (ui r).hS (ui r).vc (ui r).ed q (vj r turn) ⟨ds,0⟩);rw[hX0.out]at XN NI NL QN;obtain⟨Q,hQ⟩:=ao (qC (.slice A q.name.length c) q);have apD:=L10;rw[hQ.out]at XN LQ QN apD;have HL0:=Y L0;have ay3:=Y apD;have hql:Q.length=3:=by rw[<-hQ.out];rfl
 clear L0 L10 apD hQ hX0 HNM hq4;go_upto_region 5 with fail;clear d21;go_cut[8,9] (fun v5 v6 wx=>∃g gl D Aa ca,v5= .pointer (some ⟨g,0,none⟩)/\v6= .slice Aa X0.2.2.length ca/\Hid (vI w3.heap.size wx (.slice Aa X0.2.2.length ca) X0.2.2)/\Hid (PX w wx g gl D X0.1 X0.2.1)/\Hid (w3.heap.size<=g/\w3.heap.size<=gl/\∀i,D=some i->w3.heap.size<=i)/\al w3 wx)
 case first=>
  refine wp_region_held_drew (S:=fun V=>al w3 V) (by kernel_rfl) (Below.refl _ _).drew (fun M=>?_);have ah8:=Below.size (Below.refl w3.heap.size w3);have H3W:=tL H3 H3.size (Below.refl w3.heap.size w3);refine uh M 8 [0,1,2,3,4,5,6,7] J (by kernel_rfl) (fun _ _ _ _ _ h=>h) J J ?_;repeat(refine aj _ ?_;simp only[z])
  (refine ah _ J J (fun V hV=>(ul 69 (.tmp 43) ⟨w.heap.size,0,none⟩ J J (LR.out V (tL (Below.refl w3.heap.size w3) ah8 hV)))) ?_;simp only[z])
  repeat(refine aj _ ?_;simp only[z])
  (refine ah _ J J (fun V hV=>(ul 28 (.tmp 45) ⟨w.heap.size,10,none⟩ J J (LQ.out V (tL (Below.refl w3.heap.size w3) ah8 hV)))) ?_;simp only[z])
  repeat(refine aj _ ?_;simp only[z])
  (refine ah _ J J (fun V hV=>(ul 3 (.tmp 47) ⟨w.heap.size,13,none⟩ J J (LT.out V (tL (Below.refl w3.heap.size w3) ah8 hV)))) ?_;simp only[z])
  repeat(refine aj _ ?_;simp only[z])
  (refine ah _ J J (fun V hV=>(ul 70 (.tmp 49) ⟨w.heap.size,14,none⟩ J J (LD.out V (tL (Below.refl w3.heap.size w3) ah8 hV)))) ?_;simp only[z])
  simp only[vx];refine uO 8 (some 51) 33 #[.slice As ds.length cd] (by kernel_rfl) J J (by kernel_rfl) bm (LN.out _ (tL H3W H3W.size M)) ?_;rintro _ w4 ⟨gl,rfl,hLt,b4,hgl⟩;have hS4:=tL M M.size b4;refine⟨_,J,hS4,?_⟩;have asb:w3.heap.size<=gl:=Nat.le_trans M.size hgl;clear M b4 hgl;have M:=hS4;clear hS4;simp only[z];refine uO 9 (some 52) 32 #[.agg cs.toArray,.agg Q.toArray,.int .i64 turn,.pointer (some ⟨gl,0,none⟩)] (by kernel_rfl) J J (by kernel_rfl) bm (XN.out gl _ (tL H3W H3W.size M) hLt) ?_;rintro _ w5 ⟨g,v,D,rfl,hO,hX,hl5,hf,hg,hD⟩;have hS5:al w3 w5:=mF;refine⟨_,J,hS5,?_⟩;obtain⟨Aa,ca,hva,-⟩:=hO.form;subst hva;have hO5:=Y (hO.mono (show w3.heap.size<=w4.heap.size from M.size));have hwW:w.heap.size<=w3.heap.size:=H3W.size;have hw4:w3.heap.size<=w4.heap.size:=lm;have HP:Hid (PX w w5 g gl D X0.1 X0.2.1):=kO;have HFR:Hid (w3.heap.size<=g/\w3.heap.size<=gl/\∀i,D=some i->w3.heap.size<=i):=lz;clear M hf hO hg hD hLt hX hl5;have M:=hS5;clear hS5;simp only[z];refine uh M 5 [10,11,12,13,14] J (by kernel_rfl) (fun _ _ _ _ _ h=>h) J J ?_
  (refine aj (.tuple #[.pointer (some ⟨g,0,none⟩),.slice Aa X0.2.2.length ca]) ?_;simp only[z])
  (refine aj (.pointer (some ⟨g,0,none⟩)) ?_;simp only[z])
  (refine aj (.slice Aa X0.2.2.length ca) ?_;simp only[z])
  (refine aj (.pointer (some ⟨g,0,none⟩)) ?_;simp only[z])
  (refine aj (.slice Aa X0.2.2.length ca) ?_;simp only[z])
  simp only[vx];refine wpAnyH_done (by kernel_rfl) ?_ _;exact rZ
 obtain⟨g,gl,D,Aa,ca,rfl,rfl,-,hP,-,HW⟩:=hcut;obtain⟨wa,rfl⟩:∃wa,wa=wc:=gp;go_upto_region 6 with fail;go_cut[10,11] (fun v5 v6 wx=>∃g gl D Aa ca,v5= .pointer (some ⟨g,0,none⟩)/\v6= .slice Aa X0.2.2.length ca/\Hid (vI wa.heap.size wx (.slice Aa X0.2.2.length ca) X0.2.2)/\Hid (PX w wx g gl D X0.1 X0.2.1)/\Hid (wa.heap.size<=g/\wa.heap.size<=gl/\∀i,D=some i->wa.heap.size<=i)/\al wa wx)
 case first=>
  refine wp_region_held_drew (S:=fun V=>al wa V) (by kernel_rfl) (Below.refl _ _).drew (fun M=>?_);have ah8:=Below.size HW;have H3W:=tL H3 H3.size HW;refine uh M 8 [0,1,2,3,4,5,6,7] J (by kernel_rfl) (fun _ _ _ _ _ h=>h) J J ?_;repeat(refine aj _ ?_;simp only[z])
  (refine ah _ J J (fun V hV=>(ul 69 (.tmp 56) ⟨w.heap.size,0,none⟩ J J (LR.out V (tL HW ah8 hV)))) ?_;simp only[z])
  repeat(refine aj _ ?_;simp only[z])
  (refine ah _ J J (fun V hV=>(ul 28 (.tmp 58) ⟨w.heap.size,10,none⟩ J J (LQ.out V (tL HW ah8 hV)))) ?_;simp only[z])
  repeat(refine aj _ ?_;simp only[z])
  (refine ah _ J J (fun V hV=>(ul 3 (.tmp 60) ⟨w.heap.size,13,none⟩ J J (LT.out V (tL HW ah8 hV)))) ?_;simp only[z])
  repeat(refine aj _ ?_;simp only[z])
  (refine ah _ J J (fun V hV=>(ul 70 (.tmp 62) ⟨w.heap.size,14,none⟩ J J (LD.out V (tL HW ah8 hV)))) ?_;simp only[z])
  simp only[vx];refine uO 8 (some 64) 33 #[.slice As ds.length cd] (by kernel_rfl) J J (by kernel_rfl) bm (LN.out _ (tL H3W H3W.size M)) ?_;rintro _ w4 ⟨gl,rfl,hLt,b4,hgl⟩;have hS4:=tL M M.size b4;refine⟨_,J,hS4,?_⟩;have asb:wa.heap.size<=gl:=Nat.le_trans M.size hgl;clear M b4 hgl;have M:=hS4;clear hS4;simp only[z];refine uO 9 (some 65) 32 #[.agg cs.toArray,.agg Q.toArray,.int .i64 turn,.pointer (some ⟨gl,0,none⟩)] (by kernel_rfl) J J (by kernel_rfl) bm (XN.out gl _ (tL H3W H3W.size M) hLt) ?_;rintro _ w5 ⟨g,v,D,rfl,hO,hX,hl5,hf,hg,hD⟩;have hS5:al wa w5:=mF;refine⟨_,J,hS5,?_⟩;obtain⟨Aa,ca,hva,-⟩:=hO.form;subst hva;have hO5:=Y (hO.mono (show wa.heap.size<=w4.heap.size from M.size));have hwW:w.heap.size<=wa.heap.size:=H3W.size;have hw4:wa.heap.size<=w4.heap.size:=lm;have HP:Hid (PX w w5 g gl D X0.1 X0.2.1):=kO;have HFR:Hid (wa.heap.size<=g/\wa.heap.size<=gl/\∀i,D=some i->wa.heap.size<=i):=lz;clear M hf hO hg hD hLt hX hl5;have M:=hS5;clear hS5;simp only[z];refine uh M 5 [10,11,12,13,14] J (by kernel_rfl) (fun _ _ _ _ _ h=>h) J J ?_
  (refine aj (.tuple #[.pointer (some ⟨g,0,none⟩),.slice Aa X0.2.2.length ca]) ?_;simp only[z])
  (refine aj (.pointer (some ⟨g,0,none⟩)) ?_;simp only[z])
  (refine aj (.slice Aa X0.2.2.length ca) ?_;simp only[z])
  (refine aj (.pointer (some ⟨g,0,none⟩)) ?_;simp only[z])
  (refine aj (.slice Aa X0.2.2.length ca) ?_;simp only[z])
  simp only[vx];refine wpAnyH_done (by kernel_rfl) ?_ _;exact rZ
 obtain⟨gy,gly,Dy,Ay,cy,rfl,rfl,-,hPy,hFR,HWy⟩:=hcut;obtain⟨w5,rfl⟩:∃w5,w5=wc:=gp;have hP5:=Y (hP.out.G HWy);have hap:Hid (EY g gl D gy gly Dy):=Y (by
  obtain⟨f1,f2,f3⟩:=hFR.out;obtain⟨L1,b1⟩:=hP.out.x.uG;obtain⟨L2,b2⟩:=xU hP.out.l;have:=b1.lt;have:=b2.lt;refine⟨I,I,fun i hi hj=>?_⟩;obtain⟨tM,hN⟩:=hP.out.x.XP i hi;have:=hN.lt;have:=f3 i hj;omega)
 have HW5:=tL HW HW.size HWy;have H5:=tL H3 H3.size HW5;have B5:=B3.G HW5 B3.lt;have BO5:=BO3.G HW5 BO3.lt;have BE5:=BE3.G HW5 BE3.lt;have a13:=B5.K 13 L13;have a14:=B5.K 14 L14;have kl:Below w5.heap.size w5 (w5.alloc (.cells #[.slice As ds.length cd,.int .i64 0] 86)):=gj;have QC:=Y (QN.out w5.heap.size _ (tL H5 H5.size kl) (Z.new w5 86 [.slice As ds.length cd,.int .i64 0]) H5.size);clear LR LQ LT LD LN XN QN L13 L14 HW hP hFR HWy HW5;go_wp2_with(first
  |(refine tO (.load 69 (.tmp 69)) rfl ?_;go_must(refine tP rfl _ _ rfl w.heap.size 0 rfl B5 10 I _ underlying69 rfl zX cs HL0.out ?_))
  |(refine tO (.load 28 (.tmp 71)) rfl ?_;go_must(refine tP rfl _ _ rfl w.heap.size 10 rfl B5 3 I _ underlying28 rfl xh Q ay3.out ?_)))
 refine QC.out.mono ?_;rintro _ w6 ⟨gq,vb,Dq,rfl,hOb,hRX,hFq,hgq⟩;have K56:al w5 w6:=hFq.zN kl ap (fun i hi h=>by omega);have H6:=tL H5 H5.size K56;have hOK:=Y (NI.out hP5.out.x.ok);have hP6:=Y (hP5.out.G K56);have ag8:=Y (hPy.out.G K56);have amC:=Y hRX;have BO6:=BO5.G K56 BO5.lt;have BE6:=BE5.G K56 BE5.lt;have b0:=BO6.K 0 O0;obtain⟨glq,asa⟩:=ao w5.heap.size;rw[asa.out]at amC;obtain⟨x0,hx0⟩:=ao X0.1;obtain⟨L1,hL1⟩:=ao X0.2.1;rw[hx0.out,hL1.out]at hOK hP6 ag8 amC;obtain⟨m,hm⟩:∃m:Nat,m=((IntKind.u64.wrap ud)% (l.length+1)).toNat:=gp;have hu0:0<=IntKind.u64.wrap ud:=nF;have hme:(m:Int)=(IntKind.u64.wrap ud)% (l.length+1):=by rw[hm];exact Int.toNat_of_nonneg (Int.emod_nonneg _ I)
 have hcu:wrap64 ((IntKind.u64.wrap ud).tmod (l.length+1))=m:=by have:=Int.emod_lt_of_pos (IntKind.u64.wrap ud) (show(0:Int)<l.length+1 by omega);rw[Int.tmod_eq_emod_of_nonneg hu0,<-hme];exact IntWalk.wrap64_in _ ⟨I,I⟩
 clear QC NI NL hP5 hPy hRX hFq K56 H5 B5 a13 a14 kl hgq hx0 hL1 asa hql hLl hOb BO5 BE5 B3 BO3 BE3 hm hu0 hme;go_upto_region 10 with fail;rw[hcu];clear hcu b0 BO6;go_wp2_with fail;go_loopw[15] (fun iv wr=>∃(k:Nat) (x:Xc) (h2:Lt) (aeq Ey Eq:Option Nat),k<=l.length+1/\iv= .int .i64 k/\Hid (PX w wr g gl aeq x h2)/\Hid (PX w wr gy gly Ey x h2)/\Hid (EY g gl aeq gy gly Ey)/\Hid (zU w wr gq glq A c As cd Eq x h2)/\Hid (VS (vj r 0).length (IY r) k (EU (l.take k)) x h2)/\Z wr ge 42 es/\al w wr) (fun iv _=>l.length+1-(intOf iv).toNat)
 case atStart=>exact⟨0,x0,L1,D,Dy,Dq,Nat.zero_le _,J,hP6,ag8,hap,amC,hOK,BE6,H6⟩
 clear hP6 ag8 hap amC hOK BE6 H6;obtain⟨k,x,h2,aeq,Ey,Eq,O,rfl,HP,HPy,HA,HQ,HI,BE,HB⟩:=hrel;have hsn:=HI.out.uz;by_cases Hh:k<=l.length
 case pos=>
  have tQ:(k:Int)<=l.length:=I;have hhv:=HI.out.h;have huu:=HI.out.u;have hdd:=HI.out.d;have htk:=VM l k;have hqb:=HQ.out;obtain⟨qs,S,hgo⟩:=hqb.s;have hxn:x.q.name.length<=100000:=by have:=S.nl;have:=zE x.q.name;omega
  have e0:=BE.K 0 E0;have e20:=BE.K 20 E20;obtain⟨hit,ahz⟩:=ao (decide (k=m/\oe.kind≠1));go_upto_region 13 with fail;go_cut[110] (fun v wx=>v= .bool hit/\wx=wr)
  case first=>
   as_aux_lemma=>
   by_cases U:k=m
   case neg=>
    have h1':((k:Int)==m)=false:=az;obtain rfl:hit=false:=by rw[<-ahz.out];exact decide_eq_false (fun h=>U h.1)
    exact rT
   have h1':((k:Int)==m)=true:=by rw[U];simp
   by_cases X:oe.kind=1
   case pos=>
    have h2':(oe.kind !=1)=false:=by rw[X];rfl
    obtain rfl:hit=false:=by rw[<-ahz.out];exact decide_eq_false (fun h=>h.2 X)
    exact rT
   have h2':(oe.kind !=1)=true:=fW;obtain rfl:hit=true:=by rw[<-ahz.out];exact decide_eq_true ⟨U,X⟩
   exact rT
  obtain⟨rfl,hwc⟩:=hcut;rw[hwc];clear hwc;go_upto_if 110 with fail;go_cut[] (fun wx=>∃E2,Hid (PX w wx g gl E2 x h2)/\Hid (PX w wx gy gly Ey x h2)/\Hid (EY g gl E2 gy gly Ey)/\Hid (zU w wx gq glq A c As cd Eq x h2)/\Z wx ge 42 es/\al w wx)
  case first=>
   as_aux_lemma=>
   cases hit with
   |false=>
    clear e0 e20;go_wp2_with fail;go_meet
    case rel=>exact⟨aeq,HP,HPy,HA,HQ,BE,HB⟩
   |true=>
    have X:oe.kind≠1:=(of_decide_eq_true ahz.out).2;obtain⟨M2,vt,dq,F,hMl,-,-,-,-,-,-,-,m16,-,-,m19,-,-,-,-,-,-,-⟩:=S.cells;obtain⟨yq,Aq,cq,HIq,hyq⟩:∃yq Aq cq,Hid (Ib wr qs yq Aq cq)/\Hid (uQ yq.q.name<=1000/\(x.done=false->yq=x.y)):=by
     have hnm:=S.nm.G S.bw;have hnl:uQ x.q.name<=1000:=by have:=S.nl;omega
     cases hd:x.done with
     |false=>
      obtain⟨_,_,_,k4,k5,_⟩:=hqb.ok.go hd;have agb:x.y.sv.ip.length=16:=by rw[k5];exact PQ (hqb.ok.st hd).ips _
      exact⟨x.y,A,c,Y ⟨by rw[(hgo hd).2.1,k4],agb,by rw[k4];exact hnm⟩,Y ⟨by rw[k4];exact hnl,fun _=>rfl⟩⟩
     |true=>
      rcases S.qk with hz|⟨y,y1,y2,y3⟩
      ·exact⟨⟨uV.zero,0,0,⟨[],0,0⟩⟩,none,0,Y ⟨hz,J,xj.nil _⟩,Y ⟨ax,fun h=>by cases h⟩⟩
      ·exact⟨y,A,c,Y ⟨by rw[y3,y2],y1,by rw[y2];exact hnm⟩,Y ⟨by rw[y2];exact hnl,fun h=>by cases h⟩⟩
    have LQ:Hid (∀V,al wr V->(Instr.loadAt 30 (.pointer (some ⟨gq,19,none⟩))).run prog V= .ok (.agg qs.toArray) V):=Y (fun V hV=>(F.G hV F.lt).wk 30 19 23 I _ underlying30 J DX _ m19);have LE:Hid (∀V,al wr V->(Instr.loadAt 42 (.pointer (some ⟨ge,0,none⟩))).run prog V= .ok (.agg es.toArray) V):=Y (fun V hV=>(BE.G hV BE.lt).wk 42 0 22 I _ underlying42 J ER _ (wg I));have PK:=Y (fun V (hV:al wr V)=>JF qs yq Aq cq oe V (HIq.out.G hV) akV hyq.out.1);rw[hes.out]at PK;obtain⟨pp,hpp⟩:=ao (A8 yq oe);rw[hpp.out]at PK;have c37:wr.cell? ⟨gq,37,none⟩=some (.int .i64 yq.port):=F.K 37 (by
     have e:M2[37]?=((M2.drop 19).take 23)[18]?:=by rw[List.getElem?_take_of_lt I,List.getElem?_drop]
     rw[e,m19,HIq.out.hcs];exact zj HIq.out.ip 0)
    have c16:=F.K 16 m16;go_upto_region 15 with fail;go_cut[16,17] (fun v6 v7 wx=>∃gm ds,v6= .pointer (some ⟨gm,0,none⟩)/\v7= .bool pp.2/\Z wx gm 50 ds/\uA wx ds pp.1/\al wr wx)
    case first=>
     as_aux_lemma=>
     clear e0 e20 c37 c16;refine wp_region_held_drew (S:=fun V=>al wr V) (by kernel_rfl) (Below.refl _ _).drew (fun M=>?_);refine uh M 5 [0,1,2,3,4] J (by kernel_rfl) (fun _ _ _ _ _ h=>h) J J ?_;repeat(refine aj _ ?_;simp only[z])
     (refine ah _ J J (fun V hV=>(ul 30 (.tmp 114) ⟨gq,19,none⟩ J J (LQ.out V hV))) ?_;simp only[z])
     (refine ah _ J J (fun V hV=>(ul 42 (.tmp 7) ⟨ge,0,none⟩ J J (LE.out V hV))) ?_;simp only[z])
     simp only[vx];refine xu 5 9 (by kernel_rfl) ?_ ?_
     ·
      refine vO 5 (some 117) 35 #[.agg qs.toArray,.agg es.toArray] J J (by kernel_rfl) bm (PK.out _ M) ?_;rintro _ w3 ⟨ds,rfl,hM,b3⟩;have hdl:=hM.len;have hd1:=Y hM.one;have hS3:=tL M M.size b3;refine⟨_,J,hS3,?_⟩;clear M b3;have M:=hS3;clear hS3;simp only[z];refine uh M 3 [6,7,8] J (by kernel_rfl) (fun _ _ _ _ _ h=>h) J J ?_
      (refine aj (.tuple #[.agg ds.toArray,.bool pp.2]) ?_;simp only[z])
      (refine aj (.agg ds.toArray) ?_;simp only[z])
      (refine aj (.bool pp.2) ?_;simp only[z])
      simp only[vx];have kn:Below w3.heap.size w3 (w3.alloc (.cells uw.toArray 50)):=gj;have hS4:=tL M M.size kn;have hM4:=hM.G kn;have Bz:=Z.new w3 50 uw;have hz:wr.heap.size<=w3.heap.size:=lm;refine zF 9 (some 16) (by kernel_rfl) J J (by kernel_rfl) (v:=.pointer (some ⟨w3.heap.size,0,none⟩)) (w':=w3.alloc (.cells uw.toArray 50)) (by kernel_rfl) hS4 ?_;simp only[z];clear M hM kn;have M:=hS4;clear hS4;generalize w3.alloc (.cells uw.toArray 50)=wz at*;generalize w3.heap.size=gz at*;refine vz 10 none 50 (.tmp 16) (.tmp 118) (by kernel_rfl) J J J (by kernel_rfl) gz 0 J ds J Bz dK dJ hd1.out ?_;intro w8 B8 g8 zs;clear zs;replace B8:Z w8 gz 50 ds:=lk;have hM8:=hM4.uG g8 Bz;have hS8:al wr w8:=iI;refine⟨hS8,?_⟩;clear M;have M:=hS8;simp only[z];refine uh M 1 [11] J (by kernel_rfl) (fun _ _ _ _ _ h=>h) J J ?_
      (refine aj (.bool pp.2) ?_;simp only[z])
      simp only[vx];refine wpAnyH_done (by kernel_rfl) ?_ _;exact pB
     ·
      have kn:Below wr.drew.heap.size wr.drew (wr.drew.alloc (.cells uw.toArray 50)):=gj;have hS4:=tL M M.size kn;have Bn:=Z.new wr.drew 50 uw;have hz:wr.heap.size<=wr.drew.heap.size:=lm;refine uM 9 (some 16) (v:=.pointer (some ⟨wr.drew.heap.size,0,none⟩)) (w':=wr.drew.alloc (.cells uw.toArray 50)) J J (by kernel_rfl) (by kernel_rfl) ?_;refine⟨hS4,?_⟩;clear M kn;have M:=hS4;clear hS4;simp only[z];generalize wr.drew.alloc (.cells uw.toArray 50)=wy at*;generalize wr.drew.heap.size=gz at*;refine uO 5 (some 117) 35 #[.agg qs.toArray,.agg es.toArray] (by kernel_rfl) J J (by kernel_rfl) bm (PK.out _ M) ?_;rintro _ w3 ⟨ds,rfl,hM4,b3⟩;have hdl:=hM4.len;have hd1:=Y hM4.one;have hS3:=tL M M.size b3;have Bz:=Bn.G b3 Bn.lt;refine⟨_,J,hS3,?_⟩;clear M b3 Bn;have M:=hS3;clear hS3;simp only[z];refine uh M 3 [6,7,8] J (by kernel_rfl) (fun _ _ _ _ _ h=>h) J J ?_
      (refine aj (.tuple #[.agg ds.toArray,.bool pp.2]) ?_;simp only[z])
      (refine aj (.agg ds.toArray) ?_;simp only[z])
      (refine aj (.bool pp.2) ?_;simp only[z])
      simp only[vx];refine vz 10 none 50 (.tmp 16) (.tmp 118) (by kernel_rfl) J J J (by kernel_rfl) gz 0 J ds J Bz dK dJ hd1.out ?_;intro w8 B8 g8 zs;clear zs;replace B8:Z w8 gz 50 ds:=lk;have hM8:=hM4.uG g8 Bz;have hS8:al wr w8:=iI;refine⟨hS8,?_⟩;clear M;have M:=hS8;simp only[z];refine uh M 1 [11] J (by kernel_rfl) (fun _ _ _ _ _ h=>h) J J ?_
      (refine aj (.bool pp.2) ?_;simp only[z])
      simp only[vx];refine wpAnyH_done (by kernel_rfl) ?_ _;exact pB
    obtain⟨gm,ds9,rfl,rfl,BM,hM9,k9⟩:=hcut;obtain⟨w9,rfl⟩:∃w9,w9=wc:=gp;have hb9:=F.G k9 F.lt;have BE9:=BE.G k9 BE.lt;have ax6:w9.cell? ⟨gq,16,none⟩=some (.int .i64 x.lg):=hb9.K 16 m16;have ax3:w9.cell? ⟨gq,37,none⟩=some (.int .i64 yq.port):=hb9.K 37 (by
     have e:M2[37]?=((M2.drop 19).take 23)[18]?:=by rw[List.getElem?_take_of_lt I,List.getElem?_drop]
     rw[e,m19,HIq.out.hcs];exact zj HIq.out.ip 0)
    have d0:=BE9.K 0 E0;have d20:=BE9.K 20 E20;have HB9:=tL HB HB.size k9;have hP9:=Y (HP.out.G k9);have amE:=Y (HPy.out.G k9);have hQ9:=Y (HQ.out.G k9);obtain⟨ow,how⟩:=ao (decide (x.lg=2/\oe.port=yq.port/\3<=oe.kind/\oe.kind<=5));clear PK LQ LE c37 c16 e0 e20 F m19 m16 BM hM9 S hgo hqb HP HPy HQ;go_upto_region 16 with fail;go_cut[18] (fun v wx=>v= .bool ow/\al w9 wx)
    case first=>
     as_aux_lemma=>
     by_cases o1:x.lg=2
     case neg=>
      have o1':((x.lg:Int)==2)=false:=az;obtain rfl:ow=false:=by rw[<-how.out];exact decide_eq_false (fun h=>o1 h.1)
      exact pw
     have o1':((x.lg:Int)==2)=true:=by rw[o1];rfl
     by_cases o2:oe.port=yq.port
     case neg=>
      have o2':(oe.port==yq.port)=false:=by simpa using o2
      obtain rfl:ow=false:=by rw[<-how.out];exact decide_eq_false (fun h=>o2 h.2.1)
      exact pw
     have o2':(oe.port==yq.port)=true:=by simpa using o2
     by_cases o3:3<=oe.kind
     case neg=>
      obtain rfl:ow=false:=by rw[<-how.out];exact decide_eq_false (fun h=>o3 h.2.2.1)
      exact pw
     by_cases o4:oe.kind<=5
     case neg=>
      obtain rfl:ow=false:=by rw[<-how.out];exact decide_eq_false (fun h=>o4 h.2.2.2)
      exact pw
     case pos=>
      obtain rfl:ow=true:=by rw[<-how.out];exact decide_eq_true ⟨o1,o2,o3,o4⟩
      exact pw
    obtain⟨rfl,k10⟩:=hcut;obtain⟨w10,rfl⟩:∃w10,w10=wc:=gp;have am5:=BE9.G k10 BE9.lt;have apR:=tL HB9 HB9.size k10;have ajs:=Y (hP9.out.G k10);have ajJ:=Y (amE.out.G k10);have amD:=Y (hQ9.out.G k10);clear ax6 ax3 d0 d20 hb9 BE9 HB9 hP9 amE hQ9 k10 k9;cases h5:pp.2 with
    |true=>exact sC
    |false=>
    cases ow with
    |true=>exact sC
    |false=>
    have FS:wU x h2 oe=(x,h2,[]):=Tb amD.out.ok h2 oe X (fun hd=>by
     have hy:=hyq.out.2 hd;have h3:=of_decide_eq_false how.out;rw[<-hy];rw[hpp.out];exact⟨h5,h3⟩)
    have HC:=Y (I6 g gl aeq x h2 oe w10 ajs.out.x ajs.out.l akV I I I I);rw[FS,hes.out]at HC;clear FS;go_wp2_with(refine tO (.load 42 (.tmp 7)) J ?_;go_must(refine uX 42 (.tmp 7) J bm ge 0 J am5 22 I _ underlying42 J ER es (wg I) ?_));refine HC.out.mono ?_;intro e6 w6 hr6;obtain⟨v6,E2,rfl,hO6,hP6,hf6,HB6,hD6⟩:=ajs.out.UY apR hr6;have ag8:=Y (ajJ.out.adS ajs.out HA.out hf6);have hA6:=Y (HA.out.next ajJ.out hD6);have hQ6:=Y (amD.out.byX ajs.out hf6);have BE6:=hf6.Lj am5 cQ;have axB:=Y hP6;obtain⟨A6,c6,hv6,-⟩:=hO6.form;subst hv6;clear HC hr6 hO6 hP6 hf6 hD6 ajs ajJ amD am5 apR;go_wp2_with fail;go_meet
    case rel=>exact⟨E2,axB,ag8,hA6,hQ6,BE6,HB6⟩
  obtain⟨E2,HP2,amU,HA2,HQ2,BE2,hk⟩:=hcut;obtain⟨w2',rfl⟩:∃w2',w2'=wc:=gp;clear HP HPy HA HQ BE HB e0 e20 S hgo hqb ahz;go_upto_if 161 with fail;go_cut[] (fun wx=>∃(X2:Xc) (M2:Lt) (E3 Ey3 Eq3:Option Nat),Hid (PX w wx g gl E3 X2 M2)/\Hid (PX w wx gy gly Ey3 X2 M2)/\Hid (EY g gl E3 gy gly Ey3)/\Hid (zU w wx gq glq A c As cd Eq3 X2 M2)/\Hid (VS (vj r 0).length (IY r) (k+1) (EU (l.take (k+1))) X2 M2)/\Z wx ge 42 es/\al w wx)
  case first=>
   as_aux_lemma=>
   by_cases hkl:k<l.length
   case neg=>
    have awS:¬(k:Int)<l.length:=I;have HI2:Hid (VS (vj r 0).length (IY r) (k+1) (EU (l.take (k+1))) x h2):=Y (HI.out.mono I (by rw[List.take_of_length_le I,List.take_of_length_le I];exact Nat.le_refl _));go_wp2_with fail;go_meet
    case rel=>exact⟨x,h2,E2,Ey,Eq,HP2,amU,HA2,HQ2,HI2,BE2,hk⟩
   have awS:(k:Int)<l.length:=I;obtain⟨ba,oa,hA1,la1,ra,ty,amy⟩:=HEV.out.ud k hkl;have hT:=On l k hkl;have hT2:=VM l (k+1);have hel:(xA l[k]).length=22:=Cv ty;have re:=tX ra hk la1;have QC:=Y (UU w gq glq A c As cd Eq x h2 l[k] w2' HQ2.out HI.out.o ty I I I hxn);have HI2:=Y (HI.out.adP HP2.out.x.ok l[k]);rw[<-hT]at HI2;have hx2:=Xs x h2 l[k];have XC:=Y (fun V g gl aeq (hV:PX w V g gl aeq x h2)=>I6 g gl aeq x h2 l[k] V hV.x hV.l ty I I I I);subst hA1;generalize wU x h2 l[k]=R at*;generalize hek:xA l[k]=ek at*;have LE:Hid (∀V,al w V->(Instr.loadAt 42 (.pointer (some ⟨ba,oa+k*22,none⟩))).run prog V= .ok (.agg ek.toArray) V):=Y (fun V hV=>yo (tX ra hV la1) underlying42 J fP);clear hT hT2 hhv huu hdd hxn ra amy HI ty hek htk;go_wp2_with(refine tO (.load 42 (.tmp 165)) J ?_;go_must(refine vM J 42 (.tmp 165) J ba (oa+k*22) J ek re _ underlying42 J fP ?_));refine QC.out.mono ?_;rintro _ w8 ⟨v8,Eq8,rfl,-,hQ8,hf8⟩;have kd:Below w8.heap.size w8 w8.drew:=iH;have hP8:=Y ((HP2.out.byQ HQ2.out hf8).G kd);have ao8:=Y ((amU.out.byQ HQ2.out hf8).G kd);have HB8:=tL (HQ2.out.aaG hf8) (HQ2.out.aaG hf8).size kd;have BE8:=(hf8.Lj BE2 cQ).drew;have asD:=Y (hQ8.G kd);have HC:=Y (XC.out _ g gl E2 hP8.out);clear QC HP2 amU HQ2 BE2 hk hf8 hQ8 re;go_wp2_with fail;refine wp_region_held_drew (S:=fun V=>al w V) (by kernel_rfl) HB8 (fun M=>?_);refine uh M 10 [0,1,2,3,4,6,7,8,9,10] J (by kernel_rfl) (fun _ _ _ _ _ h=>h) J J ?_
   (refine aj (.pointer (some ⟨g,0,none⟩)) ?_;simp only[z])
   (refine aj (.slice (some ⟨ba,oa,none⟩) l.length ce) ?_;simp only[z])
   (refine aj (.int .i64 k) ?_;simp only[z])
   (refine ah (.pointer (some ⟨ba,oa+k*22,none⟩)) J J (fun V hV=>(yA underlying56 ER ax (.tmp 169) (.tmp 170) J J J hkl V)) ?_;simp only[z])
   (refine ah _ J J (fun V hV=>(ul 42 (.tmp 171) ⟨ba,oa+k*22,none⟩ J J (LE.out V hV))) ?_;simp only[z])
   (refine aj (.pointer (some ⟨gy,0,none⟩)) ?_;simp only[z])
   (refine aj (.slice (some ⟨ba,oa,none⟩) l.length ce) ?_;simp only[z])
   (refine aj (.int .i64 k) ?_;simp only[z])
   (refine ah (.pointer (some ⟨ba,oa+k*22,none⟩)) J J (fun V hV=>(yA underlying56 ER ax (.tmp 175) (.tmp 176) J J J hkl V)) ?_;simp only[z])
   (refine ah _ J J (fun V hV=>(ul 42 (.tmp 177) ⟨ba,oa+k*22,none⟩ J J (LE.out V hV))) ?_;simp only[z])
   simp only[vx];refine uO 5 (some 173) 36 #[.pointer (some ⟨g,0,none⟩),.agg ek.toArray] (by kernel_rfl) J J (by kernel_rfl) bm HC.out ?_;intro e6 w6 hr6;obtain⟨v6,E3,rfl,hO6,hP6,hf6,HB6,hD6⟩:=hP8.out.UY HB8 hr6;have ag8:=ao8.out.adS hP8.out HA2.out hf6;have hA6:=HA2.out.next ao8.out hD6;have hQ6:=asD.out.byX hP8.out hf6;have BE6:=hf6.Lj BE8 cQ;obtain⟨Aa,ca,hva,-⟩:=hO6.form;subst hva;refine⟨_,J,HB6,?_⟩;have HCy:=Y (XC.out _ gy gly Ey ag8);clear M HC hr6 hP8 ao8 HA2 asD BE8 hf6 hD6 XC;have M:=HB6;simp only[z];refine uO 11 (some 179) 36 #[.pointer (some ⟨gy,0,none⟩),.agg ek.toArray] (by kernel_rfl) J J (by kernel_rfl) bm HCy.out ?_;intro e7 w7 hr7;obtain⟨v7,Ey3,rfl,hO7,asE,hf7,HB7,hD7⟩:=ag8.UY HB6 hr7;have hP7:=hP6.adS ag8 hA6.symm hf7;have hA7:=(hA6.symm.next hP6 hD7).symm;have hQ7:=hQ6.byX ag8 hf7;have BE7:=hf7.Lj BE6 cQ;have asH:=hO6.byX ag8 hf7;obtain⟨Ab,cb,hvb,-⟩:=hO7.form;subst hvb;refine⟨_,J,HB7,?_⟩;have SO:Hid (Calls prog 25 #[.slice Aa R.2.2.length ca,.slice Ab R.2.2.length cb] w7 (uf (.bool true) w7)):=Y (by
    obtain⟨_,_,e1,r1,_⟩:=asH.form;obtain⟨_,_,e2,r2,_⟩:=hO7.form;injection e1 with e1a e1b e1c;injection e2 with e2a e2b e2c;subst e1a e2a;have:=PZ Aa Ab ca cb R.2.2 R.2.2 w7 r1 r2 I I;simpa using this)
   clear M hP6 ag8 hA6 hQ6 BE6 hO6 hO7 asH hf7 hD7 HCy hr7 HB6;have M:=HB7;simp only[z];refine uO 12 (some 180) 25 #[.slice Aa R.2.2.length ca,.slice Ab R.2.2.length cb] (by kernel_rfl) J J (by kernel_rfl) bm SO.out ?_;rintro _ w9 ⟨rfl,b9⟩;have HB9:=tL HB7 HB7.size b9;have hP9:=Y (hP7.G b9);have amE:=Y (asE.G b9);have hQ9:=Y (hQ7.G b9);have hA9:=Y hA7;have BE9:=BE7.G b9 BE7.lt;refine⟨_,J,HB9,?_⟩;clear M SO hP7 asE hQ7 hA7 BE7 HB7 b9;have M:=HB9;simp only[z];refine uh M 1 [13] J (by kernel_rfl) (fun _ _ _ _ _ h=>h) J J ?_
   (refine aj (.bool false) ?_;simp only[z])
   simp only[vx];refine wpAnyH_done (by kernel_rfl) ?_ _;go_wp2_with fail;go_meet
   case rel=>exact⟨R.1,R.2.1,E3,Ey3,Eq8,hP9,amE,hA9,hQ9,HI2,BE9,HB9⟩
  obtain⟨X2,M2,E3,Ey3,Eq3,HP3,apK,HA3,HQ3,HI3,BE3,HB3⟩:=hcut;obtain⟨w3',rfl⟩:∃w3',w3'=wc:=gp;have D1:=Y (Fx HP3.out.x);have D2:=Y (Fx apK.out.x);have S1:=Y (Fy HP3.out.x);have S2:=Y (Fy apK.out.x);clear HP2 amU HA2 HQ2 BE2 hk HI hhv huu hdd htk hxn;generalize X2.done=dn at*;have hdd:(dn !=dn)=false:=by cases dn<;>rfl
  go_wp2_with fail;refine D1.out.mono ?_;rintro _ wx1 ⟨rfl,rfl⟩;go_wp2_with fail;refine D2.out.mono ?_;rintro _ wx2 ⟨rfl,rfl⟩;go_wp2_with fail;refine S1.out.mono ?_;rintro _ wx3 ⟨rfl,rfl⟩;go_wp2_with fail;refine S2.out.mono ?_;rintro _ wx4 ⟨rfl,rfl⟩;clear D1 D2 S1 S2;go_wp2_with fail;go_roundw
  case rel=>exact⟨k+1,X2,M2,E3,Ey3,Eq3,I,fU,HP3,apK,HA3,HQ3,HI3,BE3,HB3⟩
  case measure=>simp[intOf];omega
 have tQ:¬(k:Int)<=l.length:=I;have OA:=Y (ES g gl aeq x wr HP.out.x);clear HP HA HQ HI HEV hEl BE;go_wp2_with fail;refine OA.out.mono ?_;rintro _ wA ⟨da,rfl,hMa,bA⟩;have OB:=Y (ES gy gly Ey x wA (HPy.out.G bA).x);have HBA:=tL HB HB.size bA;clear OA HPy HB bA;go_wp2_with fail;refine OB.out.mono ?_;rintro _ wB ⟨db,rfl,hMb,bB⟩;have HBB:=tL HBA HBA.size bB;have asN:=hMa.G bB;have hda:=hMa.len;have hdb:=hMb.len;have one:∀{d:List Value},(∀v∈d,v.oneCell'=true)->∀v∈(Value.int .i64 x.vd::d:List Value),v.oneCell'=true:=fun hd v hv=>by
  rcases List.mem_cons.1 hv with rfl|hv
  ·rfl
  ·exact hd v hv
 have oa1:=one hMa.one;have ob1:=one hMb.one;have aru:(Value.int .i64 x.vd::da:List Value).length=15:=by simp[hda]
 have art:(Value.int .i64 x.vd::db:List Value).length=15:=by simp[hdb]
 have zl0:(Value.int .i64 0::uw:List Value).length=15:=jO;have Z1:=(Z.new wB 92 (Value.int .i64 0::uw)).alloc (.cells (Value.int .i64 0::uw).toArray 92);have Z2:=Z.vP (wB.alloc (.cells (Value.int .i64 0::uw).toArray 92)) 92 (Value.int .i64 0::uw) (wB.heap.size+1) ap;have kz:Below wB.heap.size wB ((wB.alloc (.cells (Value.int .i64 0::uw).toArray 92)).alloc (.cells (Value.int .i64 0::uw).toArray 92)):=gA;have asL:=Y hMb;have asM:=Y asN;clear OB HBA bB one hMa hMb asN;go_wp2_with(refine tO (.store 92 (.tmp 19) (.tmp 195)) J (ab J wB.heap.size 0 (Value.int .i64 x.vd::da) Z1 (by rw[aru,zl0];decide) (by rw[aru];exact z9) oa1 ?_));intro u1 B1 g1 sw;clear sw;replace B1:=xG (L:=Value.int .i64 x.vd::da) B1 dK;have Z2':=Z2.grown g1 fl;have k1:=tN kz g1 kz.size (Nat.le_refl _);clear Z1 Z2 kz g1;go_wp2_with(refine tO (.store 92 (.tmp 20) (.tmp 197)) J (ab J (wB.heap.size+1) 0 (Value.int .i64 x.vd::db) Z2' (by rw[art,zl0];decide) (by rw[art];exact z9) ob1 ?_));intro u2 B2' g2 sw;clear sw;replace B2':=xG (L:=Value.int .i64 x.vd::db) B2' dK;have B1':=B1.grown g2 fl;have k2:=tN k1 g2 k1.size I;have SA:=Y (WQ (asM.out.G k2) (asL.out.G k2));rw[decide_eq_true J]at SA;have HF:=Y (tL HBB HBB.size k2);have f1:=B1'.K 0 J;have f2:=B2'.K 0 J;clear B1 Z2' k1 g2 k2 HBB asM asL;generalize x.vd=vd at*;go_wp2_with(first
  |(refine tO (.load 50 (.tmp 204)) rfl ?_;go_must(refine uX 50 (.tmp 204) rfl bm wB.heap.size 1 rfl B1' 14 I _ underlying50 rfl ux da fT ?_))
  |(refine tO (.load 50 (.tmp 206)) rfl ?_;go_must(refine uX 50 (.tmp 206) rfl bm (wB.heap.size+1) 1 rfl B2' 14 I _ underlying50 rfl ux db fT ?_)))
 refine SA.out.mono ?_;rintro _ u3 ⟨rfl,b3⟩;have HG:=Y (tL HF.out HF.out.size b3);clear SA b3 B1' B2' f1 f2;go_wp2_with fail;go_ret;exact uf.mk J HG.out
end Go.Proofs.YthnbcmlnpdabhaaGreat
