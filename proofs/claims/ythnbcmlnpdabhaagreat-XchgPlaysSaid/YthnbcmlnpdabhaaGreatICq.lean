/-
  Layer 21 (setup):Held,where a resolv alone is told.
-/
import Derived.Test.YthnbcmlnpdabhaaGreatIBq
import Derived.Test.YthnbcmlnpdabhaaGreatHXq
import Derived.OwnWalk
namespace Go.Proofs.YthnbcmlnpdabhaaGreat
open _root_.Go.Proofs.Tryz
set_option maxHeartbeats 8000000
open Go.RowKit
set_option maxRecDepth 100000
set_option linter.unusedVariables false
set_option linter.unusedSimpArgs false
variable {w0 w':World} {P:Program} {o:Oper} {a:Act} {v v':Value} {B c:Nat} {A:Option Addr}
structure Rs where
 sv:List vG
 se:List (List (List UInt8))
 so:List (vG×Int)
 nd:Int
 cl:Int
 uG:Int
 ro:Bool
 vc:Bool
 si:Bool
 ed:Bool
def Fa(v1 v2 v3:Value)(r:Rs):List Value:=[v1,v2,v3,.int .i64 r.nd,.int .i64 r.cl,.int .i64 r.uG,.bool r.ro,.bool r.vc,.bool r.si,.bool r.ed]
def uJ(r:Rs):Rs:={r with sv:=if y6 Fp r.sv 3=[]then[yb 127 0 0 1]else y6 Fp r.sv 3,se:=y6 Hl r.se 6,so:=y6 SC r.so 10,nd:=min (max r.nd 0) 15,cl:=min (max r.cl 1) 30,uG:=min (max r.uG 1) 5}
def Dh(w:World)(cs:List Value)(r:Rs):Prop:=∃A1 c1 A2 c2 A3 c3,cs=Fa (.slice A1 r.sv.length c1) (.slice A2 r.se.length c2) (.slice A3 r.so.length c3) r/\adY w A1 r.sv/\Iq w A2 r.se/\ad0 w A3 r.so/\r.sv.length<=17592186044416/\r.se.length<=17592186044416/\r.so.length<=17592186044416
def YN(w0 w:World)(cs:List Value)(r:Rs):Prop:=∃v1 v2 v3,cs=Fa v1 v2 v3 r/\zE w 0 v1 r.sv/\ad1 w0 w 0 v2 r.se/\ae8 w 0 v3 r.so
def acq(w0:World)(r:Rs)(w:World)(e:Ending)(w':World):Prop:=∃cs v1 v2 v3,e= .returned (.agg (cs++[v1,v2,v3]).toArray)/\YN w0 w' cs (uJ r)/\al w w'
theorem Yi(m:Nat)(w:World):Calls prog 135 #[uz,.int .i64 m,.func (.func 136) #[] #[]] w (xX uz w):=by
 unfold uz;go_enter func135,ntmps135;go_wp2_with fail;refine wp_loop_rounds 1 ?_;rw[rounds_succ];exact pv
theorem Yj(m:Nat)(w:World):Calls prog 139 #[uz,.int .i64 m,.func (.func 140) #[] #[]] w (xX uz w):=by
 unfold uz;go_enter func139,ntmps139;go_wp2_with fail;refine wp_loop_rounds 1 ?_;rw[rounds_succ];exact pv
theorem Yk(g:Nat)(c:Nat)(w:World):Calls prog 187 #[.slice (some ⟨g,0,none⟩) 0 c,.int .i64 0,.func (.func 188) #[] #[]] w (xX uz w):=by
 unfold uz;go_enter func187,ntmps187;go_wp2_with fail;refine wp_loop_rounds 1 ?_;rw[rounds_succ];exact pv
theorem Nx(w:World):Calls prog 138 #[uz] w (uI uz w):=by
 have hmk:∀w,(Instr.makeSlice 167 (.int .i64 0) (.int .i64 0)).run prog w= .ok (.slice (some ⟨w.heap.size,0,none⟩) 0 0) (w.alloc (.cells #[] 226)):=fun _=>by kernel_rfl
 have HN:=Y (fun g W=>Yk g 0 W);have HB:Below w.heap.size w (w.alloc (.cells #[] 226)):=gF;unfold uz at HN⊢;go_enter func138,ntmps138;go_wp2_with fail;refine wp_loop_rounds 1 ?_;rw[rounds_succ];go_wp2_with fail;refine(HN.out _ _).mono ?_;rintro _ w2 ⟨rfl,rfl⟩;exact pg
def aeh(w:World)(e:Ending)(w':World):Prop:=∃A n c,e= .returned (.slice A n c)/\al w w'
def acr(k:Int):List Value:=[.int .i64 k,.bool true,.bool false,.bool false,.bool false]
theorem afe:(prog.info? 242).map (·.size)=some 5:=by kernel_rfl
theorem Vm(k:Int)(w:World):Calls prog 186 #[.int .i64 k] w (uI (.agg (acr k).toArray) w):=by
 go_enter func186,ntmps186;go_wp2_with fail;refine xd J w.heap.size J (L:=acr k) ((F.new w 242 (acr k)).alloc _) _ underlying242 J afe J ?_;exact tC
theorem Yl(w:World):Calls prog 137 #[] w (aeh w):=by
 have S:=Y (fun k W=>Vm k W);unfold acr at S;go_enter func137,ntmps137;go_wp2_with fail;refine(S.out 1 _).mono ?_;rintro _ w1 ⟨rfl,b1⟩;go_wp2_with fail;refine(S.out 2 _).mono ?_;rintro _ w2 ⟨rfl,b2⟩;go_wp2_with fail;go_ret;exact⟨_,_,_,J,(um b1 b1.size b2).alloc (by have:=b1.size;have:=b2.size;omega) _⟩
theorem aei:(prog.info? 171).map (·.size)=some 13:=by kernel_rfl
theorem AK:(prog.info? 69).map (·.size)=some 10:=by kernel_rfl
theorem YN.one{w:World}{cs:List Value}{r:Rs}(h:YN w0 w cs r):∀v∈cs,v.oneCell'=true:=by
 obtain⟨v1,v2,v3,rfl,U,X,h3⟩:=h;obtain⟨A1,c1,rfl⟩:=U.form;obtain⟨A2,c2,rfl⟩:=X.form;obtain⟨A3,c3,rfl⟩:=h3.form;intro v hv;simp only[Fa,List.mem_cons,List.not_mem_nil,or_false]at hv;rcases hv with rfl|rfl|rfl|rfl|rfl|rfl|rfl|rfl|rfl|rfl<;>rfl
theorem Kc(w0:World)(cs:List Value)(r:Rs)(w:World)(h:Dh w0 cs r)(hw:al w0 w):Calls prog 87 #[.agg (cs++[uz,uz,uz]).toArray] w (acq w0 r w):=by
 obtain⟨A1,c1,A2,c2,A3,c3,rfl,U,X,h3,l1,l2,l3⟩:=h;have L1:Hid (∀W,al w W->Calls prog 127 #[.slice A1 r.sv.length c1,.int .i64 3,.func (.func 128) #[] #[]] W (Ew 24 18 (fun _=>CY) (y6 Fp r.sv 3) W)):=Y (fun W Z=>XI A1 c1 r.sv 3 W (U.mono (um hw hw.size Z) (fun _ _ h=>h)) l1 az);have L2:Hid (∀W,al w W->Calls prog 130 #[.slice A2 r.se.length c2,.int .i64 6,.func (.func 131) #[] #[]] W (Ew 26 1 (fun _=>NmI w0) (y6 Hl r.se 6) W)):=Y (fun W Z=>XM w0 A2 c2 r.se 6 W X (um hw hw.size Z) l2 az);have L3:Hid (∀W,al w W->Calls prog 132 #[.slice A3 r.so.length c3,.int .i64 10,.func (.func 133) #[] #[]] W (Ew 236 19 (fun _=>PW) (y6 SC r.so 10) W)):=Y (fun W Z=>XK A3 c3 r.so 10 W (h3.mono (um hw hw.size Z) (fun _ _ h=>h)) l3 az);obtain⟨hr1,HR1⟩:∃x,Hid (uJ r=x):=gP;have HR:Hid (uJ r={r with sv:=if y6 Fp r.sv 3=[]then[yb 127 0 0 1]else y6 Fp r.sv 3,se:=y6 Hl r.se 6,so:=y6 SC r.so 10,nd:=min (max r.nd 0) 15,cl:=min (max r.cl 1) 30,uG:=min (max r.uG 1) 5}):=nL;clear U X h3 l1 l2 l3 HR1 hr1 hw;generalize y6 Fp r.sv 3=s1 at*;generalize y6 Hl r.se 6=s2 at*;generalize y6 SC r.so 10=s3 at*;obtain⟨svs,ses,sos,nd,cl,att,ro,vc,si,ed⟩:=r;simp only at L1 L2 L3 HR;simp only[Fa,List.cons_append,List.nil_append];generalize svs.length=n1,ses.length=n2,sos.length=n3 at*;unfold uz;go_enter func87,ntmps87;go_wp2_with fail;obtain⟨afz,hX⟩:∃afz,afz=((w.alloc (.cells #[.slice A1 n1 c1,.slice A2 n2 c2,.slice A3 n3 c3,.int .i64 nd,.int .i64 cl,.int .i64 att,.bool ro,.bool vc,.bool si,.bool ed,.slice none 0 0,.slice none 0 0,.slice none 0 0] 171)).alloc (.cells #[.slice none 0 0,.slice none 0 0,.slice none 0 0,.int .i64 0,.int .i64 0,.int .i64 0,.bool false,.bool false,.bool false,.bool false,.slice none 0 0,.slice none 0 0,.slice none 0 0] 171)).alloc (.cells #[.slice A1 n1 c1,.slice A2 n2 c2,.slice A3 n3 c3,.int .i64 nd,.int .i64 cl,.int .i64 att,.bool ro,.bool vc,.bool si,.bool ed] 69):=gG;rw[<-hX];have HX:al w afz:=by rw[hX];exact(((Below.refl _ _).alloc (Nat.le_refl _) _).alloc ap _).alloc aA _
 obtain⟨cz,hcz⟩:∃cz:List Value,cz=[.slice none 0 0,.slice none 0 0,.slice none 0 0,.int .i64 0,.int .i64 0,.int .i64 0,.bool false,.bool false,.bool false,.bool false,.slice none 0 0,.slice none 0 0,.slice none 0 0]:=gG;have C1:F afz w.heap.size 171 [.slice A1 n1 c1,.slice A2 n2 c2,.slice A3 n3 c3,.int .i64 nd,.int .i64 cl,.int .i64 att,.bool ro,.bool vc,.bool si,.bool ed,.slice none 0 0,.slice none 0 0,.slice none 0 0]:=by rw[hX];exact((F.new w _ _).alloc _).alloc _
 have C2:F afz (w.heap.size+1) 171 cz:=by rw[hX,hcz];exact(F.wE _ _ _ _ ap).alloc _
 have C3:F afz (w.heap.size+1+1) 69 [.slice A1 n1 c1,.slice A2 n2 c2,.slice A3 n3 c3,.int .i64 nd,.int .i64 cl,.int .i64 att,.bool ro,.bool vc,.bool si,.bool ed]:=by rw[hX];exact F.wE _ _ _ _ ap
 have aFO:cz.length=13:=by rw[hcz];rfl
 obtain⟨N,hcl⟩:∃N:List Value,N=[.slice A1 n1 c1,.slice A2 n2 c2,.slice A3 n3 c3,.int .i64 nd,.int .i64 cl,.int .i64 att,.bool ro,.bool vc,.bool si,.bool ed,.slice none 0 0,.slice none 0 0,.slice none 0 0]:=gG;rw[<-hcl]at C1;have k10:N[10]?=some (.slice none 0 0):=ol;have k11:N[11]?=some (.slice none 0 0):=ol;have k12:N[12]?=some (.slice none 0 0):=ol;have h13:w.heap.size≠w.heap.size+1+1:=I;have h23:w.heap.size+1≠w.heap.size+1+1:=I;have h12:w.heap.size<w.heap.size+1:=I;have uw:w.heap.size<=w.heap.size+1+1:=I;clear hX hcz hcl;refine(L1.out _ HX).mono ?_;rintro _ w1 ⟨v1,rfl,o1,b1⟩;replace C1:=C1.G b1 C1.lt;replace C2:=C2.G b1 C2.lt;replace C3:=C3.G b1 C3.lt;have H1:=um HX HX.size b1;replace o1:=uY.zero o1;clear b1 L1 HX;obtain⟨S1,hS1⟩:=ao ((if s1=[]then[yb 127 0 0 1]else s1));rw[hS1.out]at HR;generalize w.heap.size+1+1=g3 at*;generalize w.heap.size+1=g2 at*;obtain⟨Av,cv,hv⟩:=o1.form;subst hv;have d0:=C3.M 0 J;have f0:=C3.frozen 0;go_upto_if 14 with fail;go_cut[] (fun wx=>∃v,zE wx 0 v S1/\F wx w.heap.size 171 N/\F wx g2 171 cz/\F wx g3 69 [v,.slice A2 n2 c2,.slice A3 n3 c3,.int .i64 nd,.int .i64 cl,.int .i64 att,.bool ro,.bool vc,.bool si,.bool ed]/\al w wx)
 case first=>
  by_cases hs:s1=[]
  case pos=>
   subst hs;have hq:S1=[yb 127 0 0 1]:=by rw[<-hS1.out,if_pos J]
   have QO:Hid (∀W,Calls prog 129 #[.int .u8 127,.int .u8 0,.int .u8 0,.int .u8 1] W (uI (.agg (yb 127 0 0 1).cells.toArray) W)):=Y (fun W=>Le 127 0 0 1 W);have HQ:=Y hq;have hql:(yb 127 0 0 1).cells.length=18:=rfl;have HI:Hid (CY (yb 127 0 0 1).cells (yb 127 0 0 1)):=Y ⟨J,J⟩;clear hq hS1 HR;generalize yb 127 0 0 1=qa at*;generalize qa.cells=qc at*;go_wp2_with fail;refine(QO.out _).mono ?_;rintro _ w2 ⟨rfl,b2⟩;have G1:=vp w1 g3 0 (.slice Av 0 cv);have E1:=(C1.y7 (p:=⟨g3,0,none⟩) h13 (.slice Av 0 cv)).G b2 (C1.y7 (p:=⟨g3,0,none⟩) h13 _).lt;have E2:=(C2.y7 (p:=⟨g3,0,none⟩) h23 (.slice Av 0 cv)).G b2 (C2.y7 (p:=⟨g3,0,none⟩) h23 _).lt;have E3:=(C3.set 0 (.slice Av 0 cv)).G b2 (C3.set 0 _).lt;simp only[List.set_cons_zero]at E3;have H2:=um (uq H1 G1 H1.size uw) (by simp[World.setCell];exact H1.size) b2;clear QO b2 G1 C1 C2 C3 d0 f0 L2 L3 o1;go_wp2_with(refine ur (.buildSlice 65 1 #[(0,.tmp 15)]) J ?_;go_must(refine CX J 65 24 _ 18 32 underlying65 zr az az (.tmp 15) J qc J hql ?_));intro w3 B4 KA;have O5:=uY.one 18 B4 hql HI.out;replace E1:=E1.G KA E1.lt;replace E2:=E2.G KA E2.lt;replace E3:=E3.G KA E3.lt;have H3:=um H2 H2.size KA;have e30:=E3.M 0 J;have e3f:=E3.frozen 0;clear HI KA H2 B4;go_wp2_with fail;go_meet
   case rel=>refine⟨_,?_,E1.y7 h13 _,E2.y7 h23 _,E3.set 0 _,uq H3 (vp _ _ _ _) H3.size uw⟩;exact ud
  case neg=>
   have hs0:0<s1.length:=by cases s1 with|nil=>exact absurd rfl hs|cons _ _=>simp
   have hs1:((s1.length:Int)==0)=false:=by simp;exact hs
   have hq:S1=s1:=by rw[<-hS1.out,if_neg hs]
   have HQ:=Y hq;clear hq hS1 HR hs;obtain⟨ln,hln⟩:=ao s1.length;rw[hln.out]at o1 hs0 hs1⊢;go_wp2_with fail;go_meet
   case rel=>refine⟨_,?_,C1.y7 h13 _,C2.y7 h23 _,C3.set 0 _,uq H1 (vp _ _ _ _) H1.size uw⟩;rw[HQ.out];exact o1.vj (vp _ _ _ _) C3 az
 case rest=>
  obtain⟨v1,p1,E1,E2,E3,H2⟩:=hcut;clear C1 C2 C3 d0 f0 H1 o1 hS1;generalize wc=w2 at*;have d1:=E3.M 1 J;obtain⟨Aw,cw,hv⟩:=p1.form;subst hv;go_wp2_with fail;refine(L2.out _ H2).mono ?_;rintro _ w3 ⟨v2,rfl,o2,b3⟩;replace p1:=uY.G (R':=CY) p1 b3 (fun _ _ h=>h);have F1:=E1.G b3 E1.lt;have F2:=E2.G b3 E2.lt;have F3:=E3.G b3 E3.lt;have H3:=um H2 H2.size b3;replace o2:=uY.zero o2;obtain⟨Ax,cx,hv⟩:=o2.form;subst hv;have d2:=F3.M 2 J;have e1:=F3.M 1 J;have ef:=F3.frozen 1;clear L2 b3 E1 E2 E3 d1 H2;go_wp2_with fail;refine(L3.out _ (uq H3 (vp _ _ _ _) H3.size uw)).mono ?_;rintro _ w4 ⟨v3,rfl,o3,b4⟩;have K3:=vp w3 g3 1 (.slice Ax s2.length cx);have G1:=(F1.y7 (p:=⟨g3,1,none⟩) h13 (.slice Ax s2.length cx)).G b4 (F1.y7 (p:=⟨g3,1,none⟩) h13 _).lt;have G2:=(F2.y7 (p:=⟨g3,1,none⟩) h23 (.slice Ax s2.length cx)).G b4 (F2.y7 (p:=⟨g3,1,none⟩) h23 _).lt;have G3:=(F3.set 1 (.slice Ax s2.length cx)).G b4 (F3.set 1 _).lt;replace p1:=uY.G (R':=CY) (p1.vj K3 F3 az) b4 (fun _ _ h=>h);replace o2:=uY.G (R':=NmI w0) (o2.vj K3 F3 az) b4 (fun _ _ h=>h);replace o3:=uY.zero o3;have H4:=um (uq H3 K3 H3.size uw) (by simp[World.setCell];exact H3.size) b4;simp only[List.set_cons_zero,List.set_cons_succ]at G3;obtain⟨Ay,cy,hv⟩:=o3.form;subst hv;have d2:=G3.M 2 J;have d3:=G3.M 3 J;have d4:=G3.M 4 J;have d5:=G3.M 5 J;have f2:=G3.frozen 2;have f3:=G3.frozen 3;have f4:=G3.frozen 4;have f5:=G3.frozen 5;have d11:=G1.M 11 k11;clear K3 b4 F1 F2 F3 e1 ef L3 H3;go_wp2_with fail;refine(Ji nd 0 15 _).mono ?_;rintro _ _ ⟨rfl,rfl⟩;go_wp2_with fail;refine(Ji cl 1 30 _).mono ?_;rintro _ _ ⟨rfl,rfl⟩;go_wp2_with fail;refine(Ji att 1 5 _).mono ?_;rintro _ _ ⟨rfl,rfl⟩;go_wp2_with fail;have LS:Hid (∀W,Calls prog 135 #[.slice none 0 0,.int .i64 8,.func (.func 136) #[] #[]] W (xX (.slice none 0 0) W)):=Y (fun W=>Yi 8 W);have HH:Hid (∀W,Calls prog 138 #[.slice none 0 0] W (uI (.slice none 0 0) W)):=Y (fun W=>Nx W);have LV:Hid (∀W,Calls prog 139 #[.slice none 0 0,.int .i64 0,.func (.func 140) #[] #[]] W (xX (.slice none 0 0) W)):=Y (fun W=>Yj 0 W);refine(LS.out _).mono ?_;rintro _ _ ⟨rfl,rfl⟩;go_wp2_with fail;refine(Yl _).mono ?_;rintro _ w5 ⟨Az,nz,cz',rfl,b5⟩;have Q1:=G1.y7 (p:=⟨g3,2,none⟩) h13 (.slice Ay s3.length cy)|>.y7 (p:=⟨g3,3,none⟩) h13 (.int .i64 (min (max nd 0) 15))|>.y7 (p:=⟨g3,4,none⟩) h13 (.int .i64 (min (max cl 1) 30))|>.y7 (p:=⟨g3,5,none⟩) h13 (.int .i64 (min (max att 1) 5));have Q2:=G2.y7 (p:=⟨g3,2,none⟩) h23 (.slice Ay s3.length cy)|>.y7 (p:=⟨g3,3,none⟩) h23 (.int .i64 (min (max nd 0) 15))|>.y7 (p:=⟨g3,4,none⟩) h23 (.int .i64 (min (max cl 1) 30))|>.y7 (p:=⟨g3,5,none⟩) h23 (.int .i64 (min (max att 1) 5));have Q3:=G3.set 2 (.slice Ay s3.length cy)|>.set 3 (.int .i64 (min (max nd 0) 15))|>.set 4 (.int .i64 (min (max cl 1) 30))|>.set 5 (.int .i64 (min (max att 1) 5));simp only[List.set_cons_zero,List.set_cons_succ]at Q3;have KQ:w4.grownBy _ (some g3):=uS (uS (uS (vp w4 g3 2 (.slice Ay s3.length cy)) 3 (.int .i64 (min (max nd 0) 15))) 4 (.int .i64 (min (max cl 1) 30))) 5 (.int .i64 (min (max att 1) 5));replace p1:=uY.G (R':=CY) (p1.vj KQ G3 az) b5 (fun _ _ h=>h);replace o2:=uY.G (R':=NmI w0) (o2.vj KQ G3 az) b5 (fun _ _ h=>h);replace o3:=uY.G (R':=PW) (o3.vj KQ G3 az) b5 (fun _ _ h=>h);have H5:=um (uq H4 KQ H4.size uw) (by simp[World.setCell];exact H4.size) b5;replace Q1:=Q1.G b5 Q1.lt;replace Q2:=Q2.G b5 Q2.lt;replace Q3:=Q3.G b5 Q3.lt;clear KQ b5 G1 G2 G3 d2 d3 d4 d5 f2 f3 f4 f5 d11 H4 LS;go_wp2_with fail;obtain⟨R,hR⟩:∃R:List Value,R=[.slice Aw S1.length cw,.slice Ax s2.length cx,.slice Ay s3.length cy,.int .i64 (min (max nd 0) 15),.int .i64 (min (max cl 1) 30),.int .i64 (min (max att 1) 5),.bool ro,.bool vc,.bool si,.bool ed]:=gG;rw[<-hR]at Q3;have hRl:R.length=10:=by rw[hR];rfl
  have RO:Hid (∀W W',al w5 W->W.grownBy W' (some g2)->F W g2 171 cz->YN w0 W' R (uJ ⟨svs,ses,sos,nd,cl,att,ro,vc,si,ed⟩)):=Y (fun W W' Z hg z=>by
   rw[HR.out];exact⟨_,_,_,hR,(uY.G (R':=CY) p1 Z (fun _ _ h=>h)).vj hg z az,(uY.G (R':=NmI w0) o2 Z (fun _ _ h=>h)).vj hg z az,(uY.G (R':=PW) o3 Z (fun _ _ h=>h)).vj hg z az⟩)
  have RON:Hid (∀v∈R,v.oneCell'=true):=Y (fun v hv=>by
   rw[hR]at hv;simp only[List.mem_cons,List.not_mem_nil,or_false]at hv;rcases hv with rfl|rfl|rfl|rfl|rfl|rfl|rfl|rfl|rfl|rfl<;>rfl)
  have RB:Hid (∀W,(Instr.build 171 #[(0,.agg R.toArray),(1,.slice none 0 0),(2,.slice Az nz cz'),(3,.slice none 0 0)]).run prog W= .ok (.agg (R++[Value.slice none 0 0,Value.slice Az nz cz',Value.slice none 0 0]).toArray) W):=Y (fun W=>by rw[hR];kernel_rfl);clear hR HR p1 o2 o3;refine wp_region_held_drew (S:=fun V=>F V w.heap.size 171 N/\F V g3 69 R) (by kernel_rfl) ⟨Q1.drew,Q3.drew⟩ (fun K=>?_);have HD:Below w5.heap.size w5 w5.drew:=iQ;refine uL K 9 [0,1,2,4,5,6,7,8,9] J (by kernel_rfl) (fun _ _ _ _ _ h=>h) J J ?_
  (refine ah _ J J (fun V hV=>(uP 69 (.tmp 3) ⟨g3,0,none⟩ J J (hV.2.wS 69 0 10 I _ underlying69 J AK R (wP I)))) ?_;simp only[E])
  repeat(refine aj _ ?_;simp only[E])
  (refine ah _ J J (fun V hV=>(uP 167 (.tmp 46) ⟨w.heap.size,10,none⟩ J J (uB underlying167 J (hV.1.M 10 k10)))) ?_;simp only[E])
  repeat(refine aj _ ?_;simp only[E])
  (refine ah _ J J (fun V hV=>(uP 169 (.tmp 50) ⟨w.heap.size,12,none⟩ J J (uB underlying169 J (hV.1.M 12 k12)))) ?_;simp only[E])
  repeat(refine aj _ ?_;simp only[E])
  (refine ah _ J J (fun V hV=>(uP 169 (.tmp 52) ⟨w.heap.size,12,none⟩ J J (uB underlying169 J (hV.1.M 12 k12)))) ?_;simp only[E])
  (refine ah (.int .i64 0) J J (fun V hV=>(by kernel_rfl)) ?_;simp only[E])
  simp only[vY];refine vx 3 (some 48) 138 #[.slice none 0 0] (by kernel_rfl) J J (by kernel_rfl) bp (HH.out _) ?_;rintro _ w6 ⟨rfl,b6⟩;have K:F w6 w.heap.size 171 N/\F w6 g3 69 R:=⟨K.1.G b6 K.1.lt,K.2.G b6 K.2.lt⟩;have HD:=um HD HD.size b6;refine⟨_,J,K,?_⟩;simp only[E];refine vx 10 (some 55) 139 #[.slice none 0 0,.int .i64 0,.func (.func 140) #[] #[]] (by kernel_rfl) J J (by kernel_rfl) bp (LV.out _) ?_;rintro _ _ ⟨rfl,rfl⟩;refine⟨_,J,K,?_⟩;simp only[E];refine uL K 1 [11] J (by kernel_rfl) (fun _ _ _ _ _ h=>h) J J ?_
  (refine ah (.agg (R++[Value.slice none 0 0,Value.slice Az nz cz',Value.slice none 0 0]).toArray) J J (fun V hV=>(Mw 171 _ J #[(0,.agg R.toArray),(1,.slice none 0 0),(2,.slice Az nz cz'),(3,.slice none 0 0)] (by kernel_rfl) (RB.out V))) ?_;simp only[E])
  simp only[vY];have agj:∀v∈R++[Value.slice none 0 0,Value.slice Az nz cz',Value.slice none 0 0],v.oneCell'=true:=by
   intro v hv;rcases List.mem_append.1 hv with h|h
   ·exact RON.out v h
   ·simp only[List.mem_cons,List.not_mem_nil,or_false]at h;rcases h with rfl|rfl|rfl<;>rfl
  have hfl:(R++[Value.slice none 0 0,Value.slice Az nz cz',Value.slice none 0 0]).length=13:=by simp[hRl]
  refine wu 12 none 171 (.tmp 2) (.tmp 56) (by kernel_rfl) J J J (by kernel_rfl) g2 0 J (R++[Value.slice none 0 0,Value.slice Az nz cz',Value.slice none 0 0]) J (Q2.G HD Q2.lt) I eu agj ?_;intro w7 B7 g7 s7;rw[List.take_zero,List.nil_append,Nat.zero_add]at B7;have B7':=xA B7 I;have H7:=uq (um H5 H5.size HD) g7 (by have:=H5.size;have:=HD.size;omega) (Nat.le_of_lt h12);have RF:=Y (RO.out _ _ HD g7 (Q2.G HD Q2.lt));refine⟨⟨K.1.grown g7 aA,K.2.grown g7 aA⟩,?_⟩;simp only[E];refine wpAnyH_done (by kernel_rfl) ?_ _;go_wp2_with fail;refine xd J g2 J B7' _ underlying171 J eu J ?_;exact⟨R,_,_,_,J,RF.out,H7⟩
def aff(w0:World)(r:Rs)(w:World)(e:Ending)(w':World):Prop:=∃cs,e= .returned (.agg cs.toArray)/\YN w0 w' cs r/\al w w'
theorem YN.len{w:World}{cs:List Value}{r:Rs}(h:YN w0 w cs r):cs.length=10:=by obtain⟨_,_,_,rfl,_⟩:=h;rfl
theorem Dh.len{w:World}{cs:List Value}{r:Rs}(h:Dh w cs r):cs.length=10:=by obtain⟨_,_,_,_,_,_,rfl,_⟩:=h;rfl
theorem Dh.G{w:World}{cs:List Value}{r:Rs}(h:Dh w cs r)(Z:al w w'):Dh w' cs r:=by
 obtain⟨A1,c1,A2,c2,A3,c3,h0,U,X,h3,l⟩:=h;exact⟨A1,c1,A2,c2,A3,c3,h0,U.mono Z (fun _ _ h=>h),XL X Z,h3.mono Z (fun _ _ h=>h),l⟩
theorem YN.G{w:World}{cs:List Value}{r:Rs}(h:YN w0 w cs r)(Z:al w w'):YN w0 w' cs r:=by
 obtain⟨v1,v2,v3,h0,U,X,h3⟩:=h;exact⟨v1,v2,v3,h0,uY.G U Z (fun _ _ h=>h),uY.G X Z (fun _ _ h=>h),uY.G h3 Z (fun _ _ h=>h)⟩
theorem MD(A1 A2 A3:Option Addr)(n1 c1 n2 c2 n3 c3:Nat)(r:Rs)(W:World):(Instr.build 171 #[(0,.agg (Fa (.slice A1 n1 c1) (.slice A2 n2 c2) (.slice A3 n3 c3) r).toArray)]).run prog W= .ok (.agg (Fa (.slice A1 n1 c1) (.slice A2 n2 c2) (.slice A3 n3 c3) r++[uz,uz,uz]).toArray) W:=by kernel_rfl
theorem aaR(a b c d e f g h i j v1 v2 v3:Value)(W:World):(Instr.field 171 (.agg ([a,b,c,d,e,f,g,h,i,j]++[v1,v2,v3]).toArray) 0).run prog W= .ok (.agg [a,b,c,d,e,f,g,h,i,j].toArray) W:=by kernel_rfl
theorem WC(cs:List Value)(h:cs.length=10)(v1 v2 v3:Value)(W:World):(Instr.field 171 (.agg (cs++[v1,v2,v3]).toArray) 0).run prog W= .ok (.agg cs.toArray) W:=by
 match cs,h with
 |[a,b,c,d,e,f,g,h,i,j],_=>exact aaR ..
theorem Da{ops:Array Oper}{rest:List Oper}{w:World}{Q:Exit->Act->World->Prop}(hgd:o.guard=none)(t:TypeId)(x:Operand)(f:Nat)(ho:o.op= .field t x f)(hx:a.eval x=v)(hr:(Instr.field t v f).run P w= .ok v' w)(h:wpList P ops Q rest (a.put o.dst v') w):wpList P ops Q (o::rest) a w:=by
 exact rW
theorem IL(w0:World)(cs:List Value)(r:Rs)(w:World)(h:Dh w0 cs r)(hw:al w0 w):Calls prog 96 #[.agg cs.toArray] w (aff w0 (uJ r) w):=by
 have hl:=h.len;have HD:=Y (fun W Z=>Kc w0 cs r W h (um hw hw.size Z));have RB:Hid (∀W,(Instr.build 171 #[(0,.agg cs.toArray)]).run prog W= .ok (.agg (cs++[uz,uz,uz]).toArray) W):=Y (fun W=>by obtain⟨A1,c1,A2,c2,A3,c3,rfl,_⟩:=h;exact MD ..);clear h hw;have HX:Below w.heap.size w ((w.alloc (.cells cs.toArray 69)).alloc (.cells (Fa uz uz uz ⟨[],[],[],0,0,0,false,false,false,false⟩).toArray 69)):=gJ;have B1:=(F.new w 69 cs).alloc (.cells (Fa uz uz uz ⟨[],[],[],0,0,0,false,false,false,false⟩).toArray 69);have B2:=F.wE (w.alloc (.cells cs.toArray 69)) 69 (Fa uz uz uz ⟨[],[],[],0,0,0,false,false,false,false⟩) (w.heap.size+1) ap;have hz:(Fa uz uz uz ⟨[],[],[],0,0,0,false,false,false,false⟩).length=10:=rfl;have hg:w.heap.size<=w.heap.size+1:=I;obtain⟨W0,hW⟩:∃W0,W0=(w.alloc (.cells cs.toArray 69)).alloc (.cells (Fa uz uz uz ⟨[],[],[],0,0,0,false,false,false,false⟩).toArray 69):=gG;have HW:=Y hW;rw[<-hW]at HX B1 B2;clear hW;go_enter func96,ntmps96;go_wp2_with(first
  |(refine ur (.load 69 (.tmp 1)) rfl ?_;go_must(refine uu rfl _ _ rfl w.heap.size 0 rfl ((F.new w 69 cs).alloc _) 10 I _ underlying69 rfl AK cs (wP I) ?_))
  |(refine ur (.build 171 #[(0,.tmp 3)]) rfl ?_;go_must(refine wi rfl 171 _ rfl #[(0,.agg cs.toArray)] ee (RB.out _) ?_)))
 refine(HD.out _ (by rw[HW.out]at HX;exact HX)).mono ?_;rintro _ w1 ⟨cs1,v1,v2,v3,rfl,ho,b1⟩;have b1':al W0 w1:=by rw[HW.out];exact b1
 have B2':=B2.G b1' B2.lt;have H1:=um HX HX.size b1';have hl1:=ho.len;have ho1:=Y ho.one;have HO:=Y ho;clear b1 b1' B1 B2 ho HX HW HD RB;generalize w.heap.size+1=g2 at*;go_wp2_with(first
  |(refine ur (.field 171 (.tmp 5) 0) rfl ?_;go_must(refine Da rfl 171 (.tmp 5) 0 rfl rfl (WC cs1 hl1 v1 v2 v3 _) ?_))
  |(refine ur (.store 69 (.tmp 2) (.tmp 6)) rfl (ab rfl g2 0 cs1 B2' I ew ho1.out ?_)))
 intro w2 B3 g3 _;have B3':=xA B3 I;have H2:=uq H1 g3 H1.size hg;go_wp2_with fail;refine xd J g2 J B3' _ underlying69 J ew J ?_;refine⟨cs1,J,?_,H2⟩;obtain⟨u1,u2,u3,h0,U,X,h3⟩:=HO.out;exact⟨u1,u2,u3,h0,U.vj g3 B2' az,X.vj g3 B2' az,h3.vj g3 B2' az⟩
def BT(l:List vG):List Value:=(l.map vG.cells).flatten
theorem IM(a b:List vG):BT (a++b)=BT a++BT b:=by simp[BT]
theorem AM:∀(l:List vG),(∀a∈l,a.ip.length=16)->(BT l).length=l.length*18
 |[],_=>rfl
 |a::l,h=>by
  have U:=AM l (fun x hx=>h x (List.mem_cons_of_mem _ hx));have X:=a.uT (h a (List.mem_cons_self ..));show(a.cells++BT l).length=_;rw[List.length_append,U,X,List.length_cons];omega
theorem ME(l:List vG):∀v∈BT l,v.oneCell'=true:=by
 intro v hv;obtain⟨c,hc,hv⟩:=List.mem_flatten.1 hv;obtain⟨a,_,rfl⟩:=List.mem_map.1 hc;exact a.xW v hv
theorem MF:∀{uo:List (List Value)} {l:List vG},Ci CY uo l->uo.flatten=BT l/\∀a∈l,a.ip.length=16
 |[],[],_=>⟨J,ap⟩
 |cs::uo,a::l,h=>by
  obtain⟨U,X⟩:=MF h.2;obtain⟨h3,h4⟩:=h.1;refine⟨?_,?_⟩
  ·show cs++uo.flatten=a.cells++BT l;rw[U,h3]
  ·
   intro x hx;rcases List.mem_cons.1 hx with rfl|hx
   ·exact h4
   ·exact X x hx
theorem WD:∀(l:List vG),(∀a∈l,a.ip.length=16)->Ci CY (l.map vG.cells) l
 |[],_=>trivial
 |a::l,h=>⟨⟨J,h a (List.mem_cons_self ..)⟩,WD l (fun x hx=>h x (List.mem_cons_of_mem _ hx))⟩
theorem zE.ip{w:World}{l:List vG}(h:zE w B v l):∀a∈l,a.ip.length=16:=by obtain⟨uo,_,X⟩:=h;exact(MF X).2
theorem zE.own{w:World}{l:List vG}(h:zE w B v l):w.ownsRow B 24 18 v l.length (BT l):=by obtain⟨uo,U,X⟩:=h;rw[(MF X).1]at U;exact U
theorem zE.mk{w:World}{l:List vG}(h:w.ownsRow B 24 18 v l.length (BT l))(hi:∀a∈l,a.ip.length=16):zE w B v l:=⟨l.map vG.cells,h,WD l hi⟩
theorem zE.piece{w:World}{l:List vG}(h:zE w B (.slice A l.length c) l)(k n:Nat)(z:k+n<=l.length)(hl:0<l.length):∃g,A=some ⟨g,0,none⟩/\g<w.heap.size/\w.rangeAt g (0+k*18) (BT ((l.drop k).take n)):=by
 have hi:=h.ip;have ho:=h.own;obtain⟨g,L,hA,Z,ht,_⟩:=AY ho hl (AM l hi);refine⟨g,hA,Z.lt,?_⟩;have e:l=l.take k++((l.drop k).take n++(l.drop k).drop n):=by rw[List.take_append_drop,List.take_append_drop]
 have U:(BT (l.take k)).length=k*18:=by rw[AM _ (fun a ha=>hi a (List.mem_of_mem_take ha))];simp;omega
 have X:(BT ((l.drop k).take n)).length=n*18:=by rw[AM _ (fun a ha=>hi a (List.mem_of_mem_drop (List.mem_of_mem_take ha)))];simp;omega
 have agp:(L.drop (k*18)).take (n*18)=BT ((l.drop k).take n):=by
  have e2:(L.take (l.length*18)).drop (k*18)=(L.drop (k*18)).take (l.length*18-k*18):=List.drop_take ..;have e3:((L.take (l.length*18)).drop (k*18)).take (n*18)=BT ((l.drop k).take n):=by
   rw[ht]
   conv=>lhs;rw[e,IM,IM]
   rw[<-U,List.drop_left,<-X,List.take_left]
  rw[e2,List.take_take,Nat.min_eq_left (by have:=Nat.mul_le_mul_right 18 z;rw[Nat.add_mul]at this;omega)]at e3;exact e3
 rw[<-agp,Nat.zero_add];refine Z.range _ _ ?_;have hLl:l.length*18<=L.length:=by have:=congrArg List.length ht;rw[AM l hi,List.length_take]at this;omega
 have:=Nat.mul_le_mul_right 18 z;rw[Nat.add_mul]at this;omega
theorem acs{w:World}{e:TypeId}{s:Nat}{n:Nat}{xs:List Value}(h:w.ownsRow B e s (.slice A n c) n xs):n<=c:=by
 rcases h.2 with⟨h,h0⟩|⟨g,cap,cur,hv,_,_,hc,_⟩
 ·injection h with _ _ h;omega
 ·injection hv with _ _ h;omega
def zx(r:Rs)(turn:Int):Nat:=if r.ro then(IntKind.u64.wrap turn% (uJ r).sv.length).toNat else 0
def xQ(r:Rs)(turn:Int):List vG:=(uJ r).sv.drop (zx r turn)++(uJ r).sv.take (zx r turn)
theorem Gt(r:Rs):0<(uJ r).sv.length/\(uJ r).sv.length<=3:=by
 unfold uJ;simp only;split
 ·exact⟨ap,ap⟩
 ·rename_i h;refine⟨List.length_pos_iff.2 h,?_⟩;unfold y6;simp;omega
theorem KJ(r:Rs)(turn:Int):zx r turn<(uJ r).sv.length:=by
 have h:=(Gt r).1;unfold zx;split
 ·have U:=Int.emod_lt_of_pos (IntKind.u64.wrap turn) (show(0:Int)<(uJ r).sv.length by omega);have X:=Int.emod_nonneg (IntKind.u64.wrap turn) (show((uJ r).sv.length:Int)≠0 by omega);omega
 ·exact h
theorem afg:∃i,prog.info? 24=some i/\i.zero=some (.agg vG.zero.cells.toArray)/\i.size=18/\i.bytes=32:=info_parts zr
def Vn(l:List vG)(w:World)(e:Ending)(w':World):Prop:=∃v,e= .returned v/\zE w' 0 v l/\al w w'
theorem Tl(w0:World)(cs:List Value)(r:Rs)(turn:Int)(w:World)(h:Dh w0 cs r)(hw:al w0 w):Calls prog 141 #[.agg cs.toArray,.int .i64 turn] w (Vn (xQ r turn) w):=by
 have hl:=h.len;have HD:=Y (fun W Z=>IL w0 cs r W h (um hw hw.size Z));obtain⟨hn0,hn3⟩:=Gt r;have hat:=KJ r turn;have HT:Hid (zx r turn=if r.ro then(IntKind.u64.wrap turn% (uJ r).sv.length).toNat else 0):=nL;have HS:Hid (xQ r turn=(uJ r).sv.drop (zx r turn)++(uJ r).sv.take (zx r turn)):=nL;have hro:(uJ r).ro=r.ro:=rfl;have HRO:=Y hro;clear h hw hro;generalize zx r turn=uG at*;have HB:Below w.heap.size w (w.alloc (.cells cs.toArray 69)):=gF;go_enter func141,ntmps141;go_wp2_with(refine ur (.load 69 (.tmp 2)) J ?_;go_must(refine uu J _ _ J w.heap.size 0 J (F.new w 69 cs) 10 I _ underlying69 J AK cs (wP I) ?_));refine(HD.out _ HB).mono ?_;rintro _ w1 ⟨cs1,rfl,ho,b1⟩;have B1:=(F.new w 69 cs).G b1 (F.new _ _ _).lt;have H1:=um HB HB.size b1;have hl1:=ho.len;have ho1:=Y ho.one;have HO:=Y ho;clear b1 ho HB HD;go_wp2_with(refine ur (.store 69 (.tmp 2) (.tmp 9)) J (ab J w.heap.size 0 cs1 B1 I ew ho1.out ?_));intro w2 B3 g3 sw;clear sw;have B2:=xA B3 I;have H2:=uq H1 g3 H1.size (Nat.le_refl _);obtain⟨v1,v2,v3,hS,p1,p2,p3⟩:=HO.out;replace p1:=p1.vj g3 B1 az;obtain⟨A,c,hv⟩:=p1.form;rw[hv]at p1 hS;have d0:=B2.M 0 (u:=.slice A (uJ r).sv.length c) bI;have d6:=B2.M 6 (u:=.bool (uJ r).ro) bI;rw[HRO.out]at d6;clear hS hv p2 p3 HO B3 g3 B1 H1 ho1 B2;generalize(uJ r).sv=S at*;have hwn:IntKind.u64.wrap (S.length:Int)=S.length:=gV;have DV:=Y (Fq turn S.length I I);have axV:¬(S.length:Int)=0:=I;go_upto_region 4 with fail;go_cut[18] (fun v wx=>v= .bool r.ro/\wx=w2)
 case first=>
  cases hro:r.ro with
  |true=>exact tq
  |false=>exact tq
 obtain⟨rfl,rfl⟩:=hcut;go_upto_if 18 with fail;go_cut[6] (fun v wx=>v= .int .i64 uG/\wx=wc)
 case first=>
  cases hro:r.ro with
  |true=>
   rw[hro]at HT d6;clear hro HRO;go_wp2_with fail;go_meet
   case rel=>refine⟨?_,J⟩;rw[DV.out];exact rG
  |false=>
   rw[hro]at HT d6;clear hro HRO;go_wp2_with fail;go_meet
   case rel=>have X:=HT.out;simp only[Bool.false_eq_true,if_false]at X;exact⟨by rw[X];rfl,J⟩
 case rest=>
  obtain⟨rfl,rfl⟩:=hcut;clear d6 HT DV hwn;obtain⟨ai,ai1,ai2,ai3,ai4⟩:=afg;go_wp2_with(refine ur (.makeSlice 65 (.const (.int .i64 0)) (.tmp 25)) J ?_;go_must(refine wpList_make_own wc J _ _ 65 J wc.heap.size 24 ai _ 18 underlying65 ai1 ai2 ai3 .i64 .i64 (S.length:Int) S.length J J J (by rw[ai4];omega) aK (Nat.le_refl _) ?_));intro w3 o3 g3;have K3:al wc w3:=⟨g3.os,g3.tape,g3.output,g3.size,fun i hi=>g3.block i hi ap⟩;have p3:=uY.G (R':=CY) p1 K3 (fun _ _ h=>h);have e0:w3.cell? ⟨w.heap.size,0,none⟩=some (.slice A S.length c):=by rw[<-d0];exact K3.cell (p:=⟨w.heap.size,0,none⟩) (Pz d0)
  have H3:=um H2 H2.size K3;obtain⟨gs,hA,hgs,hr1⟩:=zE.piece p1 uG (S.length-uG) I I;obtain⟨_,hA2,_,hr2⟩:=zE.piece p1 0 uG I I;rw[hA]at hA2;injection hA2 with hA2;injection hA2 with hA2;subst hA2;subst hA;have ajt:=K3.size;have aFQ:w.heap.size<wc.heap.size:=Pz d0;replace hr1:=uD hr1 K3 hgs;replace hr2:=uD hr2 K3 hgs;rw[Nat.zero_add]at hr1;rw[Nat.zero_mul,Nat.add_zero]at hr2;have h2:=zE.ip p3;have agT:=acs (zE.own p3);have hca:¬c=uG:=I;have hac:uG<=c:=I;have aGE:(uG:Int)<=c:=I;have hwc:w.heap.size<=wc.heap.size:=H2.size;have l1:(BT ((S.drop uG).take (S.length-uG))).length=(S.length-uG)*18:=by rw[AM _ (fun a ha=>h2 a (List.mem_of_mem_drop (List.mem_of_mem_take ha)))];simp
  have l2:(BT ((S.drop 0).take uG)).length=uG*18:=by rw[AM _ (fun a ha=>h2 a (List.mem_of_mem_drop (List.mem_of_mem_take ha)))];simp;omega
  have aj0:S.length-uG+uG=S.length:=I;have FIN:Hid (BT ((S.drop uG).take (S.length-uG))++BT ((S.drop 0).take uG)=BT (xQ r turn)/\(xQ r turn).length=S.length/\∀a∈xQ r turn,a.ip.length=16):=Y (by
   rw[HS.out];refine⟨?_,aA,?_⟩
   ·rw[<-IM,List.drop_zero,List.take_of_length_le ap]
   ·
    intro a ha;rcases List.mem_append.1 ha with h|h
    ·exact h2 a (List.mem_of_mem_drop h)
    ·
     exact h2 a (List.mem_of_mem_take h))
  have o1:=ME ((S.drop uG).take (S.length-uG));have o2:=ME ((S.drop 0).take uG);clear K3 g3 d0 p1 ai1 ai2 ai3 ai4 h2 agT;generalize BT ((S.drop uG).take (S.length-uG))=N1 at*;generalize BT ((S.drop 0).take uG)=N2 at*;go_wp2_with(at_builtin;go_must(refine zS w3 J (.tmp 27) (.tmp 31) 65 J 24 _ 18 32 underlying65 zr (by kernel_rfl) az wc.heap.size _ 0 [] J o3 ajt (some ⟨gs,uG*18,none⟩) (S.length-uG) (c-uG) N1 (by simp[Act.eval,hca]) (fun _=>⟨gs,uG*18,J,hr1⟩) l1 o1 aK I _ J ?_));intro A4 c4 w4 o4 g4;have g4':w3.grownBy w4 (some wc.heap.size):=g4;have axH:w4.rangeAt gs 0 N2:=fun j v hv=>by rw[<-hr2 j v hv];exact y8 g4' ⟨gs,_,none⟩ aA aA
  have e0':w4.cell? ⟨w.heap.size,0,none⟩=some (.slice (some ⟨gs,0,none⟩) S.length c):=by rw[<-e0];exact y8 g4' ⟨w.heap.size,0,none⟩ aA aA
  have H4:=uq H3 g4' H3.size hwc;have asr:=g4'.size;clear g4 g4' e0 hr1 hr2 o3 H3 hca;go_wp2_with(at_builtin;go_must(refine zS w4 J (.tmp 33) (.tmp 37) 65 J 24 _ 18 32 underlying65 zr (by kernel_rfl) az wc.heap.size _ (S.length-uG) N1 (by simp[Act.eval]) o4 (Nat.le_trans ajt asr) (some ⟨gs,0,none⟩) uG c N2 (by simp[Act.eval]) (fun _=>⟨gs,0,J,axH⟩) l2 o2 aK I S.length aj0.symm ?_));intro A5 c5 w5 o5 g5;have H5:=(H4.grown g5 (Nat.le_trans hwc (Nat.le_trans ajt asr)) (fun k z=>Nat.le_trans hwc (xZ o4 k z)));clear g5;go_wp2_with fail;go_ret;obtain⟨f1,f2,f3⟩:=FIN.out;refine⟨_,J,zE.mk ?_ f3,H5⟩;rw[f2,<-f1];exact CP o5
def Ym(cs:List Value)(a:vG):Prop:=∃r:Int,cs=a.cells++[.int .i64 r]/\a.ip.length=16
theorem Ym.len{cs:List Value}{a:vG}(h:Ym cs a):cs.length=19:=by obtain⟨r,rfl,h⟩:=h;simp[a.uT h]
abbrev MG(w:World)(B:Nat)(v:Value)(l:List vG):Prop:=uY w B 249 19 Ym v l
def afM:List Value:=vG.zero.cells++[.int .i64 0]
theorem Tm:(prog.info? 249).map (fun i=>(i.zero,i.size,i.bytes))=some (some (.agg afM.toArray),19,40):=by kernel_rfl
theorem Vo(fam hk r:Int)(b0 b1 b2 b3 b4 b5 b6 b7 b8 b9 b10 b11 b12 b13 b14 b15:UInt8)(W:World):
  (Instr.build 249 #[(0,.agg (vG.cells ⟨fam,[b0,b1,b2,b3,b4,b5,b6,b7,b8,b9,b10,b11,b12,b13,b14,b15],hk⟩).toArray),(1,.int .i64 r)]).run prog W= .ok (.agg (vG.cells ⟨fam,[b0,b1,b2,b3,b4,b5,b6,b7,b8,b9,b10,b11,b12,b13,b14,b15],hk⟩++[Value.int .i64 r]).toArray) W:=by
 kernel_rfl
theorem aaS(a:vG)(r:Int)(h:a.ip.length=16)(W:World):(Instr.build 249 #[(0,.agg a.cells.toArray),(1,.int .i64 r)]).run prog W= .ok (.agg (a.cells++[Value.int .i64 r]).toArray) W:=by
 obtain⟨fam,ip,hk⟩:=a;have h':ip.length=16:=h;clear h;match ip,h' with
 |[b0,b1,b2,b3,b4,b5,b6,b7,b8,b9,b10,b11,b12,b13,b14,b15],_=>exact Vo fam hk r b0 b1 b2 b3 b4 b5 b6 b7 b8 b9 b10 b11 b12 b13 b14 b15 W
theorem acu(n:Int)(a b c d e g h i j:Value)(W:World):(Instr.field 69 (.agg [a,b,c,d,e,.int .i64 n,g,h,i,j].toArray) 5).run prog W= .ok (.int .i64 n) W:=by kernel_rfl
def xr(l:List vG):Nat->List vG
 |0=>[]
 |k+1=>xr l k++l
theorem Fx(l:List vG):∀k,(xr l k).length=k*l.length
 |0=>by simp[xr]
 |k+1=>by rw[xr,List.length_append,Fx l k,Nat.add_mul,Nat.one_mul]
def vP(r:Rs)(turn:Int):List vG:=xr (xQ r turn) (uJ r).uG.toNat
theorem BK(r:Rs)(turn:Int):(xQ r turn).length=(uJ r).sv.length:=by
 have:=KJ r turn;unfold xQ;simp;omega
theorem Vp(r:Rs):1<=(uJ r).uG/\(uJ r).uG<=5:=by
 show 1<=min (max r.uG 1) 5/\min (max r.uG 1) 5<=5;omega
theorem Qo(r:Rs):1<=(uJ r).cl/\(uJ r).cl<=30:=by
 show 1<=min (max r.cl 1) 30/\min (max r.cl 1) 30<=30;omega
def acv(l:List vG)(w:World)(e:Ending)(w':World):Prop:=∃v,e= .returned v/\MG w' 0 v l/\al w w'
theorem Yn(w0:World)(cs:List Value)(r:Rs)(turn:Int)(w:World)(h:Dh w0 cs r)(hw:al w0 w):Calls prog 88 #[.agg cs.toArray,.int .i64 turn] w (acv (vP r turn) w):=by
 have hl:=h.len;have HD:=Y (fun W Z=>IL w0 cs r W h (um hw hw.size Z));have SD:=Y (fun W Z=>Tl w0 cs r turn W h (um hw hw.size Z));have HT:Hid (vP r turn=xr (xQ r turn) (uJ r).uG.toNat):=nL;have hsl:=BK r turn;have hs3:=(Gt r).2;obtain⟨ha1,ha2⟩:=Vp r;obtain⟨na,hna⟩:∃na:Nat,(uJ r).uG=na:=⟨(uJ r).uG.toNat,I⟩;rw[hna]at HT ha1 ha2;rw[Int.toNat_natCast]at HT;rw[<-hsl]at hs3;have HNA:=Y hna;clear h hw hsl hna;generalize xQ r turn=S at*;have HB:Below w.heap.size w (w.alloc (.cells cs.toArray 69)):=gF;have B0:=F.new w 69 cs;go_enter func88,ntmps88;go_wp2_with(refine ur (.load 69 (.tmp 2)) J ?_;go_must(refine uu J _ _ J w.heap.size 0 J B0 10 I _ underlying69 J AK cs (wP I) ?_));refine(SD.out _ HB).mono ?_;rintro _ w1 ⟨vS,rfl,oS,b1⟩;replace B0:=B0.G b1 B0.lt;have H1:=um HB HB.size b1;clear b1 HB SD;go_wp2_with(refine ur (.load 69 (.tmp 2)) J ?_;go_must(refine uu J _ _ J w.heap.size 0 J B0 10 I _ underlying69 J AK cs (wP I) ?_));refine(HD.out _ H1).mono ?_;rintro _ w2 ⟨cs1,rfl,ho,b2⟩;have H2:=um H1 H1.size b2;replace oS:=uY.G (R':=CY) oS b2 (fun _ _ h=>h);have F5:Hid (∀W,(Instr.field 69 (.agg cs1.toArray) 5).run prog W= .ok (.int .i64 na) W):=Y (fun W=>by
  obtain⟨v1,v2,v3,rfl,_⟩:=ho;rw[<-HNA.out];exact acu ..)
 clear b2 ho H1 HD B0 HNA;obtain⟨A,c,hv⟩:=oS.form;subst hv;go_wp2_with(refine ur (.field 69 (.tmp 14) 5) J ?_;go_must(refine Da J 69 (.tmp 14) 5 J J (F5.out _) ?_));go_loopw[6,16] (fun kv iv wr=>∃k:Nat,k<=na/\iv= .int .i64 k/\MG wr w.heap.size kv (xr S k)/\zE wr 0 (.slice A S.length c) S/\al w wr) (fun _ iv _=>na-(intOf iv).toNat)
 case atStart=>exact⟨0,Nat.zero_le _,J,uY.nil _ _ _ _ _,oS,H2⟩
 clear oS H2;obtain⟨k,z,rfl,ho,oS,hB⟩:=hrel;by_cases aB:k<na
 case neg=>have h1:¬(k:Int)<na:=I;go_wp2_with fail;go_ret;refine⟨_,J,?_,hB⟩;rw[HT.out,show na=k by omega];exact uY.zero ho
 have h1:(k:Int)<na:=I;obtain⟨Ak,ck,hv⟩:=ho.form;subst hv;have hb3:k*S.length<=15:=by have U:k*S.length<=4*3:=Nat.mul_le_mul I hs3;omega
 have hrl:(xr S k).length<=15:=oh;have HR:Hid (xr S (k+1)=xr S k++S):=nL;obtain⟨wo,hwo⟩:∃wo:World,wr=wo:=gG;subst hwo;generalize xr S k=R at*;go_wp2_with fail;go_loopw[6,21] (fun kv iv wx=>∃j:Nat,j<=S.length/\iv= .int .i64 j/\MG wx w.heap.size kv (R++S.take j)/\zE wx 0 (.slice A S.length c) S/\al w wx) (fun _ iv _=>S.length-(intOf iv).toNat)
 case atStart=>exact⟨0,Nat.zero_le _,J,by simpa using ho,oS,hB⟩
 clear ho oS hB;obtain⟨j,hj,rfl,ho,oS,hB⟩:=hrel;by_cases hjl:j<S.length
 case neg=>
  have alW:¬(j:Int)<S.length:=I;rw[List.take_of_length_le I]at ho;go_wp2_with fail;go_roundw
  case rel=>exact⟨k+1,I,gp,by rw[HR.out];exact ho,oS,hB⟩
  case measure=>simp[intOf];omega
 have alW:(j:Int)<S.length:=I;have hle:(R++S.take j).length+1<=100:=aA;obtain⟨Q,hQ⟩:=ao (R++S.take j);rw[hQ.out]at ho hle;obtain⟨Aj,cj,hv⟩:=ho.form;subst hv;obtain⟨gs,hA,hgs,hr⟩:=oS.uG (fun _ _ h=>h.len) I;obtain⟨cx,hcx,hce,h2⟩:=hr j hjl;have hcl:cx.length=18:=CY.len ⟨hce,h2⟩;have agj:∀v∈cx,v.oneCell'=true:=jh;have RB:Hid (∀W,(Instr.build 249 #[(0,.agg cx.toArray),(1,.int .i64 k)]).run prog W= .ok (.agg (cx++[Value.int .i64 k]).toArray) W):=Y (fun W=>by rw[hce];exact aaS _ _ h2 W);have TI:Hid (Ym (cx++[Value.int .i64 k]) S[j]):=Y ⟨k,by rw[hce],h2⟩;have HS:Hid (S.take (j+1)=S.take j++[S[j]]):=Y (List.take_succ_eq_append_getElem hjl);have htl:(cx++[Value.int .i64 k]).length=19:=by simp[hcl]
 have hto:∀v∈cx++[Value.int .i64 k],v.oneCell'=true:=by
  intro v hv;rcases List.mem_append.1 hv with h|h
  ·exact agj v h
  ·simp at h;subst h;rfl
 have HO:=Y ho;have HOS:=Y oS;rw[Nat.zero_add]at hcx;subst hA;have apV:(vG.zero.cells).length=18:=vG.zero.uT J;have W1:Below wr.heap.size wr (wr.alloc (.cells vG.zero.cells.toArray 24)):=gF;clear hce h2 hr ho oS;obtain⟨tc,htc⟩:∃tc,cx++[Value.int .i64 k]=tc:=gG;rw[htc]at RB TI htl hto;clear htc;go_wp2_with(first
  |(refine ur (.load 24 (.tmp 23)) rfl ?_;go_must(refine wj rfl 24 (.tmp 23) rfl gs (j*18) rfl cx hcx _ underlying24 rfl cM ?_))
  |(refine ur (.store 24 (.tmp 9) (.tmp 24)) rfl (ab rfl wr.heap.size 0 cx (F.new wr 24 vG.zero.cells) I cM agj ?_)))
 intro w3 B3 g3 sw;clear sw;have B3':=xA B3 I;have K3:=uq W1 g3 W1.size (Nat.le_refl _);clear B3 g3 W1 hcx;go_wp2_with(first
  |(refine ur (.load 24 (.tmp 9)) rfl ?_;go_must(refine uu rfl _ _ rfl wr.heap.size 0 rfl B3' 18 I _ underlying24 rfl Cf cx (wP I) ?_))
  |(refine ur (.build 249 #[(0,.tmp 26),(1,.tmp 27)]) rfl ?_;go_must(refine wi rfl 249 _ rfl #[(0,.agg cx.toArray),(1,.int .i64 k)] ee (RB.out _) ?_))
  |(refine ur (.buildSlice 173 1 #[(0,.tmp 28)]) rfl ?_;go_must(refine CX rfl 173 249 _ 19 40 underlying173 Tm az az (.tmp 28) rfl tc rfl htl ?_)))
 intro w4 B4 K4;have K5:=um K3 K3.size K4;have O4:=uY.G (R':=Ym) HO.out K5 (fun _ _ h=>h);have N4:=HO.out.ne K3.size;have S4:=uY.G (R':=CY) HOS.out K5 (fun _ _ h=>h);have H4:=um hB hB.size K5;clear HO HOS K3 K4 K5 B3' hB;go_wp2_with(at_builtin;go_must(refine yu _ J _ _ 173 J 249 _ 19 40 underlying173 Tm (by kernel_rfl) az w.heap.size _ _ J O4 H4.size w3.heap.size tc S[j] J B4 N4 htl hto TI.out aK I ?_));intro v5 w5 O5 g5;have hbs:=O4.base;have S5:zE w5 0 (.slice (some ⟨gs,0,none⟩) S.length c) S:=by obtain⟨_,o4,_⟩:=O4;exact S4.uH (fun _ x=>Ii x o4 az g5) (fun _ _ x=>x)
 have H5:=H4.grown g5 H4.size hbs;clear g5 O4 S4 H4 B4 N4;go_wp2_with fail;go_roundw
 case rel=>exact⟨j+1,I,gp,by rw[HS.out,<-List.append_assoc,hQ.out];exact O5,S5,H5⟩
 case measure=>simp[intOf];omega
def afh(r:Rs):Nat:=3*(vP r 0).length
def MH(r:Rs):Nat:=(uJ r).cl.toNat*afh r
theorem Ju(r:Rs)(turn:Int):(vP r turn).length=(uJ r).uG.toNat*(uJ r).sv.length:=by unfold vP;rw[Fx,BK]
theorem Fy(r:Rs)(turn:Int):1<=(vP r turn).length/\(vP r turn).length<=15:=by
 rw[Ju];obtain⟨U,X⟩:=Gt r;obtain⟨h3,h4⟩:=Vp r;exact⟨Nat.mul_pos I U,Nat.le_trans (Nat.mul_le_mul (show(uJ r).uG.toNat<=5 by omega) X) az⟩
theorem MI{w:World}(t:TypeId)(x:Operand)(f:Nat)(ho:o.op= .field t x f)(hx:a.eval x=v)(hr:(Instr.field t v f).run P w= .ok v' w):(execOp a.eval o).run P w= .ok (.value v') w:=by
 unfold execOp;simp only[ho,hx,Sem.run_bind,hr,Result.andThen_ok,Sem.run_pure]
end Go.Proofs.YthnbcmlnpdabhaaGreat
