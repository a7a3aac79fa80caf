/-
  Layer 21 (setup):Held,where a resolv alone is told.
-/
import Derived.Test.YthnbcmlnpdabhaaGreatIBz
import Derived.Test.YthnbcmlnpdabhaaGreatHXz
import Derived.OwnWalk
namespace Go.Proofs.YthnbcmlnpdabhaaGreat
open _root_.Go.Proofs.Tryz
set_option maxHeartbeats 8000000
open Go.RowKit
set_option maxRecDepth 100000
set_option linter.unusedVariables false
set_option linter.unusedSimpArgs false
variable {w0 w':World} {P:Program} {o:Oper} {a:Act} {v v':Value} {B c:Nat} {A:Option Addr}
structure Rs where
 sv:List uV
 se:List (List (List UInt8))
 so:List (uV×Int)
 nd:Int
 hS:Int
 ud:Int
 ro:Bool
 vc:Bool
 si:Bool
 ed:Bool
def Ej(v1 v2 v3:Value)(r:Rs):List Value:=[v1,v2,v3,.int .i64 r.nd,.int .i64 r.hS,.int .i64 r.ud,.bool r.ro,.bool r.vc,.bool r.si,.bool r.ed]
def ui(r:Rs):Rs:={r with sv:=if yF ED r.sv 3=[]then[xD 127 0 0 1]else yF ED r.sv 3,se:=yF GB r.se 6,so:=yF Q8 r.so 10,nd:=min (max r.nd 0) 15,hS:=min (max r.hS 1) 30,ud:=min (max r.ud 1) 5}
def CU(w:World)(cs:List Value)(r:Rs):Prop:=∃A1 c1 A2 c2 A3 c3,cs=Ej (.slice A1 r.sv.length c1) (.slice A2 r.se.length c2) (.slice A3 r.so.length c3) r/\ac3 w A1 r.sv/\Hl w A2 r.se/\ac5 w A3 r.so/\r.sv.length<=17592186044416/\r.se.length<=17592186044416/\r.so.length<=17592186044416
def XU(w0 w:World)(cs:List Value)(r:Rs):Prop:=∃v1 v2 v3,cs=Ej v1 v2 v3 r/\y8 w 0 v1 r.sv/\ac6 w0 w 0 v2 r.se/\ael w 0 v3 r.so
def abB(w0:World)(r:Rs)(w:World)(e:Ending)(w':World):Prop:=∃cs v1 v2 v3,e= .returned (.agg (cs++[v1,v2,v3]).toArray)/\XU w0 w' cs (ui r)/\al w w'
theorem Xi(m:Nat)(w:World):Calls prog 135 #[tS,.int .i64 m,.func (.func 136) #[] #[]] w (yi tS w):=by
 unfold tS;go_enter func135,ntmps135;go_wp2_with fail;refine wp_loop_rounds 1 ?_;rw[rounds_succ];exact oU
theorem Xj(m:Nat)(w:World):Calls prog 139 #[tS,.int .i64 m,.func (.func 140) #[] #[]] w (yi tS w):=by
 unfold tS;go_enter func139,ntmps139;go_wp2_with fail;refine wp_loop_rounds 1 ?_;rw[rounds_succ];exact oU
theorem Xk(g:Nat)(c:Nat)(w:World):Calls prog 187 #[.slice (some ⟨g,0,none⟩) 0 c,.int .i64 0,.func (.func 188) #[] #[]] w (yi tS w):=by
 unfold tS;go_enter func187,ntmps187;go_wp2_with fail;refine wp_loop_rounds 1 ?_;rw[rounds_succ];exact oU
theorem MI(w:World):Calls prog 138 #[tS] w (uf tS w):=by
 have hmk:∀w,(Instr.makeSlice 167 (.int .i64 0) (.int .i64 0)).run prog w= .ok (.slice (some ⟨w.heap.size,0,none⟩) 0 0) (w.alloc (.cells #[] 226)):=fun _=>by kernel_rfl
 have HN:=Y (fun g W=>Xk g 0 W);have HB:Below w.heap.size w (w.alloc (.cells #[] 226)):=gj;unfold tS at HN⊢;go_enter func138,ntmps138;go_wp2_with fail;refine wp_loop_rounds 1 ?_;rw[rounds_succ];go_wp2_with fail;refine(HN.out _ _).mono ?_;rintro _ w2 ⟨rfl,rfl⟩;exact oH
def adp(w:World)(e:Ending)(w':World):Prop:=∃A n c,e= .returned (.slice A n c)/\al w w'
def abC(k:Int):List Value:=[.int .i64 k,.bool true,.bool false,.bool false,.bool false]
theorem aer:(prog.info? 242).map (·.size)=some 5:=by kernel_rfl
theorem Ut(k:Int)(w:World):Calls prog 186 #[.int .i64 k] w (uf (.agg (abC k).toArray) w):=by
 go_enter func186,ntmps186;go_wp2_with fail;refine wQ J w.heap.size J (L:=abC k) ((Z.new w 242 (abC k)).alloc _) _ underlying242 J aer J ?_;exact sS
theorem Xl(w:World):Calls prog 137 #[] w (adp w):=by
 have S:=Y (fun k W=>Ut k W);unfold abC at S;go_enter func137,ntmps137;go_wp2_with fail;refine(S.out 1 _).mono ?_;rintro _ w1 ⟨rfl,b1⟩;go_wp2_with fail;refine(S.out 2 _).mono ?_;rintro _ w2 ⟨rfl,b2⟩;go_wp2_with fail;go_ret;exact⟨_,_,_,J,(tL b1 b1.size b2).alloc (by have:=b1.size;have:=b2.size;omega) _⟩
theorem adq:(prog.info? 171).map (·.size)=some 13:=by kernel_rfl
theorem zX:(prog.info? 69).map (·.size)=some 10:=by kernel_rfl
theorem XU.one{w:World}{cs:List Value}{r:Rs}(h:XU w0 w cs r):∀v∈cs,v.oneCell'=true:=by
 obtain⟨v1,v2,v3,rfl,U,X,h3⟩:=h;obtain⟨A1,c1,rfl⟩:=U.form;obtain⟨A2,c2,rfl⟩:=X.form;obtain⟨A3,c3,rfl⟩:=h3.form;intro v hv;simp only[Ej,List.mem_cons,List.not_mem_nil,or_false]at hv;rcases hv with rfl|rfl|rfl|rfl|rfl|rfl|rfl|rfl|rfl|rfl<;>rfl
theorem Jz(w0:World)(cs:List Value)(r:Rs)(w:World)(h:CU w0 cs r)(hw:al w0 w):Calls prog 87 #[.agg (cs++[tS,tS,tS]).toArray] w (abB w0 r w):=by
 obtain⟨A1,c1,A2,c2,A3,c3,rfl,U,X,h3,l1,l2,l3⟩:=h;have L1:Hid (∀W,al w W->Calls prog 127 #[.slice A1 r.sv.length c1,.int .i64 3,.func (.func 128) #[] #[]] W (DR 24 18 (fun _=>Cl) (yF ED r.sv 3) W)):=Y (fun W F=>WD A1 c1 r.sv 3 W (U.mono (tL hw hw.size F) (fun _ _ h=>h)) l1 ax);have L2:Hid (∀W,al w W->Calls prog 130 #[.slice A2 r.se.length c2,.int .i64 6,.func (.func 131) #[] #[]] W (DR 26 1 (fun _=>Zk w0) (yF GB r.se 6) W)):=Y (fun W F=>WK w0 A2 c2 r.se 6 W X (tL hw hw.size F) l2 ax);have L3:Hid (∀W,al w W->Calls prog 132 #[.slice A3 r.so.length c3,.int .i64 10,.func (.func 133) #[] #[]] W (DR 236 19 (fun _=>Pk) (yF Q8 r.so 10) W)):=Y (fun W F=>WH A3 c3 r.so 10 W (h3.mono (tL hw hw.size F) (fun _ _ h=>h)) l3 ax);obtain⟨hr1,HR1⟩:∃x,Hid (ui r=x):=gG;have HR:Hid (ui r={r with sv:=if yF ED r.sv 3=[]then[xD 127 0 0 1]else yF ED r.sv 3,se:=yF GB r.se 6,so:=yF Q8 r.so 10,nd:=min (max r.nd 0) 15,hS:=min (max r.hS 1) 30,ud:=min (max r.ud 1) 5}):=nb;clear U X h3 l1 l2 l3 HR1 hr1 hw;generalize yF ED r.sv 3=s1 at*;generalize yF GB r.se 6=s2 at*;generalize yF Q8 r.so 10=s3 at*;obtain⟨svs,ses,sos,nd,hS,att,ro,vc,si,ed⟩:=r;simp only at L1 L2 L3 HR;simp only[Ej,List.cons_append,List.nil_append];generalize svs.length=n1,ses.length=n2,sos.length=n3 at*;unfold tS;go_enter func87,ntmps87;go_wp2_with fail;obtain⟨aeR,hX⟩:∃aeR,aeR=((w.alloc (.cells #[.slice A1 n1 c1,.slice A2 n2 c2,.slice A3 n3 c3,.int .i64 nd,.int .i64 hS,.int .i64 att,.bool ro,.bool vc,.bool si,.bool ed,.slice none 0 0,.slice none 0 0,.slice none 0 0] 171)).alloc (.cells #[.slice none 0 0,.slice none 0 0,.slice none 0 0,.int .i64 0,.int .i64 0,.int .i64 0,.bool false,.bool false,.bool false,.bool false,.slice none 0 0,.slice none 0 0,.slice none 0 0] 171)).alloc (.cells #[.slice A1 n1 c1,.slice A2 n2 c2,.slice A3 n3 c3,.int .i64 nd,.int .i64 hS,.int .i64 att,.bool ro,.bool vc,.bool si,.bool ed] 69):=gp;rw[<-hX];have HX:al w aeR:=by rw[hX];exact(((Below.refl _ _).alloc (Nat.le_refl _) _).alloc ap _).alloc az _
 obtain⟨cz,hcz⟩:∃cz:List Value,cz=[.slice none 0 0,.slice none 0 0,.slice none 0 0,.int .i64 0,.int .i64 0,.int .i64 0,.bool false,.bool false,.bool false,.bool false,.slice none 0 0,.slice none 0 0,.slice none 0 0]:=gp;have C1:Z aeR w.heap.size 171 [.slice A1 n1 c1,.slice A2 n2 c2,.slice A3 n3 c3,.int .i64 nd,.int .i64 hS,.int .i64 att,.bool ro,.bool vc,.bool si,.bool ed,.slice none 0 0,.slice none 0 0,.slice none 0 0]:=by rw[hX];exact((Z.new w _ _).alloc _).alloc _
 have C2:Z aeR (w.heap.size+1) 171 cz:=by rw[hX,hcz];exact(Z.vP _ _ _ _ ap).alloc _
 have C3:Z aeR (w.heap.size+1+1) 69 [.slice A1 n1 c1,.slice A2 n2 c2,.slice A3 n3 c3,.int .i64 nd,.int .i64 hS,.int .i64 att,.bool ro,.bool vc,.bool si,.bool ed]:=by rw[hX];exact Z.vP _ _ _ _ ap
 have aEI:cz.length=13:=by rw[hcz];rfl
 obtain⟨N,hcl⟩:∃N:List Value,N=[.slice A1 n1 c1,.slice A2 n2 c2,.slice A3 n3 c3,.int .i64 nd,.int .i64 hS,.int .i64 att,.bool ro,.bool vc,.bool si,.bool ed,.slice none 0 0,.slice none 0 0,.slice none 0 0]:=gp;rw[<-hcl]at C1;have k10:N[10]?=some (.slice none 0 0):=nL;have k11:N[11]?=some (.slice none 0 0):=nL;have k12:N[12]?=some (.slice none 0 0):=nL;have h13:w.heap.size≠w.heap.size+1+1:=I;have h23:w.heap.size+1≠w.heap.size+1+1:=I;have h12:w.heap.size<w.heap.size+1:=I;have tK:w.heap.size<=w.heap.size+1+1:=I;clear hX hcz hcl;refine(L1.out _ HX).mono ?_;rintro _ w1 ⟨v1,rfl,o1,b1⟩;replace C1:=C1.G b1 C1.lt;replace C2:=C2.G b1 C2.lt;replace C3:=C3.G b1 C3.lt;have H1:=tL HX HX.size b1;replace o1:=uy.zero o1;clear b1 L1 HX;obtain⟨S1,hS1⟩:=ao ((if s1=[]then[xD 127 0 0 1]else s1));rw[hS1.out]at HR;generalize w.heap.size+1+1=g3 at*;generalize w.heap.size+1=g2 at*;obtain⟨Av,cv,hv⟩:=o1.form;subst hv;have d0:=C3.K 0 J;have f0:=C3.frozen 0;go_upto_if 14 with fail;go_cut[] (fun wx=>∃v,y8 wx 0 v S1/\Z wx w.heap.size 171 N/\Z wx g2 171 cz/\Z wx g3 69 [v,.slice A2 n2 c2,.slice A3 n3 c3,.int .i64 nd,.int .i64 hS,.int .i64 att,.bool ro,.bool vc,.bool si,.bool ed]/\al w wx)
 case first=>
  by_cases hs:s1=[]
  case pos=>
   subst hs;have hq:S1=[xD 127 0 0 1]:=by rw[<-hS1.out,if_pos J]
   have QO:Hid (∀W,Calls prog 129 #[.int .u8 127,.int .u8 0,.int .u8 0,.int .u8 1] W (uf (.agg (xD 127 0 0 1).cells.toArray) W)):=Y (fun W=>Kz 127 0 0 1 W);have HQ:=Y hq;have hql:(xD 127 0 0 1).cells.length=18:=rfl;have HI:Hid (Cl (xD 127 0 0 1).cells (xD 127 0 0 1)):=Y ⟨J,J⟩;clear hq hS1 HR;generalize xD 127 0 0 1=qa at*;generalize qa.cells=qc at*;go_wp2_with fail;refine(QO.out _).mono ?_;rintro _ w2 ⟨rfl,b2⟩;have G1:=uL w1 g3 0 (.slice Av 0 cv);have E1:=(C1.yG (p:=⟨g3,0,none⟩) h13 (.slice Av 0 cv)).G b2 (C1.yG (p:=⟨g3,0,none⟩) h13 _).lt;have E2:=(C2.yG (p:=⟨g3,0,none⟩) h23 (.slice Av 0 cv)).G b2 (C2.yG (p:=⟨g3,0,none⟩) h23 _).lt;have E3:=(C3.set 0 (.slice Av 0 cv)).G b2 (C3.set 0 _).lt;simp only[List.set_cons_zero]at E3;have H2:=tL (tN H1 G1 H1.size tK) (by simp[World.setCell];exact H1.size) b2;clear QO b2 G1 C1 C2 C3 d0 f0 L2 L3 o1;go_wp2_with(refine tO (.buildSlice 65 1 #[(0,.tmp 15)]) J ?_;go_must(refine Ck J 65 24 _ 18 32 underlying65 yS ax ax (.tmp 15) J qc J hql ?_));intro w3 B4 KA;have O5:=uy.one 18 B4 hql HI.out;replace E1:=E1.G KA E1.lt;replace E2:=E2.G KA E2.lt;replace E3:=E3.G KA E3.lt;have H3:=tL H2 H2.size KA;have e30:=E3.K 0 J;have e3f:=E3.frozen 0;clear HI KA H2 B4;go_wp2_with fail;go_meet
   case rel=>refine⟨_,?_,E1.yG h13 _,E2.yG h23 _,E3.set 0 _,tN H3 (uL _ _ _ _) H3.size tK⟩;exact tC
  case neg=>
   have hs0:0<s1.length:=by cases s1 with|nil=>exact absurd rfl hs|cons _ _=>simp
   have hs1:((s1.length:Int)==0)=false:=by simp;exact hs
   have hq:S1=s1:=by rw[<-hS1.out,if_neg hs]
   have HQ:=Y hq;clear hq hS1 HR hs;obtain⟨ln,hln⟩:=ao s1.length;rw[hln.out]at o1 hs0 hs1⊢;go_wp2_with fail;go_meet
   case rel=>refine⟨_,?_,C1.yG h13 _,C2.yG h23 _,C3.set 0 _,tN H1 (uL _ _ _ _) H1.size tK⟩;rw[HQ.out];exact o1.uG (uL _ _ _ _) C3 ax
 case rest=>
  obtain⟨v1,p1,E1,E2,E3,H2⟩:=hcut;clear C1 C2 C3 d0 f0 H1 o1 hS1;generalize wc=w2 at*;have d1:=E3.K 1 J;obtain⟨Aw,cw,hv⟩:=p1.form;subst hv;go_wp2_with fail;refine(L2.out _ H2).mono ?_;rintro _ w3 ⟨v2,rfl,o2,b3⟩;replace p1:=uy.G (R':=Cl) p1 b3 (fun _ _ h=>h);have F1:=E1.G b3 E1.lt;have F2:=E2.G b3 E2.lt;have F3:=E3.G b3 E3.lt;have H3:=tL H2 H2.size b3;replace o2:=uy.zero o2;obtain⟨Ax,cx,hv⟩:=o2.form;subst hv;have d2:=F3.K 2 J;have e1:=F3.K 1 J;have ef:=F3.frozen 1;clear L2 b3 E1 E2 E3 d1 H2;go_wp2_with fail;refine(L3.out _ (tN H3 (uL _ _ _ _) H3.size tK)).mono ?_;rintro _ w4 ⟨v3,rfl,o3,b4⟩;have K3:=uL w3 g3 1 (.slice Ax s2.length cx);have G1:=(F1.yG (p:=⟨g3,1,none⟩) h13 (.slice Ax s2.length cx)).G b4 (F1.yG (p:=⟨g3,1,none⟩) h13 _).lt;have G2:=(F2.yG (p:=⟨g3,1,none⟩) h23 (.slice Ax s2.length cx)).G b4 (F2.yG (p:=⟨g3,1,none⟩) h23 _).lt;have G3:=(F3.set 1 (.slice Ax s2.length cx)).G b4 (F3.set 1 _).lt;replace p1:=uy.G (R':=Cl) (p1.uG K3 F3 ax) b4 (fun _ _ h=>h);replace o2:=uy.G (R':=Zk w0) (o2.uG K3 F3 ax) b4 (fun _ _ h=>h);replace o3:=uy.zero o3;have H4:=tL (tN H3 K3 H3.size tK) (by simp[World.setCell];exact H3.size) b4;simp only[List.set_cons_zero,List.set_cons_succ]at G3;obtain⟨Ay,cy,hv⟩:=o3.form;subst hv;have d2:=G3.K 2 J;have d3:=G3.K 3 J;have d4:=G3.K 4 J;have d5:=G3.K 5 J;have f2:=G3.frozen 2;have f3:=G3.frozen 3;have f4:=G3.frozen 4;have f5:=G3.frozen 5;have d11:=G1.K 11 k11;clear K3 b4 F1 F2 F3 e1 ef L3 H3;go_wp2_with fail;refine(IF nd 0 15 _).mono ?_;rintro _ _ ⟨rfl,rfl⟩;go_wp2_with fail;refine(IF hS 1 30 _).mono ?_;rintro _ _ ⟨rfl,rfl⟩;go_wp2_with fail;refine(IF att 1 5 _).mono ?_;rintro _ _ ⟨rfl,rfl⟩;go_wp2_with fail;have LS:Hid (∀W,Calls prog 135 #[.slice none 0 0,.int .i64 8,.func (.func 136) #[] #[]] W (yi (.slice none 0 0) W)):=Y (fun W=>Xi 8 W);have HH:Hid (∀W,Calls prog 138 #[.slice none 0 0] W (uf (.slice none 0 0) W)):=Y (fun W=>MI W);have LV:Hid (∀W,Calls prog 139 #[.slice none 0 0,.int .i64 0,.func (.func 140) #[] #[]] W (yi (.slice none 0 0) W)):=Y (fun W=>Xj 0 W);refine(LS.out _).mono ?_;rintro _ _ ⟨rfl,rfl⟩;go_wp2_with fail;refine(Xl _).mono ?_;rintro _ w5 ⟨Az,nz,cz',rfl,b5⟩;have Q1:=G1.yG (p:=⟨g3,2,none⟩) h13 (.slice Ay s3.length cy)|>.yG (p:=⟨g3,3,none⟩) h13 (.int .i64 (min (max nd 0) 15))|>.yG (p:=⟨g3,4,none⟩) h13 (.int .i64 (min (max hS 1) 30))|>.yG (p:=⟨g3,5,none⟩) h13 (.int .i64 (min (max att 1) 5));have Q2:=G2.yG (p:=⟨g3,2,none⟩) h23 (.slice Ay s3.length cy)|>.yG (p:=⟨g3,3,none⟩) h23 (.int .i64 (min (max nd 0) 15))|>.yG (p:=⟨g3,4,none⟩) h23 (.int .i64 (min (max hS 1) 30))|>.yG (p:=⟨g3,5,none⟩) h23 (.int .i64 (min (max att 1) 5));have Q3:=G3.set 2 (.slice Ay s3.length cy)|>.set 3 (.int .i64 (min (max nd 0) 15))|>.set 4 (.int .i64 (min (max hS 1) 30))|>.set 5 (.int .i64 (min (max att 1) 5));simp only[List.set_cons_zero,List.set_cons_succ]at Q3;have KQ:w4.grownBy _ (some g3):=uq (uq (uq (uL w4 g3 2 (.slice Ay s3.length cy)) 3 (.int .i64 (min (max nd 0) 15))) 4 (.int .i64 (min (max hS 1) 30))) 5 (.int .i64 (min (max att 1) 5));replace p1:=uy.G (R':=Cl) (p1.uG KQ G3 ax) b5 (fun _ _ h=>h);replace o2:=uy.G (R':=Zk w0) (o2.uG KQ G3 ax) b5 (fun _ _ h=>h);replace o3:=uy.G (R':=Pk) (o3.uG KQ G3 ax) b5 (fun _ _ h=>h);have H5:=tL (tN H4 KQ H4.size tK) (by simp[World.setCell];exact H4.size) b5;replace Q1:=Q1.G b5 Q1.lt;replace Q2:=Q2.G b5 Q2.lt;replace Q3:=Q3.G b5 Q3.lt;clear KQ b5 G1 G2 G3 d2 d3 d4 d5 f2 f3 f4 f5 d11 H4 LS;go_wp2_with fail;obtain⟨R,hR⟩:∃R:List Value,R=[.slice Aw S1.length cw,.slice Ax s2.length cx,.slice Ay s3.length cy,.int .i64 (min (max nd 0) 15),.int .i64 (min (max hS 1) 30),.int .i64 (min (max att 1) 5),.bool ro,.bool vc,.bool si,.bool ed]:=gp;rw[<-hR]at Q3;have hRl:R.length=10:=by rw[hR];rfl
  have RO:Hid (∀W W',al w5 W->W.grownBy W' (some g2)->Z W g2 171 cz->XU w0 W' R (ui ⟨svs,ses,sos,nd,hS,att,ro,vc,si,ed⟩)):=Y (fun W W' F hg O=>by
   rw[HR.out];exact⟨_,_,_,hR,(uy.G (R':=Cl) p1 F (fun _ _ h=>h)).uG hg O ax,(uy.G (R':=Zk w0) o2 F (fun _ _ h=>h)).uG hg O ax,(uy.G (R':=Pk) o3 F (fun _ _ h=>h)).uG hg O ax⟩)
  have RON:Hid (∀v∈R,v.oneCell'=true):=Y (fun v hv=>by
   rw[hR]at hv;simp only[List.mem_cons,List.not_mem_nil,or_false]at hv;rcases hv with rfl|rfl|rfl|rfl|rfl|rfl|rfl|rfl|rfl|rfl<;>rfl)
  have RB:Hid (∀W,(Instr.build 171 #[(0,.agg R.toArray),(1,.slice none 0 0),(2,.slice Az nz cz'),(3,.slice none 0 0)]).run prog W= .ok (.agg (R++[Value.slice none 0 0,Value.slice Az nz cz',Value.slice none 0 0]).toArray) W):=Y (fun W=>by rw[hR];kernel_rfl);clear hR HR p1 o2 o3;refine wp_region_held_drew (S:=fun V=>Z V w.heap.size 171 N/\Z V g3 69 R) (by kernel_rfl) ⟨Q1.drew,Q3.drew⟩ (fun M=>?_);have HD:Below w5.heap.size w5 w5.drew:=iH;refine uh M 9 [0,1,2,4,5,6,7,8,9] J (by kernel_rfl) (fun _ _ _ _ _ h=>h) J J ?_
  (refine ah _ J J (fun V hV=>(ul 69 (.tmp 3) ⟨g3,0,none⟩ J J (hV.2.wk 69 0 10 I _ underlying69 J zX R (wg I)))) ?_;simp only[z])
  repeat(refine aj _ ?_;simp only[z])
  (refine ah _ J J (fun V hV=>(ul 167 (.tmp 46) ⟨w.heap.size,10,none⟩ J J (tV underlying167 J (hV.1.K 10 k10)))) ?_;simp only[z])
  repeat(refine aj _ ?_;simp only[z])
  (refine ah _ J J (fun V hV=>(ul 169 (.tmp 50) ⟨w.heap.size,12,none⟩ J J (tV underlying169 J (hV.1.K 12 k12)))) ?_;simp only[z])
  repeat(refine aj _ ?_;simp only[z])
  (refine ah _ J J (fun V hV=>(ul 169 (.tmp 52) ⟨w.heap.size,12,none⟩ J J (tV underlying169 J (hV.1.K 12 k12)))) ?_;simp only[z])
  (refine ah (.int .i64 0) J J (fun V hV=>(by kernel_rfl)) ?_;simp only[z])
  simp only[vx];refine uO 3 (some 48) 138 #[.slice none 0 0] (by kernel_rfl) J J (by kernel_rfl) bm (HH.out _) ?_;rintro _ w6 ⟨rfl,b6⟩;have M:Z w6 w.heap.size 171 N/\Z w6 g3 69 R:=⟨M.1.G b6 M.1.lt,M.2.G b6 M.2.lt⟩;have HD:=tL HD HD.size b6;refine⟨_,J,M,?_⟩;simp only[z];refine uO 10 (some 55) 139 #[.slice none 0 0,.int .i64 0,.func (.func 140) #[] #[]] (by kernel_rfl) J J (by kernel_rfl) bm (LV.out _) ?_;rintro _ _ ⟨rfl,rfl⟩;refine⟨_,J,M,?_⟩;simp only[z];refine uh M 1 [11] J (by kernel_rfl) (fun _ _ _ _ _ h=>h) J J ?_
  (refine ah (.agg (R++[Value.slice none 0 0,Value.slice Az nz cz',Value.slice none 0 0]).toArray) J J (fun V hV=>(Ly 171 _ J #[(0,.agg R.toArray),(1,.slice none 0 0),(2,.slice Az nz cz'),(3,.slice none 0 0)] (by kernel_rfl) (RB.out V))) ?_;simp only[z])
  simp only[vx];have afx:∀v∈R++[Value.slice none 0 0,Value.slice Az nz cz',Value.slice none 0 0],v.oneCell'=true:=by
   intro v hv;rcases List.mem_append.1 hv with h|h
   ·exact RON.out v h
   ·simp only[List.mem_cons,List.not_mem_nil,or_false]at h;rcases h with rfl|rfl|rfl<;>rfl
  have hfl:(R++[Value.slice none 0 0,Value.slice Az nz cz',Value.slice none 0 0]).length=13:=by simp[hRl]
  refine vz 12 none 171 (.tmp 2) (.tmp 56) (by kernel_rfl) J J J (by kernel_rfl) g2 0 J (R++[Value.slice none 0 0,Value.slice Az nz cz',Value.slice none 0 0]) J (Q2.G HD Q2.lt) I et afx ?_;intro w7 B7 g7 s7;rw[List.take_zero,List.nil_append,Nat.zero_add]at B7;have B7':=xG B7 I;have H7:=tN (tL H5 H5.size HD) g7 (by have:=H5.size;have:=HD.size;omega) (Nat.le_of_lt h12);have RF:=Y (RO.out _ _ HD g7 (Q2.G HD Q2.lt));refine⟨⟨M.1.grown g7 az,M.2.grown g7 az⟩,?_⟩;simp only[z];refine wpAnyH_done (by kernel_rfl) ?_ _;go_wp2_with fail;refine wQ J g2 J B7' _ underlying171 J et J ?_;exact⟨R,_,_,_,J,RF.out,H7⟩
def aes(w0:World)(r:Rs)(w:World)(e:Ending)(w':World):Prop:=∃cs,e= .returned (.agg cs.toArray)/\XU w0 w' cs r/\al w w'
theorem XU.len{w:World}{cs:List Value}{r:Rs}(h:XU w0 w cs r):cs.length=10:=by obtain⟨_,_,_,rfl,_⟩:=h;rfl
theorem CU.len{w:World}{cs:List Value}{r:Rs}(h:CU w cs r):cs.length=10:=by obtain⟨_,_,_,_,_,_,rfl,_⟩:=h;rfl
theorem CU.G{w:World}{cs:List Value}{r:Rs}(h:CU w cs r)(F:al w w'):CU w' cs r:=by
 obtain⟨A1,c1,A2,c2,A3,c3,h0,U,X,h3,l⟩:=h;exact⟨A1,c1,A2,c2,A3,c3,h0,U.mono F (fun _ _ h=>h),WJ X F,h3.mono F (fun _ _ h=>h),l⟩
theorem XU.G{w:World}{cs:List Value}{r:Rs}(h:XU w0 w cs r)(F:al w w'):XU w0 w' cs r:=by
 obtain⟨v1,v2,v3,h0,U,X,h3⟩:=h;exact⟨v1,v2,v3,h0,uy.G U F (fun _ _ h=>h),uy.G X F (fun _ _ h=>h),uy.G h3 F (fun _ _ h=>h)⟩
theorem LJ(A1 A2 A3:Option Addr)(n1 c1 n2 c2 n3 c3:Nat)(r:Rs)(W:World):(Instr.build 171 #[(0,.agg (Ej (.slice A1 n1 c1) (.slice A2 n2 c2) (.slice A3 n3 c3) r).toArray)]).run prog W= .ok (.agg (Ej (.slice A1 n1 c1) (.slice A2 n2 c2) (.slice A3 n3 c3) r++[tS,tS,tS]).toArray) W:=by kernel_rfl
theorem Z4(a b c d e f g h i j v1 v2 v3:Value)(W:World):(Instr.field 171 (.agg ([a,b,c,d,e,f,g,h,i,j]++[v1,v2,v3]).toArray) 0).run prog W= .ok (.agg [a,b,c,d,e,f,g,h,i,j].toArray) W:=by kernel_rfl
theorem VF(cs:List Value)(h:cs.length=10)(v1 v2 v3:Value)(W:World):(Instr.field 171 (.agg (cs++[v1,v2,v3]).toArray) 0).run prog W= .ok (.agg cs.toArray) W:=by
 match cs,h with
 |[a,b,c,d,e,f,g,h,i,j],_=>exact Z4 ..
theorem Co{ops:Array Oper}{rest:List Oper}{w:World}{Q:Exit->Act->World->Prop}(hgd:o.guard=none)(t:TypeId)(x:Operand)(f:Nat)(ho:o.op= .field t x f)(hx:a.eval x=v)(hr:(Instr.field t v f).run P w= .ok v' w)(h:wpList P ops Q rest (a.put o.dst v') w):wpList P ops Q (o::rest) a w:=by
 exact rp
theorem Ih(w0:World)(cs:List Value)(r:Rs)(w:World)(h:CU w0 cs r)(hw:al w0 w):Calls prog 96 #[.agg cs.toArray] w (aes w0 (ui r) w):=by
 have hl:=h.len;have HD:=Y (fun W F=>Jz w0 cs r W h (tL hw hw.size F));have RB:Hid (∀W,(Instr.build 171 #[(0,.agg cs.toArray)]).run prog W= .ok (.agg (cs++[tS,tS,tS]).toArray) W):=Y (fun W=>by obtain⟨A1,c1,A2,c2,A3,c3,rfl,_⟩:=h;exact LJ ..);clear h hw;have HX:Below w.heap.size w ((w.alloc (.cells cs.toArray 69)).alloc (.cells (Ej tS tS tS ⟨[],[],[],0,0,0,false,false,false,false⟩).toArray 69)):=gA;have B1:=(Z.new w 69 cs).alloc (.cells (Ej tS tS tS ⟨[],[],[],0,0,0,false,false,false,false⟩).toArray 69);have B2:=Z.vP (w.alloc (.cells cs.toArray 69)) 69 (Ej tS tS tS ⟨[],[],[],0,0,0,false,false,false,false⟩) (w.heap.size+1) ap;have hz:(Ej tS tS tS ⟨[],[],[],0,0,0,false,false,false,false⟩).length=10:=rfl;have hg:w.heap.size<=w.heap.size+1:=I;obtain⟨W0,hW⟩:∃W0,W0=(w.alloc (.cells cs.toArray 69)).alloc (.cells (Ej tS tS tS ⟨[],[],[],0,0,0,false,false,false,false⟩).toArray 69):=gp;have HW:=Y hW;rw[<-hW]at HX B1 B2;clear hW;go_enter func96,ntmps96;go_wp2_with(first
  |(refine tO (.load 69 (.tmp 1)) rfl ?_;go_must(refine tP rfl _ _ rfl w.heap.size 0 rfl ((Z.new w 69 cs).alloc _) 10 I _ underlying69 rfl zX cs (wg I) ?_))
  |(refine tO (.build 171 #[(0,.tmp 3)]) rfl ?_;go_must(refine wl rfl 171 _ rfl #[(0,.agg cs.toArray)] ea (RB.out _) ?_)))
 refine(HD.out _ (by rw[HW.out]at HX;exact HX)).mono ?_;rintro _ w1 ⟨cs1,v1,v2,v3,rfl,ho,b1⟩;have b1':al W0 w1:=by rw[HW.out];exact b1
 have B2':=B2.G b1' B2.lt;have H1:=tL HX HX.size b1';have hl1:=ho.len;have ho1:=Y ho.one;have HO:=Y ho;clear b1 b1' B1 B2 ho HX HW HD RB;generalize w.heap.size+1=g2 at*;go_wp2_with(first
  |(refine tO (.field 171 (.tmp 5) 0) rfl ?_;go_must(refine Co rfl 171 (.tmp 5) 0 rfl rfl (VF cs1 hl1 v1 v2 v3 _) ?_))
  |(refine tO (.store 69 (.tmp 2) (.tmp 6)) rfl (ab rfl g2 0 cs1 B2' I eu ho1.out ?_)))
 intro w2 B3 g3 _;have B3':=xG B3 I;have H2:=tN H1 g3 H1.size hg;go_wp2_with fail;refine wQ J g2 J B3' _ underlying69 J eu J ?_;refine⟨cs1,J,?_,H2⟩;obtain⟨u1,u2,u3,h0,U,X,h3⟩:=HO.out;exact⟨u1,u2,u3,h0,U.uG g3 B2' ax,X.uG g3 B2' ax,h3.uG g3 B2' ax⟩
def AR(l:List uV):List Value:=(l.map uV.cells).flatten
theorem Ii(a b:List uV):AR (a++b)=AR a++AR b:=by simp[AR]
theorem zR:∀(l:List uV),(∀a∈l,a.ip.length=16)->(AR l).length=l.length*18
 |[],_=>rfl
 |a::l,h=>by
  have U:=zR l (fun x hx=>h x (List.mem_cons_of_mem _ hx));have X:=a.ur (h a (List.mem_cons_self ..));show(a.cells++AR l).length=_;rw[List.length_append,U,X,List.length_cons];omega
theorem LO(l:List uV):∀v∈AR l,v.oneCell'=true:=by
 intro v hv;obtain⟨c,hc,hv⟩:=List.mem_flatten.1 hv;obtain⟨a,_,rfl⟩:=List.mem_map.1 hc;exact a.xg v hv
theorem LW:∀{css:List (List Value)} {l:List uV},Bh Cl css l->css.flatten=AR l/\∀a∈l,a.ip.length=16
 |[],[],_=>⟨J,ap⟩
 |cs::css,a::l,h=>by
  obtain⟨U,X⟩:=LW h.2;obtain⟨h3,h4⟩:=h.1;refine⟨?_,?_⟩
  ·show cs++css.flatten=a.cells++AR l;rw[U,h3]
  ·
   intro x hx;rcases List.mem_cons.1 hx with rfl|hx
   ·exact h4
   ·exact X x hx
theorem VG:∀(l:List uV),(∀a∈l,a.ip.length=16)->Bh Cl (l.map uV.cells) l
 |[],_=>trivial
 |a::l,h=>⟨⟨J,h a (List.mem_cons_self ..)⟩,VG l (fun x hx=>h x (List.mem_cons_of_mem _ hx))⟩
theorem y8.ip{w:World}{l:List uV}(h:y8 w B v l):∀a∈l,a.ip.length=16:=by obtain⟨css,_,X⟩:=h;exact(LW X).2
theorem y8.own{w:World}{l:List uV}(h:y8 w B v l):w.ownsRow B 24 18 v l.length (AR l):=by obtain⟨css,U,X⟩:=h;rw[(LW X).1]at U;exact U
theorem y8.mk{w:World}{l:List uV}(h:w.ownsRow B 24 18 v l.length (AR l))(hi:∀a∈l,a.ip.length=16):y8 w B v l:=⟨l.map uV.cells,h,VG l hi⟩
theorem y8.piece{w:World}{l:List uV}(h:y8 w B (.slice A l.length c) l)(k n:Nat)(O:k+n<=l.length)(hl:0<l.length):∃g,A=some ⟨g,0,none⟩/\g<w.heap.size/\w.rangeAt g (0+k*18) (AR ((l.drop k).take n)):=by
 have hi:=h.ip;have ho:=h.own;obtain⟨g,L,hA,F,ht,_⟩:=Dn ho hl (zR l hi);refine⟨g,hA,F.lt,?_⟩;have e:l=l.take k++((l.drop k).take n++(l.drop k).drop n):=by rw[List.take_append_drop,List.take_append_drop]
 have U:(AR (l.take k)).length=k*18:=by rw[zR _ (fun a ha=>hi a (List.mem_of_mem_take ha))];simp;omega
 have X:(AR ((l.drop k).take n)).length=n*18:=by rw[zR _ (fun a ha=>hi a (List.mem_of_mem_drop (List.mem_of_mem_take ha)))];simp;omega
 have afE:(L.drop (k*18)).take (n*18)=AR ((l.drop k).take n):=by
  have e2:(L.take (l.length*18)).drop (k*18)=(L.drop (k*18)).take (l.length*18-k*18):=List.drop_take ..;have e3:((L.take (l.length*18)).drop (k*18)).take (n*18)=AR ((l.drop k).take n):=by
   rw[ht]
   conv=>lhs;rw[e,Ii,Ii]
   rw[<-U,List.drop_left,<-X,List.take_left]
  rw[e2,List.take_take,Nat.min_eq_left (by have:=Nat.mul_le_mul_right 18 O;rw[Nat.add_mul]at this;omega)]at e3;exact e3
 rw[<-afE,Nat.zero_add];refine F.range _ _ ?_;have hLl:l.length*18<=L.length:=by have:=congrArg List.length ht;rw[zR l hi,List.length_take]at this;omega
 have:=Nat.mul_le_mul_right 18 O;rw[Nat.add_mul]at this;omega
theorem abD{w:World}{e:TypeId}{s:Nat}{n:Nat}{xs:List Value}(h:w.ownsRow B e s (.slice A n c) n xs):n<=c:=by
 rcases h.2 with⟨h,h0⟩|⟨g,cap,cur,hv,_,_,hc,_⟩
 ·injection h with _ _ h;omega
 ·injection hv with _ _ h;omega
def yX(r:Rs)(turn:Int):Nat:=if r.ro then(IntKind.u64.wrap turn% (ui r).sv.length).toNat else 0
def xr(r:Rs)(turn:Int):List uV:=(ui r).sv.drop (yX r turn)++(ui r).sv.take (yX r turn)
theorem Fu(r:Rs):0<(ui r).sv.length/\(ui r).sv.length<=3:=by
 unfold ui;simp only;split
 ·exact⟨ap,ap⟩
 ·rename_i h;refine⟨List.length_pos_iff.2 h,?_⟩;unfold yF;simp;omega
theorem Ke(r:Rs)(turn:Int):yX r turn<(ui r).sv.length:=by
 have h:=(Fu r).1;unfold yX;split
 ·have U:=Int.emod_lt_of_pos (IntKind.u64.wrap turn) (show(0:Int)<(ui r).sv.length by omega);have X:=Int.emod_nonneg (IntKind.u64.wrap turn) (show((ui r).sv.length:Int)≠0 by omega);omega
 ·exact h
theorem aet:∃i,prog.info? 24=some i/\i.zero=some (.agg uV.zero.cells.toArray)/\i.size=18/\i.bytes=32:=info_parts yS
def Uu(l:List uV)(w:World)(e:Ending)(w':World):Prop:=∃v,e= .returned v/\y8 w' 0 v l/\al w w'
theorem Sg(w0:World)(cs:List Value)(r:Rs)(turn:Int)(w:World)(h:CU w0 cs r)(hw:al w0 w):Calls prog 141 #[.agg cs.toArray,.int .i64 turn] w (Uu (xr r turn) w):=by
 have hl:=h.len;have HD:=Y (fun W F=>Ih w0 cs r W h (tL hw hw.size F));obtain⟨hn0,hn3⟩:=Fu r;have hat:=Ke r turn;have HT:Hid (yX r turn=if r.ro then(IntKind.u64.wrap turn% (ui r).sv.length).toNat else 0):=nb;have HS:Hid (xr r turn=(ui r).sv.drop (yX r turn)++(ui r).sv.take (yX r turn)):=nb;have hro:(ui r).ro=r.ro:=rfl;have HRO:=Y hro;clear h hw hro;generalize yX r turn=ud at*;have HB:Below w.heap.size w (w.alloc (.cells cs.toArray 69)):=gj;go_enter func141,ntmps141;go_wp2_with(refine tO (.load 69 (.tmp 2)) J ?_;go_must(refine tP J _ _ J w.heap.size 0 J (Z.new w 69 cs) 10 I _ underlying69 J zX cs (wg I) ?_));refine(HD.out _ HB).mono ?_;rintro _ w1 ⟨cs1,rfl,ho,b1⟩;have B1:=(Z.new w 69 cs).G b1 (Z.new _ _ _).lt;have H1:=tL HB HB.size b1;have hl1:=ho.len;have ho1:=Y ho.one;have HO:=Y ho;clear b1 ho HB HD;go_wp2_with(refine tO (.store 69 (.tmp 2) (.tmp 9)) J (ab J w.heap.size 0 cs1 B1 I eu ho1.out ?_));intro w2 B3 g3 sw;clear sw;have B2:=xG B3 I;have H2:=tN H1 g3 H1.size (Nat.le_refl _);obtain⟨v1,v2,v3,hcs,p1,p2,p3⟩:=HO.out;replace p1:=p1.uG g3 B1 ax;obtain⟨A,c,hv⟩:=p1.form;rw[hv]at p1 hcs;have d0:=B2.K 0 (u:=.slice A (ui r).sv.length c) bI;have d6:=B2.K 6 (u:=.bool (ui r).ro) bI;rw[HRO.out]at d6;clear hcs hv p2 p3 HO B3 g3 B1 H1 ho1 B2;generalize(ui r).sv=S at*;have hwn:IntKind.u64.wrap (S.length:Int)=S.length:=gL;have DV:=Y (EE turn S.length I I);have awO:¬(S.length:Int)=0:=I;go_upto_region 4 with fail;go_cut[18] (fun v wx=>v= .bool r.ro/\wx=w2)
 case first=>
  cases hro:r.ro with
  |true=>exact sM
  |false=>exact sM
 obtain⟨rfl,rfl⟩:=hcut;go_upto_if 18 with fail;go_cut[6] (fun v wx=>v= .int .i64 ud/\wx=wc)
 case first=>
  cases hro:r.ro with
  |true=>
   rw[hro]at HT d6;clear hro HRO;go_wp2_with fail;go_meet
   case rel=>refine⟨?_,J⟩;rw[DV.out];exact qS
  |false=>
   rw[hro]at HT d6;clear hro HRO;go_wp2_with fail;go_meet
   case rel=>have X:=HT.out;simp only[Bool.false_eq_true,if_false]at X;exact⟨by rw[X];rfl,J⟩
 case rest=>
  obtain⟨rfl,rfl⟩:=hcut;clear d6 HT DV hwn;obtain⟨ai,ai1,ai2,ai3,ai4⟩:=aet;go_wp2_with(refine tO (.makeSlice 65 (.const (.int .i64 0)) (.tmp 25)) J ?_;go_must(refine wpList_make_own wc J _ _ 65 J wc.heap.size 24 ai _ 18 underlying65 ai1 ai2 ai3 .i64 .i64 (S.length:Int) S.length J J J (by rw[ai4];omega) aJ (Nat.le_refl _) ?_));intro w3 o3 g3;have K3:al wc w3:=⟨g3.os,g3.tape,g3.output,g3.size,fun i hi=>g3.block i hi ap⟩;have p3:=uy.G (R':=Cl) p1 K3 (fun _ _ h=>h);have e0:w3.cell? ⟨w.heap.size,0,none⟩=some (.slice A S.length c):=by rw[<-d0];exact K3.cell (p:=⟨w.heap.size,0,none⟩) (OM d0)
  have H3:=tL H2 H2.size K3;obtain⟨gs,hA,hgs,hr1⟩:=y8.piece p1 ud (S.length-ud) I I;obtain⟨_,hA2,_,hr2⟩:=y8.piece p1 0 ud I I;rw[hA]at hA2;injection hA2 with hA2;injection hA2 with hA2;subst hA2;subst hA;have aiB:=K3.size;have aEJ:w.heap.size<wc.heap.size:=OM d0;replace hr1:=tX hr1 K3 hgs;replace hr2:=tX hr2 K3 hgs;rw[Nat.zero_add]at hr1;rw[Nat.zero_mul,Nat.add_zero]at hr2;have ty:=y8.ip p3;have agw:=abD (y8.own p3);have hca:¬c=ud:=I;have hac:ud<=c:=I;have aFH:(ud:Int)<=c:=I;have hwc:w.heap.size<=wc.heap.size:=H2.size;have l1:(AR ((S.drop ud).take (S.length-ud))).length=(S.length-ud)*18:=by rw[zR _ (fun a ha=>ty a (List.mem_of_mem_drop (List.mem_of_mem_take ha)))];simp
  have l2:(AR ((S.drop 0).take ud)).length=ud*18:=by rw[zR _ (fun a ha=>ty a (List.mem_of_mem_drop (List.mem_of_mem_take ha)))];simp;omega
  have ajc:S.length-ud+ud=S.length:=I;have FIN:Hid (AR ((S.drop ud).take (S.length-ud))++AR ((S.drop 0).take ud)=AR (xr r turn)/\(xr r turn).length=S.length/\∀a∈xr r turn,a.ip.length=16):=Y (by
   rw[HS.out];refine⟨?_,az,?_⟩
   ·rw[<-Ii,List.drop_zero,List.take_of_length_le ap]
   ·
    intro a ha;rcases List.mem_append.1 ha with h|h
    ·exact ty a (List.mem_of_mem_drop h)
    ·
     exact ty a (List.mem_of_mem_take h))
  have o1:=LO ((S.drop ud).take (S.length-ud));have o2:=LO ((S.drop 0).take ud);clear K3 g3 d0 p1 ai1 ai2 ai3 ai4 ty agw;generalize AR ((S.drop ud).take (S.length-ud))=N1 at*;generalize AR ((S.drop 0).take ud)=N2 at*;go_wp2_with(at_builtin;go_must(refine zu w3 J (.tmp 27) (.tmp 31) 65 J 24 _ 18 32 underlying65 yS (by kernel_rfl) ax wc.heap.size _ 0 [] J o3 aiB (some ⟨gs,ud*18,none⟩) (S.length-ud) (c-ud) N1 (by simp[Act.eval,hca]) (fun _=>⟨gs,ud*18,J,hr1⟩) l1 o1 aJ I _ J ?_));intro A4 c4 w4 o4 g4;have g4':w3.grownBy w4 (some wc.heap.size):=g4;have awC:w4.rangeAt gs 0 N2:=fun j v hv=>by rw[<-hr2 j v hv];exact yH g4' ⟨gs,_,none⟩ az az
  have e0':w4.cell? ⟨w.heap.size,0,none⟩=some (.slice (some ⟨gs,0,none⟩) S.length c):=by rw[<-e0];exact yH g4' ⟨w.heap.size,0,none⟩ az az
  have H4:=tN H3 g4' H3.size hwc;have arB:=g4'.size;clear g4 g4' e0 hr1 hr2 o3 H3 hca;go_wp2_with(at_builtin;go_must(refine zu w4 J (.tmp 33) (.tmp 37) 65 J 24 _ 18 32 underlying65 yS (by kernel_rfl) ax wc.heap.size _ (S.length-ud) N1 (by simp[Act.eval]) o4 (Nat.le_trans aiB arB) (some ⟨gs,0,none⟩) ud c N2 (by simp[Act.eval]) (fun _=>⟨gs,0,J,awC⟩) l2 o2 aJ I S.length ajc.symm ?_));intro A5 c5 w5 o5 g5;have H5:=(H4.grown g5 (Nat.le_trans hwc (Nat.le_trans aiB arB)) (fun k O=>Nat.le_trans hwc (yI o4 k O)));clear g5;go_wp2_with fail;go_ret;obtain⟨f1,f2,f3⟩:=FIN.out;refine⟨_,J,y8.mk ?_ f3,H5⟩;rw[f2,<-f1];exact Cg o5
def Xm(cs:List Value)(a:uV):Prop:=∃r:Int,cs=a.cells++[.int .i64 r]/\a.ip.length=16
theorem Xm.len{cs:List Value}{a:uV}(h:Xm cs a):cs.length=19:=by obtain⟨r,rfl,h⟩:=h;simp[a.ur h]
abbrev LX(w:World)(B:Nat)(v:Value)(l:List uV):Prop:=uy w B 249 19 Xm v l
def aeX:List Value:=uV.zero.cells++[.int .i64 0]
theorem Sh:(prog.info? 249).map (fun i=>(i.zero,i.size,i.bytes))=some (some (.agg aeX.toArray),19,40):=by kernel_rfl
theorem Uv(fam cl r:Int)(b0 b1 b2 b3 b4 b5 b6 b7 b8 b9 b10 b11 b12 b13 b14 b15:UInt8)(W:World):
  (Instr.build 249 #[(0,.agg (uV.cells ⟨fam,[b0,b1,b2,b3,b4,b5,b6,b7,b8,b9,b10,b11,b12,b13,b14,b15],cl⟩).toArray),(1,.int .i64 r)]).run prog W= .ok (.agg (uV.cells ⟨fam,[b0,b1,b2,b3,b4,b5,b6,b7,b8,b9,b10,b11,b12,b13,b14,b15],cl⟩++[Value.int .i64 r]).toArray) W:=by
 kernel_rfl
theorem Z6(a:uV)(r:Int)(h:a.ip.length=16)(W:World):(Instr.build 249 #[(0,.agg a.cells.toArray),(1,.int .i64 r)]).run prog W= .ok (.agg (a.cells++[Value.int .i64 r]).toArray) W:=by
 obtain⟨fam,ip,cl⟩:=a;have h':ip.length=16:=h;clear h;match ip,h' with
 |[b0,b1,b2,b3,b4,b5,b6,b7,b8,b9,b10,b11,b12,b13,b14,b15],_=>exact Uv fam cl r b0 b1 b2 b3 b4 b5 b6 b7 b8 b9 b10 b11 b12 b13 b14 b15 W
theorem abE(n:Int)(a b c d e g h i j:Value)(W:World):(Instr.field 69 (.agg [a,b,c,d,e,.int .i64 n,g,h,i,j].toArray) 5).run prog W= .ok (.int .i64 n) W:=by kernel_rfl
def wP(l:List uV):Nat->List uV
 |0=>[]
 |k+1=>wP l k++l
theorem EL(l:List uV):∀k,(wP l k).length=k*l.length
 |0=>by simp[wP]
 |k+1=>by rw[wP,List.length_append,EL l k,Nat.add_mul,Nat.one_mul]
def vj(r:Rs)(turn:Int):List uV:=wP (xr r turn) (ui r).ud.toNat
theorem AK(r:Rs)(turn:Int):(xr r turn).length=(ui r).sv.length:=by
 have:=Ke r turn;unfold xr;simp;omega
theorem Uw(r:Rs):1<=(ui r).ud/\(ui r).ud<=5:=by
 show 1<=min (max r.ud 1) 5/\min (max r.ud 1) 5<=5;omega
theorem PF(r:Rs):1<=(ui r).hS/\(ui r).hS<=30:=by
 show 1<=min (max r.hS 1) 30/\min (max r.hS 1) 30<=30;omega
def abF(l:List uV)(w:World)(e:Ending)(w':World):Prop:=∃v,e= .returned v/\LX w' 0 v l/\al w w'
theorem Xn(w0:World)(cs:List Value)(r:Rs)(turn:Int)(w:World)(h:CU w0 cs r)(hw:al w0 w):Calls prog 88 #[.agg cs.toArray,.int .i64 turn] w (abF (vj r turn) w):=by
 have hl:=h.len;have HD:=Y (fun W F=>Ih w0 cs r W h (tL hw hw.size F));have SD:=Y (fun W F=>Sg w0 cs r turn W h (tL hw hw.size F));have HT:Hid (vj r turn=wP (xr r turn) (ui r).ud.toNat):=nb;have hsl:=AK r turn;have hs3:=(Fu r).2;obtain⟨ha1,ha2⟩:=Uw r;obtain⟨na,hna⟩:∃na:Nat,(ui r).ud=na:=⟨(ui r).ud.toNat,I⟩;rw[hna]at HT ha1 ha2;rw[Int.toNat_natCast]at HT;rw[<-hsl]at hs3;have HNA:=Y hna;clear h hw hsl hna;generalize xr r turn=S at*;have HB:Below w.heap.size w (w.alloc (.cells cs.toArray 69)):=gj;have B0:=Z.new w 69 cs;go_enter func88,ntmps88;go_wp2_with(refine tO (.load 69 (.tmp 2)) J ?_;go_must(refine tP J _ _ J w.heap.size 0 J B0 10 I _ underlying69 J zX cs (wg I) ?_));refine(SD.out _ HB).mono ?_;rintro _ w1 ⟨vS,rfl,oS,b1⟩;replace B0:=B0.G b1 B0.lt;have H1:=tL HB HB.size b1;clear b1 HB SD;go_wp2_with(refine tO (.load 69 (.tmp 2)) J ?_;go_must(refine tP J _ _ J w.heap.size 0 J B0 10 I _ underlying69 J zX cs (wg I) ?_));refine(HD.out _ H1).mono ?_;rintro _ w2 ⟨cs1,rfl,ho,b2⟩;have H2:=tL H1 H1.size b2;replace oS:=uy.G (R':=Cl) oS b2 (fun _ _ h=>h);have F5:Hid (∀W,(Instr.field 69 (.agg cs1.toArray) 5).run prog W= .ok (.int .i64 na) W):=Y (fun W=>by
  obtain⟨v1,v2,v3,rfl,_⟩:=ho;rw[<-HNA.out];exact abE ..)
 clear b2 ho H1 HD B0 HNA;obtain⟨A,c,hv⟩:=oS.form;subst hv;go_wp2_with(refine tO (.field 69 (.tmp 14) 5) J ?_;go_must(refine Co J 69 (.tmp 14) 5 J J (F5.out _) ?_));go_loopw[6,16] (fun kv iv wr=>∃k:Nat,k<=na/\iv= .int .i64 k/\LX wr w.heap.size kv (wP S k)/\y8 wr 0 (.slice A S.length c) S/\al w wr) (fun _ iv _=>na-(intOf iv).toNat)
 case atStart=>exact⟨0,Nat.zero_le _,J,uy.nil _ _ _ _ _,oS,H2⟩
 clear oS H2;obtain⟨k,O,rfl,ho,oS,hB⟩:=hrel;by_cases Hh:k<na
 case neg=>have tQ:¬(k:Int)<na:=I;go_wp2_with fail;go_ret;refine⟨_,J,?_,hB⟩;rw[HT.out,show na=k by omega];exact uy.zero ho
 have tQ:(k:Int)<na:=I;obtain⟨Ak,ck,hv⟩:=ho.form;subst hv;have hb3:k*S.length<=15:=by have U:k*S.length<=4*3:=Nat.mul_le_mul I hs3;omega
 have hrl:(wP S k).length<=15:=nI;have HR:Hid (wP S (k+1)=wP S k++S):=nb;obtain⟨wo,hwo⟩:∃wo:World,wr=wo:=gp;subst hwo;generalize wP S k=R at*;go_wp2_with fail;go_loopw[6,21] (fun kv iv wx=>∃j:Nat,j<=S.length/\iv= .int .i64 j/\LX wx w.heap.size kv (R++S.take j)/\y8 wx 0 (.slice A S.length c) S/\al w wx) (fun _ iv _=>S.length-(intOf iv).toNat)
 case atStart=>exact⟨0,Nat.zero_le _,J,by simpa using ho,oS,hB⟩
 clear ho oS hB;obtain⟨j,hj,rfl,ho,oS,hB⟩:=hrel;by_cases hjl:j<S.length
 case neg=>
  have ak3:¬(j:Int)<S.length:=I;rw[List.take_of_length_le I]at ho;go_wp2_with fail;go_roundw
  case rel=>exact⟨k+1,I,fU,by rw[HR.out];exact ho,oS,hB⟩
  case measure=>simp[intOf];omega
 have ak3:(j:Int)<S.length:=I;have hle:(R++S.take j).length+1<=100:=az;obtain⟨Q,hQ⟩:=ao (R++S.take j);rw[hQ.out]at ho hle;obtain⟨Aj,cj,hv⟩:=ho.form;subst hv;obtain⟨gs,hA,hgs,hr⟩:=oS.ud (fun _ _ h=>h.len) I;obtain⟨cx,hcx,hce,ty⟩:=hr j hjl;have hcl:cx.length=18:=Cl.len ⟨hce,ty⟩;have afx:∀v∈cx,v.oneCell'=true:=iY;have RB:Hid (∀W,(Instr.build 249 #[(0,.agg cx.toArray),(1,.int .i64 k)]).run prog W= .ok (.agg (cx++[Value.int .i64 k]).toArray) W):=Y (fun W=>by rw[hce];exact Z6 _ _ ty W);have TI:Hid (Xm (cx++[Value.int .i64 k]) S[j]):=Y ⟨k,by rw[hce],ty⟩;have HS:Hid (S.take (j+1)=S.take j++[S[j]]):=Y (List.take_succ_eq_append_getElem hjl);have htl:(cx++[Value.int .i64 k]).length=19:=by simp[hcl]
 have hto:∀v∈cx++[Value.int .i64 k],v.oneCell'=true:=by
  intro v hv;rcases List.mem_append.1 hv with h|h
  ·exact afx v h
  ·simp at h;subst h;rfl
 have HO:=Y ho;have HOS:=Y oS;rw[Nat.zero_add]at hcx;subst hA;have ao3:(uV.zero.cells).length=18:=uV.zero.ur J;have W1:Below wr.heap.size wr (wr.alloc (.cells uV.zero.cells.toArray 24)):=gj;clear hce ty hr ho oS;obtain⟨tc,htc⟩:∃tc,cx++[Value.int .i64 k]=tc:=gp;rw[htc]at RB TI htl hto;clear htc;go_wp2_with(first
  |(refine tO (.load 24 (.tmp 23)) rfl ?_;go_must(refine vM rfl 24 (.tmp 23) rfl gs (j*18) rfl cx hcx _ underlying24 rfl cM ?_))
  |(refine tO (.store 24 (.tmp 9) (.tmp 24)) rfl (ab rfl wr.heap.size 0 cx (Z.new wr 24 uV.zero.cells) I cM afx ?_)))
 intro w3 B3 g3 sw;clear sw;have B3':=xG B3 I;have K3:=tN W1 g3 W1.size (Nat.le_refl _);clear B3 g3 W1 hcx;go_wp2_with(first
  |(refine tO (.load 24 (.tmp 9)) rfl ?_;go_must(refine tP rfl _ _ rfl wr.heap.size 0 rfl B3' 18 I _ underlying24 rfl AZ cx (wg I) ?_))
  |(refine tO (.build 249 #[(0,.tmp 26),(1,.tmp 27)]) rfl ?_;go_must(refine wl rfl 249 _ rfl #[(0,.agg cx.toArray),(1,.int .i64 k)] ea (RB.out _) ?_))
  |(refine tO (.buildSlice 173 1 #[(0,.tmp 28)]) rfl ?_;go_must(refine Ck rfl 173 249 _ 19 40 underlying173 Sh ax ax (.tmp 28) rfl tc rfl htl ?_)))
 intro w4 B4 K4;have K5:=tL K3 K3.size K4;have O4:=uy.G (R':=Xm) HO.out K5 (fun _ _ h=>h);have N4:=HO.out.ne K3.size;have S4:=uy.G (R':=Cl) HOS.out K5 (fun _ _ h=>h);have H4:=tL hB hB.size K5;clear HO HOS K3 K4 K5 B3' hB;go_wp2_with(at_builtin;go_must(refine xS _ J _ _ 173 J 249 _ 19 40 underlying173 Sh (by kernel_rfl) ax w.heap.size _ _ J O4 H4.size w3.heap.size tc S[j] J B4 N4 htl hto TI.out aJ I ?_));intro v5 w5 O5 g5;have hbs:=O4.base;have S5:y8 w5 0 (.slice (some ⟨gs,0,none⟩) S.length c) S:=by obtain⟨_,o4,_⟩:=O4;exact S4.ue (fun _ x=>Hb x o4 ax g5) (fun _ _ x=>x)
 have H5:=H4.grown g5 H4.size hbs;clear g5 O4 S4 H4 B4 N4;go_wp2_with fail;go_roundw
 case rel=>exact⟨j+1,I,fU,by rw[HS.out,<-List.append_assoc,hQ.out];exact O5,S5,H5⟩
 case measure=>simp[intOf];omega
def aeu(r:Rs):Nat:=3*(vj r 0).length
def IY(r:Rs):Nat:=(ui r).hS.toNat*aeu r
theorem IZ(r:Rs)(turn:Int):(vj r turn).length=(ui r).ud.toNat*(ui r).sv.length:=by unfold vj;rw[EL,AK]
theorem EM(r:Rs)(turn:Int):1<=(vj r turn).length/\(vj r turn).length<=15:=by
 rw[IZ];obtain⟨U,X⟩:=Fu r;obtain⟨h3,h4⟩:=Uw r;exact⟨Nat.mul_pos I U,Nat.le_trans (Nat.mul_le_mul (show(ui r).ud.toNat<=5 by omega) X) ax⟩
theorem Si{w:World}(t:TypeId)(x:Operand)(f:Nat)(ho:o.op= .field t x f)(hx:a.eval x=v)(hr:(Instr.field t v f).run P w= .ok v' w):(execOp a.eval o).run P w= .ok (.value v') w:=by
 unfold execOp;simp only[ho,hx,Sem.run_bind,hr,Result.andThen_ok,Sem.run_pure]
end Go.Proofs.YthnbcmlnpdabhaaGreat
