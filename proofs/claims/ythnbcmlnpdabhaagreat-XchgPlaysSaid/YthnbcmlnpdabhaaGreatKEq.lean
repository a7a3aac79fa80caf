/-
  Layer 29,the laws' own:XchgEnds.
-/
import Derived.Test.YthnbcmlnpdabhaaGreatKCq
namespace Go.Proofs.YthnbcmlnpdabhaaGreat
open _root_.Go.Proofs.Tryz
set_option maxHeartbeats 8000000
open Go.RowKit
set_option maxRecDepth 100000
set_option linter.unusedVariables false
set_option linter.unusedSimpArgs false
variable {T gl lo nt k hv:Nat} {w w0 w':World} {v v2:Value}
structure VN (n T:Nat) (x:Xc) (tk:Nat):Prop where
 tr:x.tr.length=n
 rst:x.uV+x.rest<=3*n
 Tu:x.Tu<=T-tk
 lg:x.lg<=2
 vd:x.done=true->x.vd≠0
theorem VN.ac8{n:Nat}{x:Xc}{tk:Nat}(h:VN n T x tk)(ok:x.ok)(L:Lt)(e:Ev):VN n T (xI x L e).1 (tk+if e.kind=1 then 1 else 0)/\(xI x L e).1.uV=x.uV+yN (xI x L e).2.2/\(xI x L e).2.1.us<=L.us+2/\(xI x L e).2.1.ds=L.ds/\(xI x L e).1.d.uR.length<=x.d.uR.length+e.data.length:=by
 have aeH:=Yr ok.st (fun hd=>(ok.go hd).2.1) h.lg h.vd L e;have U:=h.rst;have X:=h.Tu;have h3:=aeH.snt;have h4:=aeH.rst;have h5:=aeH.Tu;refine⟨⟨by rw[aeH.tr];exact h.tr,I,?_,aeH.lg,aeH.vd⟩,aeH.snt,aeH.us,aeH.ds,aeH.hd⟩;split at h5<;>rename_i z
 ·rw[if_pos z];omega
 ·rw[if_neg z];omega
theorem ac9(r:Rs)(q:Qn)(turn:Int)(L:Lt)(ok:(BL (uJ r).cl (uJ r).vc (uJ r).ed q (vP r turn) L).1.ok)(he:(vN (vW q 0 (uJ r).ed) false).2=0):(Dc (uJ r).cl (uJ r).vc (uJ r).ed q (vP r turn)).st:=by
 have hl:=(Fy r turn).1;unfold BL at ok;rw[if_neg (by rw[he];decide)]at ok;unfold Db at ok;rw[if_pos (by show 0<(vP r turn).length;omega)]at ok;obtain⟨f1,f2,f3,f4,f5,f6,f7,f8,f9⟩:=aaW (Dc (uJ r).cl (uJ r).vc (uJ r).ed q (vP r turn)) L (if(Dc (uJ r).cl (uJ r).vc (uJ r).ed q (vP r turn)).vc then 2 else 0);have st:=ok.st (f1.trans J);exact⟨by have:=st.ips;rwa[f2]at this,by have:=st.to1;rwa[f4]at this,by have:=st.to2;rwa[f4]at this,by have:=st.trl;rwa[f2]at this,by have:=st.err;rwa[f8]at this⟩
theorem Ug(cl:Int)(vc ed:Bool)(q:Qn)(tr:List vG)(L:Lt):(BL cl vc ed q tr L).2.2.length<=1:=by
 unfold BL;split
 ·exact Nat.zero_le _
 ·exact BO _ _
theorem VN.new(r:Rs)(q:Qn)(turn:Int)(L:Lt)(hu:L.us=0)(ok:(BL (uJ r).cl (uJ r).vc (uJ r).ed q (vP r turn) L).1.ok):VN (vP r 0).length (MH r) (BL (uJ r).cl (uJ r).vc (uJ r).ed q (vP r turn) L).1 0/\(BL (uJ r).cl (uJ r).vc (uJ r).ed q (vP r turn) L).1.uV=yN (BL (uJ r).cl (uJ r).vc (uJ r).ed q (vP r turn) L).2.2/\(BL (uJ r).cl (uJ r).vc (uJ r).ed q (vP r turn) L).2.1.us<=2/\(BL (uJ r).cl (uJ r).vc (uJ r).ed q (vP r turn) L).2.1.ds=L.ds/\(BL (uJ r).cl (uJ r).vc (uJ r).ed q (vP r turn) L).1.d.uR.length=0:=by
 have hl:(vP r turn).length=(vP r 0).length:=by rw[Ju,Ju]
 have aeH:=aaX (uJ r).cl (uJ r).vc (uJ r).ed q (vP r turn) L (ac9 r q turn L ok);have h3:=aeH.snt;have h4:=aeH.rst;have h5:=aeH.Tu;have h6:=aeH.us;have h7:=aeH.hd;have h0:(Dc (uJ r).cl (uJ r).vc (uJ r).ed q (vP r turn)).uV=0:=rfl;have hT:MH r=(uJ r).cl.toNat*(3*(vP r 0).length):=rfl;rw[hl]at h4 h5;refine⟨⟨by rw[aeH.tr];exact hl,I,by rw[hT];exact h5,aeH.lg,aeH.vd⟩,I,I,aeH.ds,I⟩
theorem abr{vs vn:Value}{cs:List Value}{q:Qn}{turn:Int}(h:cs.length=10):(EY vs vn cs q turn).length=15/\((EY vs vn cs q turn).drop 0).take 10=cs/\((EY vs vn cs q turn).drop 10).take 3=qC vn q/\(EY vs vn cs q turn)[13]?=some (.int .i64 turn)/\(EY vs vn cs q turn)[14]?=some vs:=by
 unfold EY;refine⟨by simp[qC,h],by rw[List.drop_zero];exact List.take_left' h,?_,?_,?_⟩
 ·rw[List.drop_left' h];rfl
 ·rw[List.getElem?_append_right I,h];rfl
 ·rw[List.getElem?_append_right I,h];rfl
theorem aft:(prog.info? 72).map (·.size)=some 15:=by kernel_rfl
structure PX (w0 w:World) (g gl:Nat) (D:Option Nat) (x:Xc) (L:Lt):Prop where
 x:yh w g gl D x
 l:yn w gl L
 g0:w0.heap.size<=g
 l0:w0.heap.size<=gl
 d0:∀i,D=some i->w0.heap.size<=i
theorem yh.afu{g:Nat}{D:Option Nat}{x:Xc}(h:yh w g gl D x):∀i,D=some i->∃ul,F w i 152 ul:=fun i hi=>by
 obtain⟨_,_,_,_,_,_,U,X⟩:=h;cases hd:x.done with
 |true=>rw[U hd]at hi;cases hi
 |false=>
  obtain⟨_,_,_,h3,h4⟩:=X hd;by_cases hl:x.lg=2
  ·obtain⟨gd,e,hA⟩:=h4 hl;rw[e]at hi;injection hi with hi;rw[<-hi];exact hA.Ny
  ·rw[h3 hl]at hi;cases hi
section
variable {w0 w w':World} {g gl:Nat} {D:Option Nat} {x y:Xc} {L ul:Lt} {gq gql:Nat} {A As:Option Addr} {c cd:Nat} {Dq:Option Nat} {r:XR} {e:Ending}
theorem PX.fr{S:Nat->Prop}(h:PX w0 w g gl D x L)(k:Fr S w w')(hg:¬S g)(hl:¬S gl)(hD:∀i ul,D=some i->F w i 152 ul->¬S i):PX w0 w' g gl D x L:=⟨h.x.fr k hg hD,h.l.fr k hl,h.g0,h.l0,h.d0⟩
theorem PX.G(h:PX w0 w g gl D x L)(k:al w w'):PX w0 w' g gl D x L:=h.fr (S:=fun _=>False) (Fr.G k) (fun h=>h) (fun h=>h) (fun _ _ _ _ h=>h)
theorem PX.aeE(h:PX w0 w g gl D x L)(Z:al w0 w)(hr:zy g gl D r w e w'):∃v D',e= .returned v/\vJ w.heap.size w' v r.2.2/\PX w0 w' g gl D' r.1 r.2.1/\Fr (XS g gl D) w w'/\al w0 w'/\∀i,D'=some i->D=some i\/w.heap.size<=i:=by
 obtain⟨v,D',he,ho,hx,hl,hf,hD⟩:=hr;refine⟨v,D',he,ho,⟨hx,hl,h.g0,h.l0,fun i hi=>?_⟩,hf,hf.zq Z Z.size (fun i hi hs=>?_),hD⟩
 ·
  rcases hD i hi with U|U
  ·exact h.d0 i U
  ·exact Nat.le_trans Z.size U
 ·
  have:=h.g0;have:=h.l0;rcases hs with U|U|U
  ·omega
  ·omega
  ·have:=h.d0 i U;omega
theorem PX.uR(h:PX w0 w g gl D x L)(Z:al w0 w)(hr:zy g gl D r w e w'):∃v D',e= .returned v/\vJ w.heap.size w' v r.2.2/\PX w0 w' g gl D' r.1 r.2.1/\Fr (XS g gl D) w w'/\al w0 w':=by
 obtain⟨v,D',U,X,h3,h4,h5,_⟩:=h.aeE Z hr;exact⟨v,D',U,X,h3,h4,h5⟩
theorem zj.byX(hq:zj w0 w gq gql A c As cd Dq y ul)(h:PX w0 w g gl D x L)(k:Fr (XS g gl D) w w'):zj w0 w' gq gql A c As cd Dq y ul:=by
 obtain⟨L1,b1⟩:=h.x.vj;obtain⟨L2,b2⟩:=yO h.l;obtain⟨L3,b3⟩:=hq.vj;obtain⟨qs,s,_⟩:=hq.s;have key:∀{i:Nat} {t:TypeId} {ae:List Value},F w i t ae->t≠177->t≠180->t≠152->¬XS g gl D i:=fun Z n1 n2 n3 hs=>by
  rcases hs with U|U|U
  ·exact yg Z b1 n1 U
  ·exact yg Z b2 n2 U
  ·obtain⟨ae,hN⟩:=h.x.afu _ U;exact yg Z hN n3 J
 refine hq.fr k (key b3 az az az) (key s.l az az az) (fun i ae _ Z=>key Z az az az) (fun i hs=>?_);rcases hs with U|U|U
 ·rw[U];exact h.g0
 ·rw[U];exact h.l0
 ·exact h.d0 i U
theorem vJ.byX{o:List Ou}(ho:vJ lo w v o)(h:PX w0 w g gl D x L)(k:Fr (XS g gl D) w w'):vJ lo w' v o:=by
 obtain⟨uo,U,X⟩:=ho;have HO:vJ lo w v o:=⟨uo,U,X⟩;obtain⟨L1,b1⟩:=h.x.vj;obtain⟨L2,b2⟩:=yO h.l;refine⟨uo,k.acD U (fun b Z hs=>?_),X⟩;rcases hs with h3|h3|h3
 ·exact HO.EV b1 az fR
 ·exact HO.EV b2 az fR
 ·obtain⟨ae,hN⟩:=h.x.afu _ h3;exact HO.EV hN az Z
theorem zj.nRS(hq:zj w0 w gq gql A c As cd Dq y ul){i:Nat}{t:TypeId}{ae:List Value}(Z:F w i t ae)(n1:t≠90)(n2:t≠86)(n3:t≠163):¬RS w0 w gq gql i:=fun hs=>by
 obtain⟨L3,b3⟩:=hq.vj;obtain⟨qs,s,_⟩:=hq.s;rcases hs with U|U|⟨_,N',U⟩
 ·exact yg Z b3 n1 U
 ·exact yg Z s.l n2 U
 ·exact yg Z U n3 J
theorem PX.byQ(h:PX w0 w g gl D x L)(hq:zj w0 w gq gql A c As cd Dq y ul)(k:Fr (RS w0 w gq gql) w w'):PX w0 w' g gl D x L:=by
 obtain⟨L1,b1⟩:=h.x.vj;obtain⟨L2,b2⟩:=yO h.l;exact h.fr k (hq.nRS b1 az az az) (hq.nRS b2 az az az) (fun i ae _ Z=>hq.nRS Z az az az)
theorem vJ.byQ{o:List Ou}(ho:vJ lo w v o)(hq:zj w0 w gq gql A c As cd Dq y ul)(k:Fr (RS w0 w gq gql) w w'):vJ lo w' v o:=by
 obtain⟨uo,U,X⟩:=ho;have HO:vJ lo w v o:=⟨uo,U,X⟩;obtain⟨L3,b3⟩:=hq.vj;obtain⟨qs,s,_⟩:=hq.s;refine⟨uo,k.acD U (fun b Z hs=>?_),X⟩;rcases hs with h3|h3|⟨_,ae,hN⟩
 ·exact HO.EV b3 az fR
 ·exact HO.EV s.l az fR
 ·exact HO.EV hN az Z
theorem zj.abt(hq:zj w0 w gq gql A c As cd Dq y ul)(k:Fr (RS w0 w gq gql) w w'):al w0 w':=by
 obtain⟨qs,s,_⟩:=hq.s;refine k.zq s.bw s.bw.size (fun i hi hs=>?_);have:=s.lo;have:=s.ll;rcases hs with h3|h3|⟨h3,_⟩<;>omega
end
theorem PX.Cm{g:Nat}{D:Option Nat}{x:Xc}{L:Lt}{o:List Ou}(h:PX w0 w g gl D x L)(ho:vJ lo w v o)(k:Fr (fun i=>v.ownBlock=some i) w w'):PX w0 w' g gl D x L:=by
 obtain⟨L1,b1⟩:=h.x.vj;obtain⟨L2,b2⟩:=yO h.l;exact h.fr k (ho.EV b1 az) (ho.EV b2 az) (fun i ae _ Z=>ho.EV Z az)
theorem zj.Cm{gq gql:Nat}{A As:Option Addr}{c cd:Nat}{Dq:Option Nat}{y:Xc}{ul:Lt}{o:List Ou}(h:zj w0 w gq gql A c As cd Dq y ul)(ho:vJ lo w v o)(uw:w0.heap.size<=lo)(k:Fr (fun i=>v.ownBlock=some i) w w'):zj w0 w' gq gql A c As cd Dq y ul:=by
 obtain⟨L1,b1⟩:=h.vj;obtain⟨qs,s,_⟩:=h.s;exact h.fr k (ho.EV b1 az) (ho.EV s.l az) (fun i ae _ Z=>ho.EV Z az) (fun i hi=>by
  obtain⟨uo,U,_⟩:=ho;exact Nat.le_trans uw (xZ U i hi))
theorem VP(w:World)(O:TypeId){lo2:Nat}{v1:Value}{o1 o2:List Ou}(U:vJ lo w v1 o1)(X:vJ lo2 w v2 o2)(uw:lo<=w.heap.size)(hl:o1.length+o2.length<=100000):
  ∃v' w',(Builtin.append_ #[34,34] O #[v1,v2]).run prog w= .ok v' w'/\vJ lo w' v' (o1++o2)/\Fr (fun i=>v1.ownBlock=some i) w w'/\(v'.ownBlock=v1.ownBlock\/v'.ownBlock=some w.heap.size):=by
 obtain⟨v',w',hr,ho,hf⟩:=Pn w O U X uw hl;refine⟨v',w',hr,ho,hf,?_⟩;obtain⟨akk,w1,e1⟩:=U;obtain⟨ajF,w2,e2⟩:=X;obtain⟨l1,_⟩:=EF e1;obtain⟨l2,n2⟩:=EF e2;obtain⟨A2,c2,rfl⟩:=ya w2;obtain⟨i,hi,hz,adh,hby⟩:=info_parts IJ;by_cases hm:0<o2.length
 ·
  obtain⟨g,L,rfl,Z,hL,_⟩:=AY w2 hm l2;obtain⟨v2,w2',hr2,_,_,_,h5⟩:=run_append_own_at (P:=prog) w lo 34 O 97 i _ 21 64 underlying34 hi hz adh hby (by kernel_rfl) az v1 o1.length akk.flatten w1 ⟨g,0,none⟩ o2.length c2 ajF.flatten l2 (fun j u hu=>by
   have agU:(⟨g,0,none⟩:Addr).add j=⟨g,j,none⟩:=gT;rw[agU];refine Z.M j ?_;rw[<-hL,List.getElem?_take]at hu;split at hu
   ·exact hu
   ·
    cases hu) n2 aK I uw
  rw[hr]at hr2;injection hr2 with e1 e2;rw[e1];exact h5
 ·
  have h0:o2.length=0:=I;rw[h0]at hr;obtain⟨A',c',rfl,agT⟩:∃A' c',v1= .slice A' o1.length c'/\o1.length<=c':=by
   rcases w1.2 with⟨rfl,h⟩|⟨g,cap,cur,rfl,_,_,hc,_⟩
   ·exact⟨none,0,by rw[h],I⟩
   ·exact⟨_,_,J,hc⟩
  have:(Builtin.append_ #[34,34] O #[.slice A' o1.length c',.slice A2 0 c2]).run prog w= .ok (.slice A' o1.length c') w:=by
   cases A2 with
   |none=>cases A'<;>simp[Builtin.append_,run_underlying underlying34,sizeOf,typeInfo,hi,adh,Builtin.lenOf,agT,Builtin.firstCells,storeCells]
   |some ad=>have hl0:(loadCells ad 0).run prog w= .ok #[] w:=rfl;cases A'<;>simp[hl0,Builtin.append_,run_underlying underlying34,sizeOf,typeInfo,hi,adh,Builtin.lenOf,agT,Builtin.firstCells,storeCells]
  rw[this]at hr;injection hr with e1 e2;rw[<-e1];exact .inl J
theorem He(w:World){ops:Array Oper}{rest:List Oper}{o:Oper}{a:Act}{Q:Exit->Act->World->Prop}(hgd:o.guard=none)(s x:Operand)
  (ho:o.op= .call {callee:=.builtin .append,args:= #[s,x],argTypes:= #[34,34]}) {lo lo2:Nat} {v1 v2:Value} {o1 o2:List Ou} (hs:a.eval s=v1) (hx:a.eval x=v2) (U:vJ lo w v1 o1) (X:vJ lo2 w v2 o2) (uw:lo<=w.heap.size) (hl:o1.length+o2.length<=100000)
  (h:∀v' w',vJ lo w' v' (o1++o2)->Fr (fun i=>v1.ownBlock=some i) w w'->(v'.ownBlock=v1.ownBlock\/v'.ownBlock=some w.heap.size)->wpList prog ops Q rest (a.put o.dst v') w'):wpList prog ops Q (o::rest) a w:=by
 refine wpList_plain hgd fun hb hK=>?_
 obtain⟨v',w',hr,h3,h4,h5⟩:=VP w o.type U X uw hl;unfold Oper.wp execOp;simp only[ho,resolve,invoke,builtin,Sem.run_bind,Sem.run_pure,Result.andThen_ok,List.map_toArray,List.map_cons,List.map_nil,hs,hx,hr];exact hK _ _ (h v' w' h3 h4 h5)
theorem vJ.lt{o:List Ou}(h:vJ lo w v o){b:Nat}(Z:v.ownBlock=some b):b<w.heap.size:=by
 obtain⟨uo,U,_⟩:=h;exact(U.lt b Z).2
theorem vJ.apart{o:List Ou}(h:vJ lo w v o)(k:Fr (fun i=>v2.ownBlock=some i) w w')(hn:∀i,v.ownBlock=some i->v2.ownBlock≠some i):vJ lo w' v o:=by
 obtain⟨uo,U,X⟩:=h;exact⟨uo,k.acD U hn,X⟩
structure OkX (nt T k hv:Nat) (x:Xc) (L:Lt):Prop where
 i:∃tk,VN nt T x tk
 n:nt<=15
 u:L.us<=2+2*k
 d:L.ds.length<=200
 h:x.d.uR.length<=hv
 o:x.oc
theorem OkX.ac8{x:Xc}{L:Lt}(h:OkX nt T k hv x L)(ok:x.ok)(e:Ev):OkX nt T (k+1) (hv+e.data.length) (xI x L e).1 (xI x L e).2.1:=by
 obtain⟨tk,hi⟩:=h.i;obtain⟨i1,i2,i3,i4,i5⟩:=hi.ac8 ok L e;have:=h.u;have:=h.h;exact⟨⟨_,i1⟩,h.n,I,by rw[i4];exact h.d,I,abq h.o L e⟩
theorem OkX.new(r:Rs)(q:Qn)(turn:Int)(L:Lt)(hu:L.us=0)(hd:L.ds.length<=200)(ok:(BL (uJ r).cl (uJ r).vc (uJ r).ed q (vP r turn) L).1.ok):OkX (vP r 0).length (MH r) 0 0 (BL (uJ r).cl (uJ r).vc (uJ r).ed q (vP r turn) L).1 (BL (uJ r).cl (uJ r).vc (uJ r).ed q (vP r turn) L).2.1:=by
 obtain⟨n1,n2,n3,n4,n5⟩:=VN.new r q turn L hu ok;exact⟨⟨0,n1⟩,(Fy r 0).2,I,by rw[n4];exact hd,by rw[n5];exact Nat.le_refl _,ac6 _ _ _ _ _ _⟩
theorem OkX.uV{x:Xc}{L:Lt}(h:OkX nt T k hv x L):x.uV<=45:=by
 obtain⟨tk,hi⟩:=h.i;have:=h.n;have:=hi.rst;omega
def Pp:Nat->Nat->List UInt8->List UInt8
 |0,_,s=>s
 |f+1,m,s=>if m=0 then s else Pp f (m/10) (([48,49,50,51,52,53,54,55,56,57]:List UInt8).getD (m%10) 0::s)
def ada(n:Nat):List UInt8:=if n=0 then[48]else Pp 20 n []
theorem Uh(n:Nat)(hn:n<=1000000)(w:World):Calls prog 44 #[.int .i64 n] w (xX (.string (bs (ada n))) w):=by
 obtain⟨R,hR⟩:=ao (ada n);rw[hR.out];by_cases h0:n=0
 case pos=>
  subst h0;obtain rfl:R=[48]:=by rw[<-hR.out];rfl
  go_enter func44,ntmps44;exact tn
 have hF:Hid (Pp 20 n []=R):=Y (by rw[<-hR.out];unfold ada;rw[if_neg h0]);have h0':(((n:Nat):Int)==0)=false:=aA;have axT:¬((n:Nat):Int)<0:=I;clear hR;go_enter func44,ntmps44;go_wp2_with fail;go_loopw[3,4,5] (fun mv sv iv wr=>∃(k m:Nat) (s:List UInt8),k<=20/\m<=1000000/\s.length<=k/\mv= .int .u64 m/\sv= .string (bs s)/\iv= .int .i64 k/\Hid (Pp (20-k) m s=R)/\wr=w) (fun _ _ iv _=>20-(intOf iv).toNat)
 case atStart=>exact⟨0,n,[],I,hn,Nat.zero_le _,by first|rfl|(congr 1;done)|go_num,J,J,hF,J⟩
 clear hF h0 h0' axT;obtain⟨k,m,s,z,hm,hs,rfl,rfl,rfl,HD,hwr⟩:=hrel;subst hwr;by_cases hc:k<20/\0<m
 case pos=>
  have c1:(k:Int)<20:=I;obtain⟨d,hd⟩:=ao (([48,49,50,51,52,53,54,55,56,57]:List UInt8).getD (m%10) 0);have he:ByteArray.extract {data:= #[48,49,50,51,52,53,54,55,56,57]} (m%10) (m%10+1)=bs [d]:=by
   rw[<-hd.out];have h10:m%10<10:=Nat.mod_lt _ az;generalize m%10=j at*;match j,h10 with
   |0,_|1,_|2,_|3,_|4,_|5,_|6,_|7,_|8,_|9,_=>rfl
  have HN:Hid (Pp (20-(k+1)) (m/10) (d::s)=R):=Y (by
   rw[<-HD.out,show 20-k=(20-(k+1))+1 by omega,<-hd.out];show _=if m=0 then s else _
   rw[if_neg I])
  clear HD hd;go_wp2_with fail;exact⟨⟨k+1,m/10,d::s,I,I,aA,by congr 1,aO,by congr 1,HN,trivial⟩,by simp[intOf];omega⟩
 have HS:Hid (s=R):=Y (by
  rw[<-HD.out];by_cases h:m=0
  ·
   cases hk':20-k with
   |zero=>rfl
   |succ f=>unfold Pp;rw[if_pos h]
  ·
   rw[show 20-k=0 by omega];rfl)
 by_cases hk2:k<20
 case pos=>obtain rfl:m=0:=I;have c1:(k:Int)<20:=I;exact tV
 case neg=>have c1:¬(k:Int)<20:=I;exact tV
def abv(x:Xc)(w:World)(e:Ending)(w':World):Prop:=∃cs,e= .returned (.tuple #[.agg cs.toArray,.bool (!x.done)])/\al w w'/\(x.done=true->cs=EP)/\(x.done=false->∃A c,Ho w' cs x.y A c)
theorem WU(W:World):(Instr.build 37 #[]).run prog W= .ok (.agg EP.toArray) W:=by kernel_rfl
theorem VQ(g gl:Nat)(D:Option Nat)(x:Xc)(w:World)(h:yh w g gl D x):Calls prog 46 #[.pointer (some ⟨g,0,none⟩)] w (abv x w):=by
 obtain⟨ok,vn,hv,eb,qs,Z,U,X⟩:=h;have HX:Below w.heap.size w (w.alloc (.cells EP.toArray 37)):=gF;have BZ:=F.new w 37 EP;obtain⟨ul,vt,ds0,hbk,hMl,_,_,_,_,_,_,_,c16,_,_,_,_,_,_,c45,_⟩:=Z.cells;have aiq:=hbk.lt;have d16:=hbk.M 16 c16;have d45:=hbk.M 45 c45;clear hMl hbk c16 c45;cases hdn:x.done with
 |true=>
  rw[hdn]at d45;obtain⟨Q,hQ⟩:=ao EP;have RB:=Y (fun W=>WU W);have hql:Q.length=23:=by rw[<-hQ.out];rfl
  have hq1:∀v∈Q,v.oneCell'=true:=nF;have FIN:Hid (∀w2,al w w2->abv x w (.returned (.tuple #[.agg Q.toArray,.bool false])) w2):=Y (fun w2 H=>⟨Q,by rw[hdn];rfl,H,fun _=>hQ.out.symm,fun h=>by rw[hdn]at h;cases h⟩);rw[hQ.out]at RB;clear Z U X d16 ok hdn;exact pG
 |false=>
  rw[hdn]at d45;obtain⟨hhv,-,hqs,-⟩:=X hdn;obtain⟨z,hl1,hl2,hyq,ajX,-⟩:=ok.go hdn;have hst:=ok.st hdn;have afK:x.y.sv.ip.length=16:=jO;subst hqs;obtain⟨ul,hM,hMl,_,_,m23,_,_⟩:=(Z.G HX).qat afK;obtain⟨A,cA,hvn,hNR⟩:=Z.nm.form;rw[<-hyq]at hvn hNR;obtain⟨f,hf⟩:∃f,hv= .func (.func f) #[] #[]:=by
   unfold Qx at hhv;by_cases hlg:x.lg=2
   ·rw[if_pos hlg]at hhv;exact⟨_,hhv⟩
   ·rw[if_neg hlg]at hhv;exact⟨_,hhv⟩
  rw[hf]at d16;have hql:(xY vn x.y).length=23:=wU afK;obtain⟨Q,hQ⟩:=ao (xY vn x.y);have hq1:∀v∈xY vn x.y,v.oneCell'=true:=by rw[hvn];exact IG J
  rw[hQ.out]at m23 hql hq1;have FIN:Hid (∀w2,al w w2->abv x w (.returned (.tuple #[.agg Q.toArray,.bool true])) w2):=Y (fun w2 H=>⟨Q,by rw[hdn];rfl,H,fun h=>(by rw[hdn]at h;cases h),fun _=>⟨A,cA,by rw[<-hQ.out,hvn],afK,hNR.G H⟩⟩);clear Z U X ok hdn hhv hst z hl1 hl2 hyq ajX afK hvn hNR hf;go_enter func46,ntmps46;go_wp2_with(first
   |(refine ur (.binOp .eql 175 (.tmp 16) (.const .nilFunc) 175) rfl ?_;go_must(refine EG (v:=.bool false) bp (by kernel_rfl) ?_))
   |(refine ur (.load 37 (.tmp 22)) rfl ?_;go_must(refine uu rfl _ _ rfl g 17 rfl hM 23 I _ underlying37 rfl Dy Q m23 ?_))
   |(refine ur (.store 37 (.tmp 2) (.tmp 23)) rfl (ab rfl w.heap.size 0 Q BZ fS eU hq1 ?_)))
  clear hM;intro w2 B2 g2 sw;clear sw;replace B2:=xA (L:=Q) B2 fT;have H2:=uq HX g2 HX.size (Nat.le_refl _);have FF:=Y (FIN.out w2 H2);clear BZ HX g2 H2 FIN;go_wp2_with fail;refine vg J w.heap.size J B2 _ underlying37 J eU J (.bool true) J ?_;exact FF.out
theorem VR(w:World):Calls prog 46 #[.pointer none] w (fun e w'=>e= .returned (.tuple #[.agg EP.toArray,.bool false])/\al w w'):=by
 have HX:Below w.heap.size w (w.alloc (.cells EP.toArray 37)):=gF;have BZ:=F.new w 37 EP;obtain⟨Q,hQ⟩:=ao EP;have RB:=Y (fun W=>WU W);have hql:Q.length=23:=by rw[<-hQ.out];rfl
 have hq1:∀v∈Q,v.oneCell'=true:=nF;rw[hQ.out]at RB;have FIN:Hid (∀w2,al w w2->Ending.returned (.tuple #[.agg Q.toArray,.bool false])= .returned (.tuple #[.agg EP.toArray,.bool false])/\al w w2):=Y (fun w2 H=>⟨by rw[hQ.out],H⟩);exact pG
def Qy.zero:Qy:=⟨vG.zero,0,0,⟨[],0,0⟩⟩
theorem aeF:EP=xY (.slice none 0 0) Qy.zero:=rfl
theorem adb(W:World):(Instr.build 30 #[]).run prog W= .ok (.agg EP.toArray) W:=by kernel_rfl
theorem Pq(g gl:Nat)(D:Option Nat)(x:Xc)(w0:World)(gq gql:Nat)(A:Option Addr)(c:Nat)(As:Option Addr)(cd:Nat)(Dq:Option Nat)(L:Lt)(w:World)(h:yh w g gl D x)(h':zj w0 w gq gql A c As cd Dq x L):
  Calls prog 45 #[.pointer (some ⟨g,0,none⟩),.pointer (some ⟨gq,0,none⟩)] w (uI (.bool true) w):=by
 have OC:=Y (Ke g gl D x w h);have HA:=Lib.hid h;have HQ:=Y h';clear h h';go_enter func45,ntmps45;go_wp2_with fail;refine OC.out.mono ?_;rintro _ w1 ⟨ds,rfl,hM,b1⟩;have hdl:=hM.len;have hO1:∀v∈(Value.int .i64 x.vd::ds:List Value),v.oneCell'=true:=by exact rQ
 have anl:(Value.int .i64 x.vd::ds:List Value).length=15:=jU;have BZ:=F.new w1 92 (Value.int .i64 0::uX);have zl0:(Value.int .i64 0::uX:List Value).length=15:=jy;have k1:Below w1.heap.size w1 (w1.alloc (.cells (Value.int .i64 0::uX).toArray 92)):=gF;go_wp2_with(refine ur (.store 92 (.tmp 5) (.tmp 10)) J (ab J w1.heap.size 0 (Value.int .i64 x.vd::ds) BZ fx fy hO1 ?_));intro w2 B2 g2 sw;clear sw;replace B2:=xA (L:=Value.int .i64 x.vd::ds) B2 dL;have H2:=um b1 b1.size (uq k1 g2 k1.size (Nat.le_refl _));have hM2:=Y (hM.G (uq k1 g2 k1.size (Nat.le_refl _)));have HA2:=Y (HA.out.G H2);have HQ2:=Y (HQ.out.G H2);obtain⟨qs,S2,hgo⟩:=HQ2.out.s;obtain⟨ul,vt,dq,Z,hMl,-,-,-,-,-,-,-,-,-,m18,m19,-,-,m44,m45,m46,-,hMq⟩:=S2.cells;have hql:=S2.ql;have aGz:=hMq.len;obtain⟨g5,hg5⟩:∃g5,g5=w1.heap.size:=gG;rw[<-hg5]at B2⊢;have HGO:=Y hgo;have HNM:=Y (S2.nm.G S2.bw);clear BZ k1 g2 hM b1 OC HA HQ S2 hO1 hg5 zl0 hgo;obtain⟨dn,hdn⟩:=ao x.done;have DN:Hid (∀V,al w2 V->Calls prog 38 #[.pointer (some ⟨g,0,none⟩)] V (xX (.bool dn) V)):=Y (fun V hV=>by rw[<-hdn.out];exact Gw (HA2.out.G hV));have SN:Hid (∀V,al w2 V->Calls prog 39 #[.pointer (some ⟨g,0,none⟩)] V (xX (.int .i64 x.uV) V)):=Y (fun V hV=>GB (HA2.out.G hV));have SM:Hid (∀V,al w2 V->Calls prog 21 #[.agg ds.toArray,.agg dq.toArray] V (uI (.bool true) V)):=Y (fun V hV=>by
  have:=XU (hM2.out.G hV) (hMq.G hV);rwa[decide_eq_true J]at this)
 rw[hdn.out]at m44;have hgq:=Z.lt;have h52:=B2.lt;have HB:=Y Z;have d44:=(Z.drew).M 44 m44;clear hMq hM2;go_wp2_with fail;refine wY (by kernel_rfl) (by kernel_rfl) ?_
 (refine ux (v:=(.pointer (some ⟨g,0,none⟩))) J (fun W hW=>by first|(go_simp;done)|(go_simp;omega)) ?_;simp only[E])
 refine vy 38 #[.pointer (some ⟨g,0,none⟩)] J (fun W=>by go_simp) (fun W hW=>xX.y9 hW (DN.out W hW)) ?_;simp only[E]
 (refine ux (v:=(.pointer (some ⟨gq,0,none⟩))) J (fun W hW=>by first|(go_simp;done)|(go_simp;omega)) ?_;simp only[E])
 refine ux (v:=.pointer (some ⟨gq,0,none⟩)) J (fun W hW=>by kernel_rfl) ?_;simp only[E];refine ux (v:=.pointer (some ⟨gq,44,none⟩)) J (fun W hW=>rfl) ?_;simp only[E];refine vr (v:=.bool dn) 4 (.tmp 15) J ⟨gq,44,none⟩ J J (fun V hV=>uB underlying4 J ((Z.G hV hgq).M 44 m44)) ?_;simp only[E];refine ux (v:=.bool false) J (fun W hW=>by change Result.ok (Next.value (Value.bool (dn !=dn))) W=_;simp) ?_;simp only[E]
 (refine ux (v:=(.bool false)) J (fun W hW=>by first|(go_simp;done)|(go_simp;omega)) ?_;simp only[E])
 (refine ux (v:=(.pointer (some ⟨g,0,none⟩))) J (fun W hW=>by first|(go_simp;done)|(go_simp;omega)) ?_;simp only[E])
 refine vy 39 #[.pointer (some ⟨g,0,none⟩)] J (fun W=>by go_simp) (fun W hW=>xX.y9 hW (SN.out W hW)) ?_;simp only[E]
 (refine ux (v:=(.pointer (some ⟨gq,0,none⟩))) J (fun W hW=>by first|(go_simp;done)|(go_simp;omega)) ?_;simp only[E])
 refine ux (v:=.pointer (some ⟨gq,0,none⟩)) J (fun W hW=>by kernel_rfl) ?_;simp only[E];refine ux (v:=.pointer (some ⟨gq,18,none⟩)) J (fun W hW=>rfl) ?_;simp only[E];refine vr (v:=.int .i64 x.uV) 3 (.tmp 23) J ⟨gq,18,none⟩ J J (fun V hV=>uB underlying3 J ((Z.G hV hgq).M 18 m18)) ?_;simp only[E];refine ux (v:=.bool false) J (fun W hW=>by change Result.ok (Next.value (Value.bool (((x.uV:Nat):Int) !=x.uV))) W=_;simp) ?_;simp only[E]
 (refine ux (v:=(.bool false)) J (fun W hW=>by first|(go_simp;done)|(go_simp;omega)) ?_;simp only[E])
 (refine ux (v:=(.bool false)) J (fun W hW=>by first|(go_simp;done)|(go_simp;omega)) ?_;simp only[E])
 refine ux (v:=.pointer (some ⟨g5,0,none⟩)) J (fun W hW=>rfl) ?_;simp only[E];refine vr (v:=.int .i64 x.vd) 3 (.tmp 28) J ⟨g5,0,none⟩ J J (fun V hV=>uB underlying3 J ((B2.G hV h52).M 0 J)) ?_;simp only[E]
 (refine ux (v:=(.pointer (some ⟨gq,0,none⟩))) J (fun W hW=>by first|(go_simp;done)|(go_simp;omega)) ?_;simp only[E])
 refine ux (v:=.pointer (some ⟨gq,0,none⟩)) J (fun W hW=>by kernel_rfl) ?_;simp only[E];refine ux (v:=.pointer (some ⟨gq,45,none⟩)) J (fun W hW=>rfl) ?_;simp only[E];refine vr (v:=.int .i64 x.vd) 3 (.tmp 32) J ⟨gq,45,none⟩ J J (fun V hV=>uB underlying3 J ((Z.G hV hgq).M 45 m45)) ?_;simp only[E];refine ux (v:=.bool false) J (fun W hW=>by change Result.ok (Next.value (Value.bool (x.vd !=x.vd))) W=_;simp) ?_;simp only[E]
 (refine ux (v:=(.bool false)) J (fun W hW=>by first|(go_simp;done)|(go_simp;omega)) ?_;simp only[E])
 (refine ux (v:=(.bool false)) J (fun W hW=>by first|(go_simp;done)|(go_simp;omega)) ?_;simp only[E])
 refine ux (v:=.pointer (some ⟨g5,1,none⟩)) J (fun W hW=>rfl) ?_;simp only[E];refine vr (v:=.agg ds.toArray) 50 (.tmp 37) J ⟨g5,1,none⟩ J J (fun V hV=>(B2.G hV h52).wS 50 1 14 I _ underlying50 J uW ds (by rw[List.drop_one,List.tail_cons,List.take_of_length_le I])) ?_;simp only[E]
 (refine ux (v:=(.pointer (some ⟨gq,0,none⟩))) J (fun W hW=>by first|(go_simp;done)|(go_simp;omega)) ?_;simp only[E])
 refine ux (v:=.pointer (some ⟨gq,0,none⟩)) J (fun W hW=>by kernel_rfl) ?_;simp only[E];refine ux (v:=.pointer (some ⟨gq,46,none⟩)) J (fun W hW=>rfl) ?_;simp only[E];refine vr (v:=.agg dq.toArray) 50 (.tmp 41) J ⟨gq,46,none⟩ J J (fun V hV=>(Z.G hV hgq).wS 50 46 14 I _ underlying50 J uW dq (by rw[m46,List.take_of_length_le I])) ?_;simp only[E];refine vy (v:=.bool true) 21 #[.agg ds.toArray,.agg dq.toArray] J (fun W=>by go_simp) (fun W hW=>uI.y9 hW (SM.out W hW)) ?_;simp only[E]
 (refine ux (v:=(.bool false)) J (fun W hW=>by first|(go_simp;done)|(go_simp;omega)) ?_;simp only[E])
 (refine ux (v:=(.bool false)) J (fun W hW=>by first|(go_simp;done)|(go_simp;omega)) ?_;simp only[E])
 refine wpQuiet_nil ?_;intro w3 h3;have QC:=Y (VQ g gl D x w3 (HA2.out.G h3));clear DN SN SM Z d44 B2 hgq h52;go_wp2_with fail;refine QC.out.mono ?_;rintro _ w4 ⟨cs,rfl,b4,hz,hy⟩;have h4:=um h3 h3.size b4;obtain⟨y,A6,c6,HY,HI⟩:∃y A6 c6,Hid (y=if dn then Qy.zero else x.y)/\Ho w4 cs y A6 c6:=by
  cases hd:dn with
  |true=>exact⟨Qy.zero,none,0,Y J,by rw[hz (hdn.out.trans hd)];rfl,J,xE.nil _⟩
  |false=>obtain⟨A6,c6,k⟩:=hy (hdn.out.trans hd);exact⟨x.y,A6,c6,Y J,k⟩
 rw[hdn.out];clear hz hy QC;have afK:=HI.ip;have hS:=HI.hS;have hcl:cs.length=23:=by rw[hS];exact wU afK
 have hc1:∀v∈cs,v.oneCell'=true:=by rw[hS];exact IG J
 have HII:=Y HI;have auE:=HII;have k4:Below w4.heap.size w4 (w4.alloc (.cells EP.toArray 37)):=gF;have BZ:=F.new w4 37 EP;clear HI hS b4;go_wp2_with(refine ur (.store 37 (.tmp 6) (.tmp 49)) J (ab J w4.heap.size 0 cs BZ (by rw[hcl,AH];decide) (by rw[hcl];exact Dy) hc1 ?_));intro w5 B5 g5 sw;clear sw;replace B5:=xA (L:=cs) B5 fT;have k5:=uq k4 g5 k4.size (Nat.le_refl _);have h5:=um h4 h4.size k5;have HI5:=Y (HII.out.G k5);have hb5:=HB.out.G h5 HB.out.lt;have d44:=hb5.M 44 m44;have hdd:((!dn)==dn)=false:=by cases dn<;>rfl
 have RZ:=Y (fun W=>adb W);obtain⟨ai9,hZ⟩:=ao EP;rw[hZ.out]at RZ;have hzl:ai9.length=23:=by rw[<-hZ.out];rfl
 have hz1:∀v∈ai9,v.oneCell'=true:=nD;have BZ8:=F.new w5 30 EP;have k8:Below w5.heap.size w5 (w5.alloc (.cells EP.toArray 30)):=gF;obtain⟨g6,hg6⟩:∃g6,g6=w4.heap.size:=gG;rw[<-hg6]at B5⊢;clear BZ k4 g5 k5 HII h4 h3 hg6;go_wp2_with(first
  |(refine ur (.build 30 #[]) rfl ?_;go_must(refine wi rfl 30 _ rfl #[] ap (RZ.out _) ?_))
  |(refine ur (.store 30 (.tmp 8) (.tmp 57)) rfl (ab rfl w5.heap.size 0 ai9 BZ8 fU (by rw[hzl];exact Dz) hz1 ?_)))
 intro w8 B8 g8 sw;clear sw;replace B8:=xA (L:=ai9) B8 fT;have k58:=uq k8 g8 k8.size (Nat.le_refl _);have h8:=um h5 h5.size k58;have hb8:=hb5.G k58 hb5.lt;have B58:=B5.G k58 B5.lt;have HI8:=Y (HI5.out.G k58);have e44:=hb8.M 44 m44;obtain⟨g9,hg9⟩:∃g9,g9=w5.heap.size:=gG;rw[<-hg9]at B8⊢;have H95:=Y hg9;have h9g:w2.heap.size<=g9:=by rw[hg9];exact h5.size
 have h69:g6≠g9:=by have:=B5.lt;omega
 clear BZ8 k8 g8 k58 hb5 B5 d44 h5 hg9;go_upto_if 62 with fail;go_cut[] (fun wx=>∃c8 A8,F wx g9 30 (xY (.slice A8 y.q.name.length c8) y)/\xE wx A8 c8 y.q.name/\al w2 wx/\F wx g6 37 cs/\xE wx A6 c6 y.q.name)
 case first=>
  cases dn with
  |true=>
   obtain rfl:y=Qy.zero:=HY.out;rw[<-hZ.out,aeF]at B8;go_wp2_with fail;go_meet
   case rel=>exact⟨0,none,B8,xE.nil _,h8,B58,HI8.out.nm⟩
  |false=>
   obtain rfl:y=x.y:=HY.out;obtain⟨hmz,hqs,-⟩:=HGO.out hdn.out;have hyq:=(HQ2.out.ok.go hdn.out).2.2.2.1;have hq1:∀v∈qs,v.oneCell'=true:=by rw[hqs];exact IG J
   have HQS:=Y hqs;clear hqs hmz;go_wp2_with(first
    |(refine ur (.load 30 (.tmp 65)) rfl ?_;go_must(refine uu rfl _ _ rfl gq 19 rfl hb8 23 I _ underlying30 rfl Dz qs m19 ?_))
    |(refine ur (.store 30 (.tmp 8) (.tmp 66)) rfl (ab rfl g9 0 qs B8 (by rw[hql,hzl];decide) fJ hq1 ?_)))
   intro w9 B9 g9' sw;clear sw;replace B9:=xA (L:=qs) B9 (by rw[hzl];decide);have k9:=uq h8 g9' h8.size h9g;go_wp2_with fail;go_meet
   case rel=>exact⟨c,A,by rw[hyq,<-HQS.out];exact B9,by rw[hyq];exact HNM.out.G k9,k9,B58.grown g9' (by intro e;injection e with e;exact h69 e),HI8.out.nm.grown g9' (fun hp a ha=>by
    obtain⟨b,off,e1,e2,_⟩:=HI5.out.nm.1 hp;rw[e1]at ha;injection ha with ha;subst ha;show b≠g9;have:=H95.out;omega)⟩
 obtain⟨c8,A8,C8,hN8,hc,C6,hN6⟩:=hcut;obtain⟨w9,rfl⟩:∃w9,w9=wc:=gG;rw[auE.out.hS]at C6;have EA:=FL y.sv y.sv afK afK;rw[decide_eq_true J]at EA;have c18:=C6.M 18 (zd afK 0);have c19:=C6.M 19 (zd afK 1);have e18:=C8.M 18 (zd afK 0);have e19:=C8.M 19 (zd afK 1);have l6:(xY (.slice A6 y.q.name.length c6) y).length=23:=wU afK;have l8:(xY (.slice A8 y.q.name.length c8) y).length=23:=wU afK;have a6:=Y (Qe (vn:=.slice A6 y.q.name.length c6) afK);have a8:=Y (Qe (vn:=.slice A8 y.q.name.length c8) afK);have q6:=Y (OT (vn:=.slice A6 y.q.name.length c6) afK);have q8:=Y (OT (vn:=.slice A8 y.q.name.length c8) afK);have SQ:=Y (Oh A6 A8 c6 c8 y.q y.q w9 hN6 hN8);rw[decide_eq_true J]at SQ;have HC:=Y hc;clear hN6 hN8 HI5 HI8 auE HGO HNM HQ2 HA2 HY H95 hb8 e44 h8 hcl hc1 hz1 hc B8 RZ hZ afK;obtain⟨Q6,hQ6⟩:=ao (xY (.slice A6 y.q.name.length c6) y);obtain⟨Q8,hQ8⟩:=ao (xY (.slice A8 y.q.name.length c8) y);rw[hQ6.out]at C6 l6 a6 q6;rw[hQ8.out]at C8 l8 a8 q8;generalize y.sv.cells=sc at*;generalize qC (.slice A6 y.q.name.length c6) y.q=z6 at*;generalize qC (.slice A8 y.q.name.length c8) y.q=z8 at*;clear hQ6 hQ8;go_wp2_with(first
  |(refine ur (.load 24 (.tmp 67)) rfl ?_;go_must(refine vE 24 (.tmp 67) rfl bp g6 0 rfl C6 18 I _ underlying24 rfl xL _ a6.out ?_))
  |(refine ur (.load 24 (.tmp 69)) rfl ?_;go_must(refine vE 24 (.tmp 69) rfl bp g9 0 rfl C8 18 I _ underlying24 rfl xL _ a8.out ?_))
  |(refine ur (.load 28 (.tmp 87)) rfl ?_;go_must(refine vE 28 (.tmp 87) rfl bp g6 20 rfl C6 3 I _ underlying28 rfl xu _ q6.out ?_))
  |(refine ur (.load 28 (.tmp 89)) rfl ?_;go_must(refine vE 28 (.tmp 89) rfl bp g9 20 rfl C8 3 I _ underlying28 rfl xu _ q8.out ?_)))
 refine SQ.out.mono ?_;rintro _ w10 ⟨rfl,b10⟩;have FF:=Y (um (um H2 H2.size HC.out) (Nat.le_trans H2.size HC.out.size) b10);clear SQ C6 C8 EA c18 c19 e18 e19 b10;go_wp2_with fail;go_ret;exact uI.mk J FF.out
end Go.Proofs.YthnbcmlnpdabhaaGreat
