/-
  Layer 29,the laws' own:XchgEnds.
-/
import Derived.Test.YthnbcmlnpdabhaaGreatKCz
namespace Go.Proofs.YthnbcmlnpdabhaaGreat
open _root_.Go.Proofs.Tryz
open Go.RowKit
set_option maxRecDepth 100000
set_option linter.unusedVariables false
set_option linter.unusedSimpArgs false
variable {T nt k hv:Nat}
structure UX (n T:Nat) (x:Xc) (tk:Nat):Prop where
 tr:x.tr.length=n
 rst:x.uz+x.rest<=3*n
 Sp:x.Sp<=T-tk
 lg:x.lg<=2
 vd:x.done=true->x.vd≠0
theorem UX.adP{n:Nat}{x:Xc}{tk:Nat}(h:UX n T x tk)(ok:x.ok)(L:Lt)(e:Ev):UX n T (wU x L e).1 (tk+if e.kind=1 then 1 else 0)/\(wU x L e).1.uz=x.uz+yr (wU x L e).2.2/\(wU x L e).2.1.us<=L.us+2/\(wU x L e).2.1.ds=L.ds/\(wU x L e).1.d.aA.length<=x.d.aA.length+e.data.length:=by
 have aeq:=Xr ok.st (fun hd=>(ok.go hd).2.1) h.lg h.vd L e;have U:=h.rst;have X:=h.Sp;have h3:=aeq.snt;have h4:=aeq.rst;have h5:=aeq.Sp;refine⟨⟨by rw[aeq.tr];exact h.tr,I,?_,aeq.lg,aeq.vd⟩,aeq.snt,aeq.us,aeq.ds,aeq.hd⟩;split at h5<;>rename_i O
 ·rw[if_pos O];omega
 ·rw[if_neg O];omega
theorem ack(r:Rs)(q:Qn)(turn:Int)(L:Lt)(ok:(AU (ui r).hS (ui r).vc (ui r).ed q (vj r turn) L).1.ok)(he:(vg (vw q 0 (ui r).ed) false).2=0):(Cq (ui r).hS (ui r).vc (ui r).ed q (vj r turn)).st:=by
 have hl:=(EM r turn).1;unfold AU at ok;rw[if_neg (by rw[he];decide)]at ok;unfold Cp at ok;rw[if_pos (by show 0<(vj r turn).length;omega)]at ok;obtain⟨f1,f2,f3,f4,f5,f6,f7,f8,f9⟩:=aaa (Cq (ui r).hS (ui r).vc (ui r).ed q (vj r turn)) L (if(Cq (ui r).hS (ui r).vc (ui r).ed q (vj r turn)).vc then 2 else 0);have st:=ok.st (f1.trans J);exact⟨by have:=st.ips;rwa[f2]at this,by have:=st.to1;rwa[f4]at this,by have:=st.to2;rwa[f4]at this,by have:=st.trl;rwa[f2]at this,by have:=st.err;rwa[f8]at this⟩
theorem aaF(hS:Int)(vc ed:Bool)(q:Qn)(tr:List uV)(L:Lt):(AU hS vc ed q tr L).2.2.length<=1:=by
 unfold AU;split
 ·exact Nat.zero_le _
 ·exact AM _ _
theorem UX.new(r:Rs)(q:Qn)(turn:Int)(L:Lt)(hu:L.us=0)(ok:(AU (ui r).hS (ui r).vc (ui r).ed q (vj r turn) L).1.ok):UX (vj r 0).length (IY r) (AU (ui r).hS (ui r).vc (ui r).ed q (vj r turn) L).1 0/\(AU (ui r).hS (ui r).vc (ui r).ed q (vj r turn) L).1.uz=yr (AU (ui r).hS (ui r).vc (ui r).ed q (vj r turn) L).2.2/\(AU (ui r).hS (ui r).vc (ui r).ed q (vj r turn) L).2.1.us<=2/\(AU (ui r).hS (ui r).vc (ui r).ed q (vj r turn) L).2.1.ds=L.ds/\(AU (ui r).hS (ui r).vc (ui r).ed q (vj r turn) L).1.d.aA.length=0:=by
 have hl:(vj r turn).length=(vj r 0).length:=by rw[IZ,IZ]
 have aeq:=aab (ui r).hS (ui r).vc (ui r).ed q (vj r turn) L (ack r q turn L ok);have h3:=aeq.snt;have h4:=aeq.rst;have h5:=aeq.Sp;have h6:=aeq.us;have h7:=aeq.hd;have h0:(Cq (ui r).hS (ui r).vc (ui r).ed q (vj r turn)).uz=0:=rfl;have hT:IY r=(ui r).hS.toNat*(3*(vj r 0).length):=rfl;rw[hl]at h4 h5;refine⟨⟨by rw[aeq.tr];exact hl,I,by rw[hT];exact h5,aeq.lg,aeq.vd⟩,I,I,aeq.ds,I⟩
theorem adQ{vs vn:Value}{cs:List Value}{q:Qn}{turn:Int}(h:cs.length=10):(GQ vs vn cs q turn).length=15/\((GQ vs vn cs q turn).drop 0).take 10=cs/\((GQ vs vn cs q turn).drop 10).take 3=qC vn q/\(GQ vs vn cs q turn)[13]?=some (.int .i64 turn)/\(GQ vs vn cs q turn)[14]?=some vs:=by
 unfold GQ;refine⟨by simp[qC,h],by rw[List.drop_zero];exact List.take_left' h,?_,?_,?_⟩
 ·rw[List.drop_left' h];rfl
 ·rw[List.getElem?_append_right I,h];rfl
 ·rw[List.getElem?_append_right I,h];rfl
theorem ae9:(prog.info? 72).map (·.size)=some 15:=by kernel_rfl
structure PX (w0 w:World) (g gl:Nat) (D:Option Nat) (x:Xc) (L:Lt):Prop where
 x:ya w g gl D x
 l:xT w gl L
 g0:w0.heap.size<=g
 l0:w0.heap.size<=gl
 d0:∀i,D=some i->w0.heap.size<=i
theorem ya.XP{w:World}{g gl:Nat}{D:Option Nat}{x:Xc}(h:ya w g gl D x):∀i,D=some i->∃h2,Z w i 152 h2:=fun i hi=>by
 obtain⟨_,_,_,_,_,_,U,X⟩:=h;cases hd:x.done with
 |true=>rw[U hd]at hi;cases hi
 |false=>
  obtain⟨_,_,_,h3,h4⟩:=X hd;by_cases hl:x.lg=2
  ·obtain⟨gd,e,hA⟩:=h4 hl;rw[e]at hi;injection hi with hi;rw[<-hi];exact hA.MJ
  ·rw[h3 hl]at hi;cases hi
section
variable {w0 w w':World} {g gl:Nat} {D:Option Nat} {x y:Xc} {L h2:Lt} {gq gql:Nat} {A As:Option Addr} {c cd:Nat} {Dq:Option Nat} {r:XR} {e:Ending}
theorem PX.fr{S:Nat->Prop}(h:PX w0 w g gl D x L)(k:Fr S w w')(hg:¬S g)(hl:¬S gl)(hD:∀i h2,D=some i->Z w i 152 h2->¬S i):PX w0 w' g gl D x L:=⟨h.x.fr k hg hD,h.l.fr k hl,h.g0,h.l0,h.d0⟩
theorem PX.G(h:PX w0 w g gl D x L)(k:al w w'):PX w0 w' g gl D x L:=h.fr (S:=fun _=>False) (Fr.G k) (fun h=>h) (fun h=>h) (fun _ _ _ _ h=>h)
theorem PX.UY(h:PX w0 w g gl D x L)(F:al w0 w)(hr:y9 g gl D r w e w'):∃v D',e= .returned v/\vI w.heap.size w' v r.2.2/\PX w0 w' g gl D' r.1 r.2.1/\Fr (XS g gl D) w w'/\al w0 w'/\∀i,D'=some i->D=some i\/w.heap.size<=i:=by
 obtain⟨v,D',he,ho,hx,hl,hf,hD⟩:=hr;refine⟨v,D',he,ho,⟨hx,hl,h.g0,h.l0,fun i hi=>?_⟩,hf,hf.zN F F.size (fun i hi hs=>?_),hD⟩
 ·
  rcases hD i hi with U|U
  ·exact h.d0 i U
  ·exact Nat.le_trans F.size U
 ·
  have:=h.g0;have:=h.l0;rcases hs with U|U|U
  ·omega
  ·omega
  ·have:=h.d0 i U;omega
theorem zU.byX(hq:zU w0 w gq gql A c As cd Dq y h2)(h:PX w0 w g gl D x L)(k:Fr (XS g gl D) w w'):zU w0 w' gq gql A c As cd Dq y h2:=by
 obtain⟨L1,b1⟩:=h.x.uG;obtain⟨L2,b2⟩:=xU h.l;obtain⟨L3,b3⟩:=hq.uG;obtain⟨qs,s,_⟩:=hq.s;have key:∀{i:Nat} {t:TypeId} {tM:List Value},Z w i t tM->t≠177->t≠180->t≠152->¬XS g gl D i:=fun F n1 n2 n3 hs=>by
  rcases hs with U|U|U
  ·exact wJ F b1 n1 U
  ·exact wJ F b2 n2 U
  ·obtain⟨tM,hN⟩:=h.x.XP _ U;exact wJ F hN n3 J
 refine hq.fr k (key b3 ax ax ax) (key s.l ax ax ax) (fun i tM _ F=>key F ax ax ax) (fun i hs=>?_);rcases hs with U|U|U
 ·rw[U];exact h.g0
 ·rw[U];exact h.l0
 ·exact h.d0 i U
theorem vI.byX{lo:Nat}{v:Value}{o:List Ou}(ho:vI lo w v o)(h:PX w0 w g gl D x L)(k:Fr (XS g gl D) w w'):vI lo w' v o:=by
 obtain⟨css,U,X⟩:=ho;have HO:vI lo w v o:=⟨css,U,X⟩;obtain⟨L1,b1⟩:=h.x.uG;obtain⟨L2,b2⟩:=xU h.l;refine⟨css,k.aeA U (fun b F hs=>?_),X⟩;rcases hs with h3|h3|h3
 ·exact HO.PS b1 ax (by rw[F,h3])
 ·exact HO.PS b2 ax (by rw[F,h3])
 ·obtain⟨tM,hN⟩:=h.x.XP _ h3;exact HO.PS hN ax F
theorem zU.nRS(hq:zU w0 w gq gql A c As cd Dq y h2){i:Nat}{t:TypeId}{tM:List Value}(F:Z w i t tM)(n1:t≠90)(n2:t≠86)(n3:t≠163):¬RS w0 w gq gql i:=fun hs=>by
 obtain⟨L3,b3⟩:=hq.uG;obtain⟨qs,s,_⟩:=hq.s;rcases hs with U|U|⟨_,N',U⟩
 ·exact wJ F b3 n1 U
 ·exact wJ F s.l n2 U
 ·exact wJ F U n3 J
theorem PX.byQ(h:PX w0 w g gl D x L)(hq:zU w0 w gq gql A c As cd Dq y h2)(k:Fr (RS w0 w gq gql) w w'):PX w0 w' g gl D x L:=by
 obtain⟨L1,b1⟩:=h.x.uG;obtain⟨L2,b2⟩:=xU h.l;exact h.fr k (hq.nRS b1 ax ax ax) (hq.nRS b2 ax ax ax) (fun i tM _ F=>hq.nRS F ax ax ax)
theorem zU.aaG(hq:zU w0 w gq gql A c As cd Dq y h2)(k:Fr (RS w0 w gq gql) w w'):al w0 w':=by
 obtain⟨qs,s,_⟩:=hq.s;refine k.zN s.bw s.bw.size (fun i hi hs=>?_);have:=s.lo;have:=s.ll;rcases hs with h3|h3|⟨h3,_⟩<;>omega
end
structure VS (nt T k hv:Nat) (x:Xc) (L:Lt):Prop where
 i:∃tk,UX nt T x tk
 n:nt<=15
 u:L.us<=2+2*k
 d:L.ds.length<=200
 h:x.d.aA.length<=hv
 o:x.oc
theorem VS.adP{x:Xc}{L:Lt}(h:VS nt T k hv x L)(ok:x.ok)(e:Ev):VS nt T (k+1) (hv+e.data.length) (wU x L e).1 (wU x L e).2.1:=by
 obtain⟨tk,hi⟩:=h.i;obtain⟨i1,i2,i3,i4,i5⟩:=hi.adP ok L e;have:=h.u;have:=h.h;exact⟨⟨_,i1⟩,h.n,I,by rw[i4];exact h.d,I,aaE h.o L e⟩
theorem VS.new(r:Rs)(q:Qn)(turn:Int)(L:Lt)(hu:L.us=0)(hd:L.ds.length<=200)(ok:(AU (ui r).hS (ui r).vc (ui r).ed q (vj r turn) L).1.ok):VS (vj r 0).length (IY r) 0 0 (AU (ui r).hS (ui r).vc (ui r).ed q (vj r turn) L).1 (AU (ui r).hS (ui r).vc (ui r).ed q (vj r turn) L).2.1:=by
 obtain⟨n1,n2,n3,n4,n5⟩:=UX.new r q turn L hu ok;exact⟨⟨0,n1⟩,(EM r 0).2,I,by rw[n4];exact hd,by rw[n5];exact Nat.le_refl _,aci _ _ _ _ _ _⟩
theorem VS.uz{x:Xc}{L:Lt}(h:VS nt T k hv x L):x.uz<=45:=by
 obtain⟨tk,hi⟩:=h.i;have:=h.n;have:=hi.rst;omega
end Go.Proofs.YthnbcmlnpdabhaaGreat
