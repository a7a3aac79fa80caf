/-
  Layer 26,the reference,plain:the names of a chain.
-/
import Derived.Test.YthnbcmlnpdabhaaGreatIGz
namespace Go.Proofs.YthnbcmlnpdabhaaGreat
open _root_.Go.Proofs.Tryz
set_option maxHeartbeats 8000000
open Go.RowKit
set_option linter.unusedVariables false
set_option linter.unusedSimpArgs false
variable {w0 w:World} {cs:List Value}
def wv(q:Qn)(l:List RR):Nat->List (List UInt8)->List (List (List UInt8))
 |0,n=>[n]
 |f+1,n=>match zy l n q.E q.N with
  |_::_=>[n]
  |[]=>match zy l n 5 q.N with
   |[]=>[n]
   |r::_=>n::wv q l f r.tg
theorem SJ(q:Qn)(l:List RR)(f:Nat)(n:List (List UInt8)):∃x xs,wv q l f n=x::xs:=by
 cases f with
 |zero=>exact⟨_,_,J⟩
 |succ f=>
  unfold wv;split
  ·exact⟨_,_,J⟩
  ·split<;>exact⟨_,_,J⟩
def JC(q:Qn)(l:List RR)(f:Nat)(n:List (List UInt8)):List (List UInt8):=(wv q l f n).getLastD []
theorem Ot(q:Qn)(l:List RR):∀(f k:Nat) (n:List (List UInt8)) (t:Option Int),abK (wX q l f k n t)=if f+1<(wv q l (f+1) n).length then 15 else if zy l (JC q l (f+1) n) q.E q.N=[]then 11 else 0
 |f,k,n,t=>by
  cases U:zy l n q.E q.N with
  |cons r rs=>
   have e1:wX q l f k n t= .ok ⟨n,r::rs,(r::rs).foldl (fun t r=>yN t r.ak) t,k⟩:=by unfold wX;rw[U]
   have e2:wv q l (f+1) n=[n]:=by unfold wv;rw[U]
   unfold JC;rw[e1,e2,if_neg ap,if_neg (by show ¬zy l n q.E q.N=[];rw[U];simp)];rfl
  |nil=>
   cases X:zy l n 5 q.N with
   |nil=>have e1:wX q l f k n t= .error 11:=lE;have e2:wv q l (f+1) n=[n]:=lM;unfold JC;rw[e1,e2,if_neg ap,if_pos (by show zy l n q.E q.N=[];exact U)];rfl
   |cons r rs=>
    have e2:∀g,wv q l (g+1) n=n::wv q l g r.tg:=fun g=>by conv=>lhs;unfold wv;rw[U];simp only;rw[X]
    cases f with
    |zero=>have e1:wX q l 0 k n t= .error 15:=lE;rw[e1,e2,if_pos (by show 0+1<([n]++[r.tg]:List _).length;simp)];rfl
    |succ f=>
     have e1:wX q l (f+1) k n t=wX q l f (k+1) r.tg (yN t r.ak):=by conv=>lhs;unfold wX;rw[U];simp only;rw[X]
     have hl:JC q l (f+1+1) n=JC q l (f+1) r.tg:=by unfold JC;rw[e2];obtain⟨x,xs,hx⟩:=SJ q l (f+1) r.tg;rw[hx];rfl
     rw[e1,Ot q l f (k+1) r.tg,hl,e2,List.length_cons];by_cases h:f+1<(wv q l (f+1) r.tg).length
     ·rw[if_pos h,if_pos (show f+1+1<(wv q l (f+1) r.tg).length+1 by omega)]
     ·rw[if_neg h,if_neg (show ¬f+1+1<(wv q l (f+1) r.tg).length+1 by omega)]
theorem XA(q:Qn)(m:vo):Su q m=if 17<(wv q m.an 17 q.name).length then 15 else if zy m.an (JC q m.an 17 q.name) q.E q.N=[]then 11 else 0:=Ot q m.an 16 0 q.name none
set_option maxRecDepth 100000
def adD(rs:List RR)(w:World)(e:Ending)(w':World):Prop:=∃A c,e= .returned (.slice A rs.length c)/\uD w' w.heap.size (.slice A rs.length c) rs/\al w w'
theorem VN(E N:Int)(A Al:Option Addr)(c cA:Nat)(n:List (List UInt8))(l:List RR)(w:World)(hN:xj w A c n)(hn:n.length<=8000000000000)(hL:uD w 0 (.slice Al l.length cA) l)(hl:l.length<=65535):
  Calls prog 230 #[.slice Al l.length cA,.slice A n.length c,.int .i64 E,.int .i64 N] w (adD (zy l n E N) w):=by
 go_enter func230,ntmps230;go_wp2_with fail;go_loopw[9,10] (fun rv iv wr=>∃k:Nat,k<=l.length/\iv= .int .i64 k/\uD wr w.heap.size rv (zy (l.take k) n E N)/\al w wr) (fun _ iv _=>l.length-(intOf iv).toNat)
 case atStart=>exact⟨0,Nat.zero_le _,J,uD.nil _ _,Below.refl _ _⟩
 obtain⟨k,O,rfl,ho,hB⟩:=hrel;obtain⟨Ak,ck,hv⟩:=ho.form;subst hv;by_cases Hh:k<l.length
 case neg=>have tQ:¬(k:Int)<l.length:=I;rw[List.take_of_length_le I]at ho⊢;go_wp2_with fail;go_ret;exact⟨Ak,ck,J,ho,hB⟩
 have tQ:(k:Int)<l.length:=I;obtain⟨gs,hA,hgs,hr⟩:=hL.ud (fun _ _ h=>h.len) I;obtain⟨cx,hcx,hce⟩:=hr k Hh;have hcx:=tX hcx hB hgs;subst hA;have hcl:=hce.len;have afx:=hce.one;rw[Nat.zero_add]at hcx;have l64:(0:Int)<=k:=I;have SF:Hid (zy (l.take (k+1)) n E N=zy (l.take k) n E N++(if Sm n E N l[k]=true then[l[k]]else[])):=Y eF;obtain⟨vn,vt,vm,hcs,hwf,hnm,htg,hml,_⟩:=hce;have hnl:l[k].name.length<=8000000000000:=by obtain⟨h4,h5⟩:=wK hnm.2;have h6:=zE l[k].name;omega
 obtain⟨An,cn,hv,hNn⟩:=hnm.form;subst hv;have e0:cx[0]?=some (.slice An l[k].name.length cn):=bI;have e1:cx[1]?=some (.int .i64 l[k].E):=bI;have e2:cx[2]?=some (.int .i64 l[k].N):=bI;have CE:Hid (wR w cx l[k]):=mx;have DS:Hid (∀W,al w W->Calls prog 56 #[.slice An l[k].name.length cn,.slice A n.length c] W (uf (.bool (decide (xL l[k].name=xL n))) W)):=Y (fun W F=>Jw An A l[k].name n cn c W (hNn.G F) (hN.G F) hnl hn);have HO:=Y ho;have aov:(zy (l.take k) n E N).length<=65535:=by exact sx
 have d0:=hcx 0 _ e0;have d1:=hcx 1 _ e1;have d2:=hcx 2 _ e2;rw[Nat.add_zero]at d0;clear hcs hwf hnm htg hml hNn ho hr hN hL hnl e0 e1 e2;obtain⟨same,ahs⟩:∃b:Bool,decide (xL l[k].name=xL n)=b:=gp;have IR:Hid (Sm n E N l[k]=(decide (l[k].E=E)&&(decide (l[k].N=N)&&same))):=Y (by rw[Z7,ahs]);rw[ahs]at DS;clear ahs;obtain⟨R,hR⟩:=ao (zy (l.take k) n E N);rw[hR.out]at HO aov SF⊢;generalize hrr:l[k]=r at*;clear hrr;generalize r.name.length=nl,r.E=rt,r.N=rc at*;by_cases ht:rt=E
 case neg=>have ht':(rt==E)=false:=ng;have U2:Hid (zy (l.take (k+1)) n E N=R):=Y eI;clear ht SF IR;exact rB
 subst ht;by_cases hc:rc=N
 case neg=>have hc':(rc==N)=false:=iK;have U2:Hid (zy (l.take (k+1)) n rt N=R):=Y (by rw[SF.out,IR.out,decide_eq_false hc];simp);clear hc SF IR;exact rB
 subst hc;have SF2:Hid (zy (l.take (k+1)) n rt rc=R++if same=true then[r]else[]):=Y (by rw[SF.out,IR.out];simp);clear SF IR;go_wp2_with fail;refine(DS.out _ hB).mono ?_;rintro _ w2 ⟨rfl,b2⟩;have H2:=tL hB hB.size b2;have O2:=Y (uD.G HO.out b2);have asi:=tX hcx b2 (Nat.lt_of_lt_of_le hgs hB.size);cases same with
 |false=>
  have U2:Hid (zy (l.take (k+1)) n rt rc=R):=Y (by rw[SF2.out];simp);clear SF2 HO hcx d0 d1 d2;go_wp2_with fail;go_roundw
  case rel=>exact⟨k+1,I,fU,by rw[U2.out];exact O2.out,H2⟩
  case measure=>simp[intOf];omega
 |true=>
  have U2:Hid (zy (l.take (k+1)) n rt rc=R++[r]):=Y (by rw[SF2.out];simp);have CE2:=Y (CE.out.ue (ug.G H2));clear SF2 HO hcx d0 d1 d2 CE DS b2;go_wp2_with(first
   |(refine tO (.load 119 (.tmp 45)) rfl ?_;go_must(refine vM rfl 119 (.tmp 45) rfl gs (k*33) rfl cx asi _ underlying119 rfl eG ?_))
   |(refine tO (.buildSlice 48 1 #[(0,.tmp 46)]) rfl ?_;go_must(refine Ck rfl 48 119 _ 33 208 underlying48 Il ax ax (.tmp 46) rfl cx rfl hcl ?_)))
  intro w3 B3 K3;have O3:=uD.G O2.out K3;have N3:=uy.ne O2.out (Nat.le_refl _);have H3:=tL H2 H2.size K3;have CE3:=CE2.out.ue (ug.G K3);clear K3 O2 CE2 H2 asi;go_wp2_with(at_builtin;go_must(refine xS _ J _ _ 48 J 119 _ 33 208 underlying48 Il (by kernel_rfl) ax w.heap.size _ _ J O3 H3.size w2.heap.size cx r J B3 N3 hcl afx CE3 aJ I ?_));intro v5 w5 O5 g5;have hbs:=O3.base;have hso:ug w3 w5:=by exact tD
  have H5:=H3.grown g5 H3.size hbs;have O6:uD w5 w.heap.size v5 (R++[r]):=lJ;clear g5 O3 O5 H3 B3 N3 hso;go_wp2_with fail;go_roundw
  case rel=>exact⟨k+1,I,fU,by rw[U2.out];exact O6,H5⟩
  case measure=>simp[intOf];omega
def ML(w0 w:World)(cs:List Value)(n:List (List UInt8)):Prop:=∃A c,cs=[.slice A n.length c]/\n.length<=100000/\(xj w0 A c n\/Tc w (.slice A n.length c) n)
theorem ML.ue{w':World}{n:List (List UInt8)}(h:ML w0 w cs n)(k:ug w w'):ML w0 w' cs n:=by
 obtain⟨A,c,U,X,h3⟩:=h;exact⟨A,c,U,X,h3.imp id (fun h=>h.ue k)⟩
theorem ML.read{n:List (List UInt8)}(h:ML w0 w cs n)(F:al w0 w):∃A c,cs=[.slice A n.length c]/\n.length<=100000/\xj w A c n:=by
 obtain⟨A,c,U,X,h3⟩:=h;refine⟨A,c,U,X,?_⟩;rcases h3 with h3|h3
 ·exact h3.G F
 ·obtain⟨A',c',e,h⟩:=h3.form;injection e with e1 _ e2;subst e1 e2;exact h
theorem ML.len{n:List (List UInt8)}(h:ML w0 w cs n):cs.length=1:=by obtain⟨A,c,U,_⟩:=h;rw[U];rfl
theorem ML.own{v:Value}{n:List (List UInt8)}(h:zK w v n):ML w0 w [v] n:=by
 have h':=h;obtain⟨A,c,rfl,_⟩:=h'.form;obtain⟨h4,h5⟩:=wK h.2;have h6:=zE n;obtain⟨A',c',e,hN⟩:=h.form;exact⟨A,c,J,I,.inr ⟨h.1,I,hN.2.2.2⟩⟩
theorem uy.ae3{α:Type}{R:List Value->α->Prop}{g B:Nat}{e:TypeId}(k:Nat){x:α}(F:Z w g e cs)(hB:B<=g)(hl:cs.length=k)(hr:R cs x):uy w B e k R (.slice (some ⟨g,0,none⟩) 1 1) [x]:=by
 refine⟨[cs],⟨by simp[hl],.inr ⟨g,1,cs.toArray,J,hB,F,Nat.le_refl _,by simp[maxLen],by simp[hl],?_⟩⟩,hr,trivial⟩;exact pX
def PW(tM:List (List (List UInt8)))(w:World)(e:Ending)(w':World):Prop:=∃A c,e= .returned (.slice A tM.length c)/\uy w' w.heap.size 26 1 (ML w w') (.slice A tM.length c) tM/\al w w'
theorem UI(q:Qn)(A Al:Option Addr)(c cA:Nat)(l:List RR)(w:World)(hN:xj w A c q.name)(hn:q.name.length<=100000)(hL:uD w 0 (.slice Al l.length cA) l)(hl:l.length<=65535):
  Calls prog 229 #[.agg #[.slice A q.name.length c,.int .i64 q.E,.int .i64 q.N],.slice Al l.length cA] w (PW (wv q l 17 q.name) w):=by
 have HX:Below w.heap.size w ((w.alloc (.cells #[.slice A q.name.length c,.int .i64 q.E,.int .i64 q.N] 28)).alloc (.cells #[.slice A q.name.length c] 26)):=gA;have BX:=(Z.new w 28 [.slice A q.name.length c,.int .i64 q.E,.int .i64 q.N]).alloc (.cells #[.slice A q.name.length c] 26);have BN:=Z.vP (w.alloc (.cells #[.slice A q.name.length c,.int .i64 q.E,.int .i64 q.N] 28)) 26 [.slice A q.name.length c] (w.heap.size+1) ap;have HO:=Y (uy.ae3 (R:=ML w ((w.alloc (.cells #[.slice A q.name.length c,.int .i64 q.E,.int .i64 q.N] 28)).alloc (.cells #[.slice A q.name.length c] 26))) (B:=w.heap.size) 1 BN I J ⟨A,c,J,hn,.inl hN⟩);have OF:=Y (fun(E:Int) (A':Option Addr) (c':Nat) (n:List (List UInt8)) (V:World) (hV:al w V) (h:xj V A' c' n) (hn:n.length<=100000)=>VN E q.N A' Al c' cA n l V h I (uD.G hL hV) hl);obtain⟨tM,hNN⟩:=ao (wv q l 17 q.name);rw[hNN.out];obtain⟨ls,hls⟩:=ao (Value.slice Al l.length cA);clear hN hL BN;rw[hls.out]at OF⊢;go_enter func229,ntmps229;go_wp2_with fail;go_loopw[5] (fun ov wr=>∃(pre:List (List (List UInt8))) (n:List (List UInt8)) (f:Nat),pre.length+f=17/\Hid (tM=pre++wv q l f n)/\Hid (uy wr w.heap.size 26 1 (ML w wr) ov (pre++[n]))/\al w wr/\Z wr w.heap.size 28 [.slice A q.name.length c,.int .i64 q.E,.int .i64 q.N]) (fun ov _=>18-(match ov with| .slice _ n _=>n|_=>0))
 case atStart=>exact⟨[],q.name,17,J,Y hNN.out.symm,HO,HX,BX⟩
 clear HO HX BX hNN;obtain⟨pre,n,f,hpf,HN,HO,hB,BX⟩:=hrel;obtain⟨Ao,co,hov⟩:=HO.out.form;have hl1:(pre++[n]).length=pre.length+1:=ap;have HO':=HO.out;rw[hov,hl1]at HO';rw[hl1]at hov;subst hov;have c2:=BX.K 2 J;by_cases Hh:pre.length+1<18
 case neg=>
  have hf:f=0:=I;subst hf;have hp:pre.length=17:=I;have FIN:Hid (PW tM w (.returned (.slice Ao (17+1) co)) wr):=Y (by
   rw[HN.out];show PW (pre++[n]) w _ wr;refine⟨Ao,co,by rw[hl1,hp],?_,hB⟩;have X:=HO.out;rw[hp]at X;rw[hl1,hp];exact X)
  rw[hp];clear HO HN HO' Hh;exact qt
 obtain⟨f,rfl⟩:∃f',f=f'+1:=⟨f-1,I⟩;obtain⟨g,hA,hg,cx,hcx,hce⟩:∃g,Ao=some ⟨g,0,none⟩/\g<wr.heap.size/\∃cx,wr.rangeAt g (0+pre.length*1) cx/\ML w wr cx n:=by have X:=HO.out;rw[<-hl1]at X;obtain⟨g,hA,hg,hr⟩:=uy.ud (fun _ _ h=>h.len) X ap;obtain⟨cx,hcx,hce⟩:=hr pre.length ap;rw[List.getElem_append_right (Nat.le_refl _)]at hce;simp only[Nat.sub_self,List.getElem_cons_zero]at hce;exact⟨g,hA,hg,cx,hcx,hce⟩
 obtain⟨An,cn,rfl,hnl,hNn⟩:=hce.read hB;have d0:=hcx 0 _ J;simp only[Nat.zero_add,Nat.mul_one,Nat.add_zero]at d0;subst hA;obtain⟨p,hp⟩:=ao pre.length;have aE3:p+1<18:=by rw[<-hp.out];exact Hh
 have HNn:=Y hNn;rw[hp.out]at d0⊢;clear hcx hce HO' hNn Hh;have hp1:((p:Int)+1<18):=I;go_wp2_with fail;refine(OF.out 5 An cn n wr hB HNn.out hnl).mono ?_;rintro _ w2 ⟨A5,c5,rfl,O5,b2⟩;have H2:=tL hB hB.size b2;have BX2:=BX.G b2 BX.lt;have HO2:=Y (uy.G (R':=ML w w2) HO.out b2 (fun _ _ h=>h.ue (ug.G b2)));have HN2:=Y (HNn.out.G b2);have q1:=BX2.K 1 J;have q2:=BX2.K 2 J;have HO5:=Y O5;clear HO HNn BX c2 d0 O5 b2 hB;go_wp2_with fail;refine(OF.out q.E An cn n w2 H2 HN2.out hnl).mono ?_;rintro _ w3 ⟨A6,c6,rfl,O6,b3⟩;have H3:=tL H2 H2.size b3;have BX3:=BX2.G b3 BX2.lt;have HO3:=Y (uy.G (R':=ML w w3) HO2.out b3 (fun _ _ h=>h.ue (ug.G b3)));have amV:=Y (uD.G HO5.out b3);clear HO2 HO5 HN2 BX2 q1 q2 b3 H2 OF O6;have als:Hid (wv q l (f+1) n=[n]->PW tM w (.returned (.slice (some ⟨g,0,none⟩) (p+1) co)) w3):=Y (fun hw=>by
  rw[HN.out,hw];refine⟨some ⟨g,0,none⟩,co,by rw[hl1,hp.out],?_,H3⟩;rw[hl1];exact HO3.out)
 cases h6:zy l n q.E q.N with
 |cons r rs=>have FIN:=Y (als.out (by unfold wv;rw[h6]));have agE:(0:Int)<(rs.length:Int)+1:=I;clear als HN HO3 amV;rw[List.length_cons];generalize rs.length=k6 at*;generalize(zy l n 5 q.N).length=k5 at*;exact qt
 |nil=>
  rw[List.length_nil];cases h5:zy l n 5 q.N with
  |nil=>have FIN:=Y (als.out (by unfold wv;rw[h6];simp only;rw[h5]));clear als HN HO3 amV;rw[List.length_nil];exact qt
  |cons r rs=>
   have HW:Hid (wv q l (f+1) n=n::wv q l f r.tg):=Y (by conv=>lhs;unfold wv;rw[h6];simp only;rw[h5]);have O5:=amV.out;rw[h5]at O5;obtain⟨g5,hA5,hg5,cx,hcx,hce⟩:∃g5,A5=some ⟨g5,0,none⟩/\g5<w3.heap.size/\∃cx,w3.rangeAt g5 (0+0*33) cx/\wR w3 cx r:=by obtain⟨g5,hA5,hg5,hr⟩:=O5.ud (fun _ _ h=>h.len) ap;obtain⟨cx,hcx,hce⟩:=hr 0 ap;exact⟨g5,hA5,hg5,cx,hcx,hce⟩
   subst hA5;obtain⟨vn,vt,vm,hcs,hwf,_,htg,_⟩:=hce;have e5:cx[22]?=some vt:=by rw[hcs];exact AQ hwf
   have d5:=hcx 22 _ e5;simp only[Nat.zero_mul,Nat.zero_add,Nat.add_zero]at d5;have HTG:=Y (ML.own (w0:=w) htg);obtain⟨At,ct,hvt,-⟩:=htg.form;subst hvt;clear als amV O5 hcx hcs htg e5;rw[List.length_cons];generalize rs.length=k5 at*;obtain⟨nt,hnt⟩:=ao r.tg.length;rw[hnt.out]at d5 HTG;have amW:=HO3.out;rw[hp.out]at amW;have kn:Below w3.heap.size w3 (w3.alloc (.cells #[.slice At nt ct] 26)):=gj;have O4:uy (w3.alloc (.cells #[.slice At nt ct] 26)) w.heap.size 26 1 (ML w (w3.alloc (.cells #[.slice At nt ct] 26))) (.slice (some ⟨g,0,none⟩) (p+1) co) (pre++[n]):=uy.G amW kn (fun _ _ h=>h.ue (ug.G kn));have N4:=uy.ne amW (Nat.le_refl _);have H4:=tL H3 H3.size kn;have B4:=Z.new w3 26 [.slice At nt ct];have BX4:=BX3.G kn BX3.lt;have CE4:=HTG.out.ue (ug.G kn);clear kn HTG HO3 amW BX3 H3;go_wp2_with(at_builtin;go_must(refine xS _ J _ _ 66 J 26 _ 1 24 underlying66 Pm (by kernel_rfl) ax w.heap.size _ _ J O4 H4.size w3.heap.size [.slice At nt ct] r.tg J B4 N4 J (fun u hu=>by rw[List.mem_singleton.1 hu];rfl) CE4 (by rw[hl1];simp only[maxLen];omega) (by rw[hl1];omega) ?_));intro v5 w5 O5 g5;rw[show pre++[n,r.tg]=pre++[n]++[r.tg]by simp]at O5;have hbs:∀b,(Value.slice (some ⟨g,0,none⟩) (p+1) co).ownBlock=some b->w.heap.size<=b:=O4.base;have hso:ug (w3.alloc (.cells #[.slice At nt ct] 26)) w5:=by obtain⟨_,o4,_⟩:=O4;exact ug.own o4 ax g5
   have H5:=H4.grown g5 H4.size hbs;have BX5:Z w5 w.heap.size 28 [.slice A q.name.length c,.int .i64 q.E,.int .i64 q.N]:=by obtain⟨_,o4,_⟩:=O4;exact vD BX4 o4 ax g5
   have O6:Hid (uy w5 w.heap.size 26 1 (ML w w5) v5 ((pre++[n])++[r.tg])):=Y (uy.ue O5 (fun _ x=>x) (fun _ _ x=>x.ue hso));obtain⟨A7,c7,hv7⟩:=O6.out.form;rw[show(pre++[n]++[r.tg]).length=p+2 by rw[List.length_append,hl1,hp.out];rfl]at hv7;subst hv7;have HN7:Hid (tM=(pre++[n])++wv q l f r.tg):=Y (by rw[HN.out,HW.out,List.append_assoc];rfl);clear g5 O5 H4 B4 N4 BX4 hso O4 CE4 HN HW hbs;go_wp2_with fail;go_roundw
   case rel=>exact⟨pre++[n],r.tg,f,by rw[hl1];omega,HN7,O6,H5,BX5⟩
   case measure=>show 18-(p+2)<18-(p+1);omega
theorem FH{o:Oper}{a:Act}(x y:Operand)(ho:o.op= .call {callee:=.builtin .min,args:= #[x,y],argTypes:= #[3,3]})(m n:Int)(hx:a.eval x= .int .i64 m)(hy:a.eval y= .int .i64 n):(execOp a.eval o).run prog w= .ok (.value (.int .i64 (if n<m then n else m))) w:=by
 unfold execOp;simp only[ho,resolve,Sem.run_bind,Sem.run_pure,Result.andThen_ok,List.map_toArray,List.map_cons,List.map_nil,hx,hy];go_simp
theorem GR:(prog.info? 301).map (·.size)=some 4:=by kernel_rfl
def adF(q:Qn)(l:List RR):Int:=if 17<(wv q l 17 q.name).length then 15 else if zy l (JC q l 17 q.name) q.E q.N=[]then 11 else 0
theorem SK(q:Qn)(l:List RR):∀(f:Nat) (n:List (List UInt8)) (i:Nat) (h:i+1<(wv q l f n).length),zy l ((wv q l f n)[i]'I) 5 q.N≠[]
 |0,n,i,h=>by simp[wv]at h
 |f+1,n,i,h=>by
  cases U:zy l n q.E q.N with
  |cons r rs=>
   have e2:wv q l (f+1) n=[n]:=by unfold wv;rw[U]
   rw[e2]at h;simp at h
  |nil=>
   cases X:zy l n 5 q.N with
   |nil=>have e2:wv q l (f+1) n=[n]:=lM;rw[e2]at h;simp at h
   |cons r rs=>
    have e2:wv q l (f+1) n=n::wv q l f r.tg:=by conv=>lhs;unfold wv;rw[U];simp only;rw[X]
    have key:∀(L:List (List (List UInt8))) (e:L=n::wv q l f r.tg) (h:i+1<L.length),zy l (L[i]'I) 5 q.N≠[]:=by
     intro L e h;subst e;cases i with
     |zero=>simp[X]
     |succ i=>simpa using SK q l f r.tg i aq
    exact key _ e2 h
theorem SP(q:Qn)(A Al:Option Addr)(c cA:Nat)(l:List RR)(w:World)(hN:xj w A c q.name)(hn:q.name.length<=100000)(hL:uD w 0 (.slice Al l.length cA) l)(hl:l.length<=65535):
  Calls prog 194 #[.agg #[.slice A q.name.length c,.int .i64 q.E,.int .i64 q.N],.slice Al l.length cA] w (abL (adF q l) w):=by
 obtain⟨aeR,hX⟩:=ao (adF q l);rw[hX.out];have HX:Below w.heap.size w ((w.alloc (.cells #[.slice A q.name.length c,.int .i64 q.E,.int .i64 q.N] 28)).alloc (.cells #[.slice none 0 0,.slice none 0 0,.int .i64 0,.int .i64 0] 301)):=gA;have BX:=(Z.new w 28 [.slice A q.name.length c,.int .i64 q.E,.int .i64 q.N]).alloc (.cells #[.slice none 0 0,.slice none 0 0,.int .i64 0,.int .i64 0] 301);have BF:=Z.vP (w.alloc (.cells #[.slice A q.name.length c,.int .i64 q.E,.int .i64 q.N] 28)) 301 [.slice none 0 0,.slice none 0 0,.int .i64 0,.int .i64 0] (w.heap.size+1) ap;have OF:=Y (fun(E:Int) (A':Option Addr) (c':Nat) (n:List (List UInt8)) (V:World) (hV:al w V) (h:xj V A' c' n) (hn:n.length<=100000)=>VN E q.N A' Al c' cA n l V h I (uD.G hL hV) hl);have NS:=Y (UI q A Al c cA l _ (hN.G HX) hn (uD.G hL HX) hl);have hl0:Hid (∀E n,(zy l n E q.N).length<=65535):=Y (fun E n=>by
  have:(zy l n E q.N).length<=l.length:=mo;omega)
 obtain⟨ls,hls⟩:=ao (Value.slice Al l.length cA);have HXX:Hid (aeR=if 17<(wv q l 17 q.name).length then 15 else if zy l ((wv q l 17 q.name).getLastD []) q.E q.N=[]then 11 else 0):=Y (by rw[<-hX.out];rfl);obtain⟨tM,hN0⟩:∃tM,wv q l 17 q.name=tM:=gp;have WG:Hid (∀i (h:i+1<tM.length),zy l (tM[i]'I) 5 q.N≠[]):=Y (by subst hN0;exact fun i h=>SK q l 17 q.name i h);have hNN:=Y hN0;clear hN0;obtain⟨acZ,zs,hz⟩:=SJ q l 17 q.name;have hNp:tM=acZ::zs:=hNN.out.symm.trans hz;clear hN hL hX hz;rw[hls.out]at OF NS⊢;rw[hNN.out]at NS HXX;obtain⟨p,hp⟩:∃p,tM.length=p+1:=⟨zs.length,by rw[hNp];rfl⟩;have akZ:Hid (tM.getLastD []=tM[p]'I):=Y (by
  have:tM.getLastD []=tM.getLast (by rw[hNp];simp):=by rw[List.getLastD_eq_getLast?,List.getLast?_eq_some_getLast (by rw[hNp];simp)];rfl
  rw[this,List.getLast_eq_getElem];congr 1;omega)
 clear hNp hNN;obtain⟨w1,hw1⟩:=ao ((w.alloc (.cells #[.slice A q.name.length c,.int .i64 q.E,.int .i64 q.N] 28)).alloc (.cells #[.slice none 0 0,.slice none 0 0,.int .i64 0,.int .i64 0] 301));rw[hw1.out]at HX BX BF NS;go_enter func194,ntmps194;go_wp2_with fail;rw[hw1.out];refine NS.out.mono ?_;rintro _ w2 ⟨An,cn,rfl,ON,b2⟩;have H2:=tL HX HX.size b2;have BX2:=BX.G b2 BX.lt;have BF2:=BF.G b2 BF.lt;have HON:=Y ON;have K12:=b2;clear NS HX BX BF b2 ON hw1;rw[hp]at HXX⊢;by_cases h17:17<p+1
 case pos=>have HX2:Hid (aeR=15):=Y (by rw[HXX.out,if_pos h17]);have axQ:(17:Int)<(p:Int)+1:=I;clear HXX WG HON OF akZ;go_wp2_with(refine tO (.store 301 (.tmp 4) (.tmp 17)) J (ab J (w.heap.size+1) 0 [.slice none 0 0,.slice none 0 0,.int .i64 0,.int .i64 0] BF2 ap GR aO ?_));intro w3 B3 g3 sw;clear sw;have H3:=tN H2 g3 H2.size I;clear g3 BF2;go_wp2_with fail;refine uH J (w.heap.size+1) J B3 _ underlying301 J GR J (.int .i64 15) J ?_;exact⟨none,0,0,none,0,0,0,0,by rw[HX2.out],H3⟩
 have axQ:¬(17:Int)<(p:Int)+1:=I;rw[if_neg h17]at HXX;rw[akZ.out]at HXX;obtain⟨g,hA,hg,cx,hcx,hce⟩:∃g,An=some ⟨g,0,none⟩/\g<w2.heap.size/\∃cx,w2.rangeAt g (0+p*1) cx/\ML w1 w2 cx (tM[p]'I):=by obtain⟨g,hA,hg,hr⟩:=uy.ud (fun _ _ h=>h.len) HON.out I;obtain⟨cx,hcx,hce⟩:=hr p I;exact⟨g,hA,hg,cx,hcx,hce⟩
 obtain⟨Ax,cx2,rfl,hxl,hxN⟩:=hce.read K12;subst hA;have d0:=hcx 0 _ J;simp only[Nat.zero_add,Nat.mul_one,Nat.add_zero]at d0;obtain⟨nm,hnm⟩:∃nm,tM[p]'I=nm:=gp;rw[hnm]at HXX hxl hxN d0;have q1:=BX2.K 1 J;have q2:=BX2.K 2 J;have HOF:=Y (OF.out q.E Ax cx2 nm w2 H2 hxN hxl);clear hcx hce hxN hnm akZ;go_wp2_with fail;refine HOF.out.mono ?_;rintro _ w3 ⟨A3,c3,rfl,O3,b3⟩;have H3:=tL H2 H2.size b3;have BX3:=BX2.G b3 BX2.lt;have BF3:=BF2.G b3 BF2.lt;have apL:=Y (uy.G (R':=ML w1 w3) HON.out b3 (fun _ _ h=>h.ue (ug.G b3)));have K13:=tL K12 K12.size b3;have hR:=hl0.out q.E nm;have H3':w2.heap.size<=w3.heap.size:=b3.size;obtain⟨R,hRR⟩:∃R,zy l nm q.E q.N=R:=gp;rw[hRR]at HXX hR O3⊢;have HO3:Hid (uD w3 w2.heap.size (.slice A3 R.length c3) R):=Y O3;clear HOF HON BX2 BF2 d0 q1 q2 b3 H2 K12 O3 hRR;obtain⟨nr,hnr⟩:∃nr,R.length=nr:=gp;have HNR:=Y hnr;rw[hnr]at hR⊢;clear hnr;have kF:Below w3.heap.size w3 (w3.alloc (.cells #[.slice Ax nm.length cx2,.slice A3 nr c3,.int .i64 0,.int .i64 p] 301)):=gj;have BN:=Z.new w3 301 [.slice Ax nm.length cx2,.slice A3 nr c3,.int .i64 0,.int .i64 p];by_cases h0:nr=0
 case pos=>have HX2:Hid (aeR=11):=Y (by rw[HXX.out,if_pos (List.length_eq_zero_iff.1 (HNR.out.trans h0))]);subst h0;have BF4:=BF3.G kF BF3.lt;have H4:=tL H3 H3.size kF;clear HXX WG apL OF HO3 BF3 H3 K13;go_wp2_with(refine tO (.store 301 (.tmp 4) (.tmp 40)) J (ab J (w.heap.size+1) 0 [.slice Ax nm.length cx2,.slice A3 0 c3,.int .i64 0,.int .i64 p] BF4 ap GR aO ?_));intro w5 B5 g5 sw;clear sw;have H5:=tN H4 g5 H4.size I;clear g5 BF4;go_wp2_with fail;refine uH J (w.heap.size+1) J B5 _ underlying301 J GR J (.int .i64 11) J ?_;exact⟨Ax,_,cx2,A3,0,c3,0,p,by rw[HX2.out],H5⟩
 have HX2:Hid (aeR=0):=Y (by rw[HXX.out,if_neg (fun e=>h0 (by rw[<-HNR.out,e];rfl))]);have agE:(0:Int)<nr:=I;obtain⟨gr,hA3,hgr,RT⟩:∃gr,A3=some ⟨gr,0,none⟩/\gr<w3.heap.size/\∀i,i<nr->∃t:Int,w3.cell? ⟨gr,0+i*33+3,none⟩=some (.int .i64 t):=by have aek:=HO3.out;obtain⟨gr,U,X,hr⟩:=aek.ud (fun _ _ h=>h.len) (by rw[HNR.out];omega);refine⟨gr,U,X,fun i hi=>?_⟩;obtain⟨cx,hcx,vn,vt,vm,hcs,_⟩:=hr i (by rw[HNR.out];exact hi);exact⟨_,hcx 3 _ bI⟩
 subst hA3;have HRT:=Y RT;obtain⟨t0,ht0⟩:=RT 0 I;simp only[Nat.zero_mul,Nat.zero_add]at ht0;have c3':=(kF.cell (p:=⟨gr,3,none⟩) hgr).trans ht0;have f2:=BN.frozen 2;clear HXX RT h0 HO3;have kF2:Hid (∀τ:Int,Below w3.heap.size w3 (w3.alloc (.cells #[.slice Ax nm.length cx2,.slice (some ⟨gr,0,none⟩) nr c3,.int .i64 τ,.int .i64 p] 301))):=Y (fun τ=>(Below.refl _ _).alloc (Nat.le_refl _) _);go_wp2_with fail;go_loopw[9] (fun iv wr=>∃(k:Nat) (τ:Int),k<=nr/\iv= .int .i64 k/\al w3 wr/\Z wr w3.heap.size 301 [.slice Ax nm.length cx2,.slice (some ⟨gr,0,none⟩) nr c3,.int .i64 τ,.int .i64 p]) (fun iv _=>nr-(intOf iv).toNat)
 case atStart=>exact⟨0,t0,Nat.zero_le _,J,kF2.out t0,Z.new w3 301 [.slice Ax nm.length cx2,.slice (some ⟨gr,0,none⟩) nr c3,.int .i64 t0,.int .i64 p]⟩
 clear kF BN kF2 c3' f2 ht0;obtain⟨k,τ,O,rfl,hB,BB⟩:=hrel;have e1:=BB.K 1 J;by_cases Hh:k<nr
 case pos=>
  have tQ:(k:Int)<nr:=I;obtain⟨t1,ht1⟩:=HRT.out k Hh;have ht2:=(hB.cell (p:=⟨gr,0+k*33+3,none⟩) hgr).trans ht1;go_upto_block 1 with fail;go_cut[] (fun wx=>∃τ':Int,al w3 wx/\Z wx w3.heap.size 301 [.slice Ax nm.length cx2,.slice (some ⟨gr,0,none⟩) nr c3,.int .i64 τ',.int .i64 p])
  case first=>
   go_wp2_with fail;have b1:=BB.drew.K 1 J;refine wp_region_held_drew (S:=fun V=>V.cell? ⟨w3.heap.size,1,none⟩=some (.slice (some ⟨gr,0,none⟩) nr c3)/\V.cell? ⟨gr,0+k*33+3,none⟩=some (.int .i64 t1)) (by kernel_rfl) ⟨b1,ht2⟩ (fun M=>?_);refine uh M 7 [0,2,4,3,5,6,7] J (by kernel_rfl) (fun _ _ _ _ _ h=>h) J J ?_
   (refine aj (.pointer (some ⟨w3.heap.size,2,none⟩)) ?_;simp only[z])
   (refine aj (.pointer (some ⟨w3.heap.size,1,none⟩)) ?_;simp only[z])
   (refine aj (.int .i64 k) ?_;simp only[z])
   (refine ah _ J J (fun V hV=>(ul 48 (.tmp 56) ⟨w3.heap.size,1,none⟩ J J (tV underlying48 J hV.1))) ?_;simp only[z])
   (refine ah (.pointer (some ⟨gr,0+k*33,none⟩)) J J (fun V hV=>(yA underlying48 So ax (.tmp 57) (.tmp 58) J J J Hh V)) ?_;simp only[z])
   (refine aj (.pointer (some ⟨gr,0+k*33+3,none⟩)) ?_;simp only[z])
   (refine ah _ J J (fun V hV=>(ul 3 (.tmp 60) ⟨gr,0+k*33+3,none⟩ J J (tV underlying3 J hV.2))) ?_;simp only[z])
   simp only[vx];refine um 1 (by kernel_rfl) ?_;refine xv 1 (some 55) 3 (.tmp 54) ⟨w3.heap.size,2,none⟩ J J J J (by kernel_rfl) (tV underlying3 J (BB.drew.K 2 J)) ?_;refine⟨M,?_⟩;simp only[z];refine uh M 2 [8,9] J (by kernel_rfl) (fun _ _ _ _ _ h=>h) J J ?_
   (refine ah (.int .i64 (if t1<τ then t1 else τ)) J J (fun V hV=>(FH (.tmp 55) (.tmp 61) J τ t1 J J)) ?_;simp only[z])
   (refine aj (.pointer (some ⟨w3.heap.size,2,none⟩)) ?_;simp only[z])
   simp only[vx];generalize(if t1<τ then t1 else τ)=τ' at*;refine um 10 (by kernel_rfl) ?_;refine xx 10 3 (.tmp 63) (.tmp 62) J J J (by kernel_rfl) w3.heap.size 2 J (.int .i64 τ') J BB.drew ap uB J J ?_;intro w4 B4 g4 _;have k4:=tN hB.drew g4 hB.size (Nat.le_refl _);have ht4:w4.cell? ⟨gr,0+k*33+3,none⟩=some (.int .i64 t1):=(k4.cell (p:=⟨gr,0+k*33+3,none⟩) hgr).trans ht1;refine⟨⟨B4.K 1 J,ht4⟩,?_⟩;simp only[z];refine wpAnyH_done (by kernel_rfl) ?_ _;clear M e1 b1 ht2;go_wp2_with fail;go_meet
   case rel=>exact⟨τ',k4,B4⟩
  obtain⟨τ',hB2,BB2⟩:=hcut;go_wp2_with fail;go_roundw
  case rel=>exact⟨k+1,τ',I,fU,hB2,BB2⟩
  case measure=>simp[intOf];omega
 have tQ:¬(k:Int)<nr:=I;obtain⟨w8,hw8⟩:∃w8,w8=wr:=gp;rw[<-hw8]at hB BB⊢;clear hw8 Hh HRT e1;have e1:=BB.K 1 J;go_wp2_with fail;go_loopw[10] (fun iv wr=>∃(k:Nat) (τ:Int),k<=p/\iv= .int .i64 k/\al w3 wr/\Z wr w3.heap.size 301 [.slice Ax nm.length cx2,.slice (some ⟨gr,0,none⟩) nr c3,.int .i64 τ,.int .i64 p]) (fun iv _=>p-(intOf iv).toNat)
 case atStart=>exact⟨0,τ,Nat.zero_le _,J,hB,BB⟩
 clear hB BB e1 tQ O;obtain⟨j,σ,hj,rfl,hB,BB⟩:=hrel;by_cases Hh:j<p
 case pos=>
  have tQ:(j:Int)+1<(p:Int)+1:=I;obtain⟨Aj,cj,hjl,hjN,dj⟩:∃Aj cj,(tM[j]'I).length<=100000/\xj w3 Aj cj (tM[j]'I)/\w3.cell? ⟨g,0+j*1,none⟩=some (.slice Aj (tM[j]'I).length cj):=by obtain⟨g',hA,hg',hr⟩:=uy.ud (fun _ _ h=>h.len) (show uy w3 w1.heap.size 26 1 (ML w1 w3) (.slice (some ⟨g,0,none⟩) tM.length cn) tM by exact apL.out) I;injection hA with hA;injection hA with hA;subst hA;obtain⟨cx,hcx,hce⟩:=hr j I;obtain⟨A',c',rfl,U,X⟩:=hce.read K13;exact⟨A',c',U,X,hcx 0 _ J⟩
  have hne:=WG.out j I;obtain⟨nj,hnj⟩:∃nj,tM[j]'I=nj:=gp;rw[hnj]at hjl hjN dj hne;have CJ:=Y (fun V (hV:al w3 V)=>OF.out 5 Aj cj nj V (tL H3 H3.size hV) (hjN.G hV) hjl);have hg3:g<w3.heap.size:=Nat.lt_of_lt_of_le hg H3';clear hjN hnj;go_upto_block 3 with fail;go_cut[] (fun wx=>∃τ':Int,al w3 wx/\Z wx w3.heap.size 301 [.slice Ax nm.length cx2,.slice (some ⟨gr,0,none⟩) nr c3,.int .i64 τ',.int .i64 p])
  case first=>
   go_wp2_with fail;refine wp_region_held_drew (S:=fun V=>al w3 V) (by kernel_rfl) hB.drew (fun M=>?_);refine uh M 8 [0,2,3,4,7,5,6,8] J (by kernel_rfl) (fun _ _ _ _ _ h=>h) J J ?_
   (refine aj (.pointer (some ⟨w3.heap.size,2,none⟩)) ?_;simp only[z])
   (refine aj ls ?_;simp only[z])
   (refine aj (.slice (some ⟨g,0,none⟩) (p+1) cn) ?_;simp only[z])
   (refine aj (.int .i64 j) ?_;simp only[z])
   (refine aj (.pointer (some ⟨w.heap.size,2,none⟩)) ?_;simp only[z])
   (refine ah (.pointer (some ⟨g,0+j*1,none⟩)) J J (fun V hV=>(yA underlying66 vh ax (.tmp 74) (.tmp 75) J J J I V)) ?_;simp only[z])
   (refine ah _ J J (fun V hV=>(ul 26 (.tmp 76) ⟨g,0+j*1,none⟩ J J (tV underlying26 J ((hV.cell (p:=⟨g,0+j*1,none⟩) hg3).trans dj)))) ?_;simp only[z])
   (refine ah _ J J (fun V hV=>(ul 3 (.tmp 78) ⟨w.heap.size,2,none⟩ J J (tV underlying3 J ((BX3.G hV BX3.lt).K 2 J)))) ?_;simp only[z])
   simp only[vx];have BBd:=BB.drew;generalize wr.drew=W at*;refine xu 1 9 (by kernel_rfl) ?_ ?_
   ·
    refine xv 1 (some 72) 3 (.tmp 71) ⟨w3.heap.size,2,none⟩ J J J J (by kernel_rfl) (tV underlying3 J (BBd.K 2 J)) ?_;refine⟨M,?_⟩;simp only[z];refine um 9 (by kernel_rfl) ?_;refine vO 9 (some 80) 230 #[ls,.slice Aj nj.length cj,.int .i64 5,.int .i64 q.N] J J (by kernel_rfl) bm (CJ.out _ M) ?_;rintro _ w9 ⟨A9,c9,rfl,O9,b9⟩;have hS9:=tL M M.size b9;have BB9:=BBd.G b9 BBd.lt;obtain⟨g9,hA9,d9⟩:∃g9,A9=some ⟨g9,0,none⟩/\∃t9:Int,w9.cell? ⟨g9,0+0*33+3,none⟩=some (.int .i64 t9):=by exact qB
    obtain⟨t9,d9⟩:=d9;subst hA9;have hp9:0<(zy l nj 5 q.N).length:=kp;generalize(zy l nj 5 q.N).length=n9 at*;refine⟨_,J,hS9,?_⟩;clear M O9;have M:=hS9;clear hS9;simp only[z];refine uh M 2 [10,11] J (by kernel_rfl) (fun _ _ _ _ _ h=>h) J J ?_
    (refine ah (.pointer (some ⟨g9,0+0*33,none⟩)) J J (fun V hV=>(yA (k:=0) underlying48 So ax (.tmp 80) (.const (.int .i64 0)) J J J hp9 V)) ?_;simp only[z])
    (refine aj (.pointer (some ⟨g9,0+0*33+3,none⟩)) ?_;simp only[z])
    simp only[vx];refine um 12 (by kernel_rfl) ?_;refine xv 12 (some 83) 3 (.tmp 82) ⟨g9,0+0*33+3,none⟩ J J J J (by kernel_rfl) (tV underlying3 J d9) ?_;refine⟨M,?_⟩;simp only[z];refine uh M 2 [13,14] J (by kernel_rfl) (fun _ _ _ _ _ h=>h) J J ?_
    (refine ah (.int .i64 (if t9<σ then t9 else σ)) J J (fun V hV=>(FH (.tmp 72) (.tmp 83) J σ t9 J J)) ?_;simp only[z])
    (refine aj (.pointer (some ⟨w3.heap.size,2,none⟩)) ?_;simp only[z])
    simp only[vx];generalize(if t9<σ then t9 else σ)=τ' at*;refine um 15 (by kernel_rfl) ?_;refine xx 15 3 (.tmp 85) (.tmp 84) J J J (by kernel_rfl) w3.heap.size 2 J (.int .i64 τ') J BB9 ap uB J J ?_;intro w10 B10 g10 _;have k10:=tN M g10 M.size (Nat.le_refl _);refine⟨k10,?_⟩;simp only[z];refine wpAnyH_done (by kernel_rfl) ?_ _;exact rC
   ·
    refine vO 9 (some 80) 230 #[ls,.slice Aj nj.length cj,.int .i64 5,.int .i64 q.N] J J (by kernel_rfl) bm (CJ.out _ M) ?_;rintro _ w9 ⟨A9,c9,rfl,O9,b9⟩;have hS9:=tL M M.size b9;have BB9:=BBd.G b9 BBd.lt;obtain⟨g9,hA9,d9⟩:∃g9,A9=some ⟨g9,0,none⟩/\∃t9:Int,w9.cell? ⟨g9,0+0*33+3,none⟩=some (.int .i64 t9):=by exact qB
    obtain⟨t9,d9⟩:=d9;subst hA9;have hp9:0<(zy l nj 5 q.N).length:=kp;generalize(zy l nj 5 q.N).length=n9 at*;refine⟨_,J,hS9,?_⟩;clear M O9;have M:=hS9;clear hS9;simp only[z];refine uh M 2 [10,11] J (by kernel_rfl) (fun _ _ _ _ _ h=>h) J J ?_
    (refine ah (.pointer (some ⟨g9,0+0*33,none⟩)) J J (fun V hV=>(yA (k:=0) underlying48 So ax (.tmp 80) (.const (.int .i64 0)) J J J hp9 V)) ?_;simp only[z])
    (refine aj (.pointer (some ⟨g9,0+0*33+3,none⟩)) ?_;simp only[z])
    simp only[vx];refine xu 1 12 (by kernel_rfl) ?_ ?_
    ·
     refine xv 1 (some 72) 3 (.tmp 71) ⟨w3.heap.size,2,none⟩ J J J J (by kernel_rfl) (tV underlying3 J (BB9.K 2 J)) ?_;refine⟨M,?_⟩;simp only[z];refine um 12 (by kernel_rfl) ?_;refine xv 12 (some 83) 3 (.tmp 82) ⟨g9,0+0*33+3,none⟩ J J J J (by kernel_rfl) (tV underlying3 J d9) ?_;refine⟨M,?_⟩;simp only[z];refine uh M 2 [13,14] J (by kernel_rfl) (fun _ _ _ _ _ h=>h) J J ?_
     (refine ah (.int .i64 (if t9<σ then t9 else σ)) J J (fun V hV=>(FH (.tmp 72) (.tmp 83) J σ t9 J J)) ?_;simp only[z])
     (refine aj (.pointer (some ⟨w3.heap.size,2,none⟩)) ?_;simp only[z])
     simp only[vx];generalize(if t9<σ then t9 else σ)=τ' at*;refine um 15 (by kernel_rfl) ?_;refine xx 15 3 (.tmp 85) (.tmp 84) J J J (by kernel_rfl) w3.heap.size 2 J (.int .i64 τ') J BB9 ap uB J J ?_;intro w10 B10 g10 _;have k10:=tN M g10 M.size (Nat.le_refl _);refine⟨k10,?_⟩;simp only[z];refine wpAnyH_done (by kernel_rfl) ?_ _;exact rC
    ·
     refine xv 12 (some 83) 3 (.tmp 82) ⟨g9,0+0*33+3,none⟩ J J J J (by kernel_rfl) (tV underlying3 J d9) ?_;refine⟨M,?_⟩;simp only[z];refine um 1 (by kernel_rfl) ?_;refine xv 1 (some 72) 3 (.tmp 71) ⟨w3.heap.size,2,none⟩ J J J J (by kernel_rfl) (tV underlying3 J (BB9.K 2 J)) ?_;refine⟨M,?_⟩;simp only[z];refine uh M 2 [13,14] J (by kernel_rfl) (fun _ _ _ _ _ h=>h) J J ?_
     (refine ah (.int .i64 (if t9<σ then t9 else σ)) J J (fun V hV=>(FH (.tmp 72) (.tmp 83) J σ t9 J J)) ?_;simp only[z])
     (refine aj (.pointer (some ⟨w3.heap.size,2,none⟩)) ?_;simp only[z])
     simp only[vx];generalize(if t9<σ then t9 else σ)=τ' at*;refine um 15 (by kernel_rfl) ?_;refine xx 15 3 (.tmp 85) (.tmp 84) J J J (by kernel_rfl) w3.heap.size 2 J (.int .i64 τ') J BB9 ap uB J J ?_;intro w10 B10 g10 _;have k10:=tN M g10 M.size (Nat.le_refl _);refine⟨k10,?_⟩;simp only[z];refine wpAnyH_done (by kernel_rfl) ?_ _;exact rC
  obtain⟨τ',hB2,BB2⟩:=hcut;go_wp2_with fail;go_roundw
  case rel=>exact⟨j+1,τ',I,fU,hB2,BB2⟩
  case measure=>simp[intOf];omega
 have tQ:¬(j:Int)+1<(p:Int)+1:=I;have BF4:=BF3.G hB BF3.lt;have H4:=tL H3 H3.size hB;clear WG apL OF BF3 H3 K13 Hh;go_wp2_with(first
  |(refine tO (.load 301 (.tmp 8)) rfl ?_;go_must(refine tP rfl _ _ rfl w3.heap.size 0 rfl BB 4 ap _ underlying301 rfl GR [.slice Ax nm.length cx2,.slice (some ⟨gr,0,none⟩) nr c3,.int .i64 σ,.int .i64 p] rfl ?_))
  |(refine tO (.store 301 (.tmp 4) (.tmp 86)) rfl (ab rfl (w.heap.size+1) 0 [.slice Ax nm.length cx2,.slice (some ⟨gr,0,none⟩) nr c3,.int .i64 σ,.int .i64 p] BF4 ap GR aO ?_)))
 intro w5 B5 g5 sw;clear sw;have H5:=tN H4 g5 H4.size I;clear g5 BF4 BB;go_wp2_with fail;refine uH J (w.heap.size+1) J B5 _ underlying301 J GR J (.int .i64 0) J ?_;exact⟨Ax,_,cx2,some ⟨gr,0,none⟩,nr,c3,σ,p,by rw[HX2.out],H5⟩
theorem aaq(h:Hd)(conn aaI:Bool)(w:World):Calls prog 148 #[.agg h.vJ.toArray,.bool conn,.bool aaI] w (uf (.int .i64 (xc h conn aaI)) w):=by
 have HX:Below w.heap.size w (w.alloc (.cells h.vJ.toArray 46)):=gj;have BX:=Z.new w 46 h.vJ;have c4:=BX.K 4 (u:=.bool h.tc) J;have c9:=BX.K 9 (u:=.int .i64 h.rc) J;have hb:xc h conn aaI=if h.tc=true/\conn=false then 2 else if h.rc=0\/h.rc=3 then 1 else if h.rc=2 then 4 else if aaI=true/\(h.rc=1\/h.rc=4)then 3 else 5:=rfl
 have HK:=Y hb;clear hb BX;generalize h.vJ=L,h.tc=tc,h.rc=rc at*;by_cases U:tc=true/\conn=false
 ·obtain⟨rfl,rfl⟩:=U;have aeq:Hid (xc h false aaI=2):=Y (by rw[HK.out];simp);clear HK;go_enter func148,ntmps148;exact pa
 rw[if_neg U]at HK;have HT:tc=false\/tc=true/\conn=true:=mr;obtain⟨V,hV⟩:=ao (xc h conn aaI);have HV:Hid ((if rc=0\/rc=3 then(1:Int)else if rc=2 then 4 else if aaI=true/\(rc=1\/rc=4)then 3 else 5)=V):=Y eM;rw[hV.out];clear HK hV U;have tM:∀k:Int,rc≠k->(rc==k)=false:=lR;by_cases r0:rc=0
 case pos=>subst r0;have aeq:Hid (V=1):=Y eO;clear HV tM;exact oX
 by_cases r3:rc=3
 case pos=>subst r3;have aeq:Hid (V=1):=Y eO;clear HV tM r0;exact oX
 by_cases r2:rc=2
 case pos=>subst r2;have aeq:Hid (V=4):=Y eO;clear HV tM r0 r3;exact oX
 by_cases r1:rc=1
 case pos=>
  subst r1;cases aaI with
  |true=>have aeq:Hid (V=3):=Y eO;clear HV tM r0 r3 r2;exact oX
  |false=>have aeq:Hid (V=5):=Y eO;clear HV tM r0 r3 r2;exact oX
 by_cases r4:rc=4
 case pos=>
  subst r4;cases aaI with
  |true=>have aeq:Hid (V=3):=Y eO;clear HV tM r0 r3 r2 r1;exact oX
  |false=>have aeq:Hid (V=5):=Y eO;clear HV tM r0 r3 r2 r1;exact oX
 have aeq:Hid (V=5):=j9;have q0:=tM 0 r0;have q1:=tM 1 r1;have q2:=tM 2 r2;have q3:=tM 3 r3;have q4:=tM 4 r4;clear HV tM r0 r1 r2 r3 r4;cases aaI<;>rcases HT with rfl|⟨rfl,rfl⟩
 all_goals
  go_enter func148,ntmps148;exact pa
theorem UJ(q:Qn)(A:Option Addr)(c:Nat)(ds:List Value)(m:vo)(w:World)(hN:xj w A c q.name)(hn:q.name.length<=100000)(hM:uA w ds m):
  Calls prog 149 #[.agg #[.slice A q.name.length c,.int .i64 q.E,.int .i64 q.N],.agg ds.toArray] w (uf (.int .i64 (yO q m)) w):=by
 have FV:=Y (Ol q m);obtain⟨V,hV⟩:=ao (yO q m);rw[hV.out]at FV⊢;obtain⟨vq,va,vu,ve,hds,X,h3,h4,h5,l1,l2,_⟩:=hM;obtain⟨Aa,ca,hva⟩:=h3.form;rw[hva]at h3;have d11:ds[11]?=some (.slice Aa m.an.length ca):=by rw[hds,hva];rfl
 have d9:ds[9]?=some (.int .i64 m.hd.rc):=bJ;have HX:Below w.heap.size w ((w.alloc (.cells #[.slice A q.name.length c,.int .i64 q.E,.int .i64 q.N] 28)).alloc (.cells ds.toArray 50)):=gA;have BX:=(Z.new w 28 [.slice A q.name.length c,.int .i64 q.E,.int .i64 q.N]).alloc (.cells ds.toArray 50);have BM:=Z.vP (w.alloc (.cells #[.slice A q.name.length c,.int .i64 q.E,.int .i64 q.N] 28)) 50 ds (w.heap.size+1) ap;have FO:Hid (Calls prog 194 #[.agg #[.slice A q.name.length c,.int .i64 q.E,.int .i64 q.N],.slice Aa m.an.length ca] ((w.alloc (.cells #[.slice A q.name.length c,.int .i64 q.E,.int .i64 q.N] 28)).alloc (.cells ds.toArray 50)) (abL (Su q m) _)):=Y (by
  have:=SP q A Aa c ca m.an _ (hN.G HX) hn (uD.G h3 HX) l2;rwa[show adF q m.an=Su q m from(XA q m).symm]at this)
 obtain⟨xe,hxe⟩:∃xe,Su q m=xe:=gp;rw[hxe]at FO FV;have a11:=BM.K 11 d11;obtain⟨w1,hw1⟩:=ao ((w.alloc (.cells #[.slice A q.name.length c,.int .i64 q.E,.int .i64 q.N] 28)).alloc (.cells ds.toArray 50));rw[hw1.out]at HX BX BM FO;clear hds hva X h3 h4 h5 hN hV hxe;generalize m.an.length=na,m.hd.rc=rc at*;go_enter func149,ntmps149;go_wp2_with fail;rw[hw1.out];refine FO.out.mono ?_;rintro _ w2 ⟨Bn,nn,bn,Br,nr,br,t1,t2,rfl,b2⟩;have BM2:=BM.G b2 BM.lt;have H2:=tL HX HX.size b2;have e9:=BM2.K 9 d9;have hsz:=BM2.lt;clear FO BX BM HX b2 a11 hw1;have tM:∀k:Int,xe≠k->(xe==k)=false:=lR;have e9':=(BM2.alloc (.cells #[.slice Bn nn bn,.slice Br nr br,.int .i64 t1,.int .i64 t2] 301)).K 9 d9;by_cases h0:xe=0
 case pos=>have HV:Hid (V=1):=Y (by rw[FV.out,if_pos h0]);subst h0;clear FV;exact rf
 have n0:=tM 0 h0;by_cases h15:xe=15
 case pos=>have HV:Hid (V=5):=Y (by rw[FV.out,if_neg h0,if_pos h15]);subst h15;clear FV n0;exact rf
 by_cases h3:rc=3
 case pos=>have HV:Hid (V=3):=Y (by rw[FV.out,if_neg h0,if_neg h15,if_pos h3]);subst h3;clear FV;exact rf
 have n3:(rc==3)=false:=iT;have HV:Hid (V=2):=Y (by rw[FV.out,if_neg h0,if_neg h15,if_neg h3]);clear FV;exact rf
end Go.Proofs.YthnbcmlnpdabhaaGreat
