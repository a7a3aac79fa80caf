/-
  Layer 32 (pair):Hear.
-/
import Derived.Test.YtakkipnmpmobbaaGreatISq
namespace Go.Proofs.YtakkipnmpmobbaaGreat
open _root_.Go.Proofs.Tryz
set_option maxHeartbeats 8000000
open Go.RowKit
set_option maxRecDepth 100000
set_option linter.unusedVariables false
set_option linter.unusedSimpArgs false
theorem yF.step{w0 w w':World}{b g gl:Nat}{hk:List (Nat×Option Nat)}{p:Pr}(h:yF w0 w b g gl hk p){L:Lt}(E:sE w gl L){i gx:Nat}{D D':Option Nat}{x x':Xc}(hX:hk[i]?=some (gx,D))(hx:p.bg[i]?=some x)(k:Fr (XS gx gl D) w w')(hat:tJ w' gx gl D' x')(hD:∀d,D'=some d->D=some d\/w.heap.size<=d)(hbw:b<=w.heap.size):
  yF w0 w' b g gl (hk.set i (gx,D')) {p with bg:=p.bg.set i x'}/\Fr (wj w XTy b) w w':=by
 obtain⟨⟨T,vq,vb,a1,a2,a3,a4⟩,h5,h6,h7,h8,h9,h10⟩:=h;obtain⟨xa,xb,xd⟩:=h5.rU i gx D x hX hx;have ahk:Fr (wj w XTy b) w w':=k.mono (XS.Q xa E xb h9 xd (.inl I) (.inr (.inl I)) (.inr (.inr I)));have e:(hk.set i (gx,D')).map (·.1)=hk.map (·.1):=by
  rw[List.map_set];refine List.ext_getElem ar (fun j U F=>?_);rw[List.getElem_set];split
  ·rename_i hj;subst hj;obtain⟨hi,e⟩:=List.getElem?_eq_some_iff.1 hX;rw[List.getElem_map,e]
  ·rfl
 exact⟨⟨⟨T,vq,vb,⟨ahk.sD a1.1 (wj.not a1.1 dQ),a1.2⟩,a2.fr ahk,YD.fr a3 ahk,by rw[e];exact a4.rM (fun _ x=>ahk.OL x dQ) (fun _ _ x=>x)⟩,h5.step hX hx E k hat hD hbw,ahk.tD h6 h6.size Y,h7,h8,h9,h10⟩,ahk⟩
theorem abo{x:Xc}(h:x.done=true)(L:Lt)(e:Ev):sK x L e=(x,L,[]):=by unfold sK;rw[if_pos h]
theorem PI.mid{p:Pr}{L:Lt}{tk k H:Nat}(h:PI p L tk k H)(ok:∀x∈p.bg,x.ok)(e:Ev):∀i,i<=p.bg.length->(sH (p.bg.take i) L e).2.1.us<=L.us+2*i/\(sH (p.bg.take i) L e).2.1.ds=L.ds
 |0,_=>⟨Nat.le_refl _,I⟩
 |i+1,hi=>by
  obtain⟨U,F⟩:=PI.mid h ok e i Y;rw[BJ _ _ _ _ Y];obtain⟨_,y2,y3,_⟩:=(h.ea i _ (List.getElem?_eq_getElem Y)).OG (ok _ (List.getElem_mem Y)) (sH (p.bg.take i) L e).2.1 e p I I;refine⟨?_,?_⟩
  ·show(sK p.bg[i] (sH (p.bg.take i) L e).2.1 e).2.1.us<=_;omega
  ·show(sK p.bg[i] (sH (p.bg.take i) L e).2.1 e).2.1.ds=_;rw[y3,F]
theorem AV:∀(f:Nat) (p:Pr) (L:Lt) (o:List Ou),(tS f p L o).2.2.length<=o.length+f
 |0,p,L,o=>Nat.le_refl _
 |f+1,p,L,o=>by
  unfold tS;split
  ·refine Nat.le_trans (AV f _ _ _) ?_;have:=OR p L;rw[List.length_append];omega
  ·show o.length<=_;omega
theorem ae8(A:Option Addr)(w:World):(binOp BinOp.eql 88 (.pointer A) (.pointer none)).run prog w= .ok (.bool A.isNone) w:=by cases A<;>kernel_rfl
def AX(p:Pr)(L:Lt)(e:Ev)(i:Nat):Pr:={p with bg:=(sH (p.bg.take i) L e).1++p.bg.drop i}
theorem adv(p:Pr)(L:Lt)(e:Ev)(i:Nat)(hi:i<p.bg.length):(AX p L e i).bg[i]?=some p.bg[i]:=by
 have E:(sH (p.bg.take i) L e).1.length=i:=kD;unfold AX;rw[List.getElem?_append_right Y,E,Nat.sub_self,List.getElem?_drop,Nat.add_zero,List.getElem?_eq_getElem hi]
theorem adw(p:Pr)(L:Lt)(e:Ev)(i:Nat)(hi:i<=p.bg.length):(AX p L e i).bg.length=p.bg.length:=by
 unfold AX;rw[List.length_append,MQ,List.length_take,List.length_drop];omega
theorem ae9(p:Pr)(L:Lt)(e:Ev)(i:Nat)(hi:i<p.bg.length)(hd:p.bg[i].done=true):AX p L e (i+1)=AX p L e i/\(sH (p.bg.take (i+1)) L e).2=(sH (p.bg.take i) L e).2:=by
 have e1:sH (p.bg.take (i+1)) L e=((sH (p.bg.take i) L e).1++[p.bg[i]],(sH (p.bg.take i) L e).2.1,(sH (p.bg.take i) L e).2.2):=by rw[BJ _ _ _ _ hi];unfold JY;rw[abo hd,List.append_nil]
 refine⟨?_,by rw[e1]⟩;unfold AX;rw[e1,List.drop_eq_getElem_cons hi,List.append_assoc];rfl
theorem adx(p:Pr)(L:Lt)(e:Ev):AX p L e p.bg.length=vW p L e:=by
 unfold AX vW;rw[List.take_length,List.drop_length,List.append_nil]
def afa(t:TypeId):Prop:=XTy t\/Dy t
theorem aea{t:TypeId}(U:t≠173)(F:t≠99)(h3:t≠243)(h4:t≠106):¬afa t:=by
 rintro((h|h|h)|h)
 ·exact U h
 ·exact F h
 ·exact h3 h
 ·exact h4 h
theorem ady(p:Pr)(L:Lt)(e:Ev)(i:Nat)(hi:i<p.bg.length):({AX p L e i with bg:=(AX p L e i).bg.set i (sK p.bg[i] (sH (p.bg.take i) L e).2.1 e).1}:Pr)=AX p L e (i+1):=by
 have E:(sH (p.bg.take i) L e).1.length=i:=kD;have:(AX p L e i).bg.set i (sK p.bg[i] (sH (p.bg.take i) L e).2.1 e).1=(AX p L e (i+1)).bg:=by unfold AX;simp only;rw[List.set_append,if_neg Y,E,Nat.sub_self,BJ _ _ _ _ hi,List.drop_eq_getElem_cons hi];show _++(_::p.bg.drop (i+1))=(_++[_])++p.bg.drop (i+1);rw[List.append_assoc];rfl
 rw[this];rfl
theorem Yi(w0:World)(b g gl:Nat)(hk:List (Nat×Option Nat))(p:Pr)(L:Lt)(e:Ev)(tk k H:Nat)(w:World)(h:yF w0 w b g gl hk p)(E:sE w gl L)(hI:PI p L tk k H)(hgo:goP p)(rB:e.fr.ip.length=16)(hH:H+e.data.length<=8796093022208)(O:k<=90000000)(hbw:b<=w.heap.size)(hnm:p.nm.length<=100000):
  Calls prog 45 #[.pointer (some ⟨g,0,none⟩),.agg (vA e).toArray] w (JZ w0 b g gl (yg p L e) (tk+if e.kind=1 then 1 else 0) (k+1) (H+e.data.length) w):=by
 have hel:=yX rB;have HX:Below w.heap.size w (w.alloc (.cells (vA e).toArray 69)):=fZ;have h2:=N.new w 69 (vA e);have ok:=h.xs.ok;have hn2:p.bg.length<=2:=Nat.le_trans hI.bl hI.tl;have MID:=J (hI.mid ok e);have PH:=J (hI.af7 ok e hgo);obtain⟨tk2,ale⟩:∃tk2,(tk+if e.kind=1 then 1 else 0)=tk2:=gh;rw[ale]at PH⊢;clear ale;have EA:=J hI.ea;have hus:=hI.us;have hds:=hI.ds;have aBF:=J rB;have HAT:=J (h.G hbw HX);have HLT:=J (E.G HX);obtain⟨⟨T,vq,vb,a1,a2,a3,a4⟩,h5,h6,h7,h8,h9,h10⟩:=h.G hbw HX;obtain⟨Ab,cb,hvb⟩:=a4.form;subst hvb;have hXl:(hk.map (·.1)).length=p.bg.length:=ij;have d13:(w.alloc (.cells (vA e).toArray 69)).cell? ⟨g,13,none⟩=some (.slice Ab (hk.map (·.1)).length cb):=ms;obtain⟨n,hn⟩:=aq p.bg.length;rw[hXl,hn.out]at d13;rw[hn.out]at hn2 hus;obtain⟨es,hes⟩:∃es,vA e=es:=gh;have HE:=J hes;rw[hes]at h2 hel HAT HLT d13 HX a1 a2 a3 a4 h5 h6⊢;clear hes;obtain⟨W,hW⟩:=aq (w.alloc (.cells es.toArray 69));have HW:=J HX;have HPT:=J a4;rw[hW.out]at HAT HLT h2 HW HPT;have hbW:b<=W.heap.size:=Nat.le_trans hbw HW.out.size;have arM:=hbw;obtain⟨ag6,hG⟩:=aq (hk.map (·.1));rw[hG.out]at HPT;have E0:=J h2;clear h E hI a1 a2 a3 a4 h5 h6 h10 hXl HX hgo hbw h2;go_enter func45,ntmps45;go_wp2_with fail;rw[hW.out]at d13⊢;go_loopw[5,15] (fun ov iv wr=>∃(i:Nat) (o:List Ou) (A1:Option Addr) (c1:Nat) (X1:List (Nat×Option Nat)),i<=n/\iv= .int .i64 i/\ov= .slice A1 o.length c1/\Hid (o=(sH (p.bg.take i) L e).2.2)/\o.length<=2*i/\Hid (tf w.heap.size wr (.slice A1 o.length c1) o)/\Hid (yF w0 wr b g gl X1 (AX p L e i))/\Hid (sE wr gl (sH (p.bg.take i) L e).2.1)/\Hid (X1.map (·.1)=ag6)/\Hid (Fr (wj W afa b) W wr)/\Hid (Fr (wj w Eg b) w wr)) (fun _ iv _=>n-(intOf iv).toNat)
 case atStart=>exact⟨0,[],none,0,hk,Nat.zero_le _,I,I,J I,Nat.zero_le _,J (tf.nil _ _),HAT,HLT,hG,J (Fr.refl _ _),J (Fr.G HW.out)⟩
 clear HAT HLT hG d13;obtain⟨i,o,A1,c1,X1,hi,rfl,rfl,HO,hol,HOU,HAT,HLT,HX1,HFR,HFW⟩:=hrel;have hwr:w.heap.size<=wr.heap.size:=HFW.out.size;have avn:b<=wr.heap.size:=Nat.le_trans arM hwr;by_cases aA:i<n
 case pos=>
  have h1:(i:Int)<n:=Y;have hlp:i<p.bg.length:=gM;have hml:i<(AX p L e i).bg.length:=by rw[adw _ _ _ _ Y];exact hlp
  have PTr:PtL wr b (.slice Ab (X1.map (·.1)).length cb) (X1.map (·.1)):=by rw[HX1.out];exact HPT.out.rM (fun _ x=>HFR.out.OL x (aea K K K K)) (fun _ _ x=>x)
  obtain⟨gs,off,gx,D,q1,q2,q3,q4,q5,q6,q7⟩:=J0 PTr HAT.out.xs i hml;have hge:=adv p L e i hlp;have hxe:(AX p L e i).bg[i]=p.bg[i]:=by have:=List.getElem?_eq_getElem hml;rw[hge]at this;injection this with this;exact this.symm
  rw[hxe]at q5;have DN:=J (Dk q5);have ea:=EA.out i p.bg[i] (List.getElem?_eq_getElem hlp);obtain⟨m1,m2⟩:=MID.out i Y;have hxd:=ea.hd;have hxs:=ea.s45;have XC:=J (XT gx gl D p.bg[i] (sH (p.bg.take i) L e).2.1 e wr q5 HLT.out aBF.out Y Y (by rw[m2];exact hds) Y);have MD:=J (ae9 p L e i hlp);have MS:=J (ady p L e i hlp);have MT:=J (BJ p.bg L e i hlp);have HL6:=MH p.bg[i] (sH (p.bg.take i) L e).2.1 e;have HGE:=J hge;have HQ4:=J q4;unfold xk at XC;rw[HE.out]at XC;obtain⟨x,hx⟩:∃x,p.bg[i]=x:=gh;rw[hx]at DN XC MD MS MT HL6 HGE;have EB:=HFR.out.sD E0.out (wj.not E0.out (aea K K K K));subst q1;clear q2 q4 q5 q6 q7 hge hxe ea m1 m2 hxd hxs hx PTr hml hlp;cases hd:x.done with
  |true=>
   rw[hd]at DN;obtain⟨e1,e2⟩:=MD.out hd;have e3:Hid (o=(sH (p.bg.take (i+1)) L e).2.2):=J (by rw[e2];exact HO.out);have e4:Hid (yF w0 wr b g gl X1 (AX p L e (i+1))):=J (by rw[e1];exact HAT.out);have e5:Hid (sE wr gl (sH (p.bg.take (i+1)) L e).2.1):=J (by rw[e2];exact HLT.out);clear e1 e2 hd MD MS MT XC HL6 HGE HQ4 EB;go_wp2_with fail;refine DN.out.mono ?_;rintro _ w2 ⟨rfl,rfl⟩;clear DN;go_wp2_with fail;go_roundw
   case rel=>exact⟨i+1,o,A1,c1,X1,Y,fQ,I,e3,Y,HOU,e4,e5,HX1,HFR,HFW⟩
   case measure=>simp[intOf];omega
  |false=>
   rw[hd]at DN;obtain⟨R,hR⟩:=aq (sK x (sH (p.bg.take i) L e).2.1 e);rw[hR.out]at XC MS HL6;have e3:Hid (o++R.2.2=(sH (p.bg.take (i+1)) L e).2.2):=J (by rw[MT.out,HO.out,<-hR.out];rfl);have e5:Hid (R.2.1=(sH (p.bg.take (i+1)) L e).2.1):=J (by rw[MT.out,<-hR.out];rfl);clear hd MD MT hR;go_wp2_with fail;refine DN.out.mono ?_;rintro _ w2 ⟨rfl,rfl⟩;clear DN;go_wp2_with(refine rF (.load 69 (.tmp 3)) I ?_;go_must(refine rG I _ _ I w.heap.size 0 I EB 22 Y _ underlying69 I MJ es (uH Y) ?_));refine XC.out.mono ?_;rintro _ w6 ⟨v6,D6,rfl,hO6,hX6,hL6,hF6,hD6⟩;obtain⟨A6,F6⟩:=HAT.out.step HLT.out HQ4.out HGE.out hF6 hX6 hD6 avn;rw[MS.out]at A6;have O6:=HOU.out.frY F6 dQ;have O6':=hO6.mono hwr;have hmp:(X1.set i (gx,D6)).map (·.1)=ag6:=by
    rw[<-HX1.out,List.map_set];refine List.ext_getElem ar (fun j U F=>?_);rw[List.getElem_set];split
    ·rename_i hj;subst hj;obtain⟨hi',e⟩:=List.getElem?_eq_some_iff.1 HQ4.out;rw[List.getElem_map,e]
    ·rfl
   have aA8:=J hmp;have HA6:=J A6;have HO6:=J O6;have aw3:=J O6';have HF6:=J F6;have axb:=J hL6;have hw6:w.heap.size<=w6.heap.size:=Nat.le_trans hwr F6.size;have hoo:o.length+R.2.2.length<=100000:=Y;clear XC MS HGE HQ4 EB hO6 hX6 hL6 hF6 hD6 A6 F6 O6 O6' HOU HAT HLT HX1 hmp;go_wp2_with(at_builtin;go_must(refine uw _ I (.tmp 22) (.tmp 25) I I I HO6.out aw3.out hw6 hoo ?_));intro v' w7 ho7 hf7;obtain⟨A',c',hv',-,-⟩:=ho7.form;have F7:Fr (wj w6 Dy b) w6 w7:=hf7.mono (fun i hi=>by obtain⟨k1,k2⟩:=HO6.out.Fg (p:=Dy) I i hi;exact⟨Y,k2⟩);have A7:=J (HA6.out.yu F7 (Nat.le_refl _) Y dS dS dS dS);have L7:Hid (sE w7 gl (sH (p.bg.take (i+1)) L e).2.1):=J (by rw[<-e5.out];exact axb.out.yu F7 dS);have FR7:Hid (Fr (wj W afa b) W w7):=J (Fr.uP HFR.out (Fr.uP (HF6.out.RJ (fun _ h=>.inl h)) (F7.RJ (fun _ h=>.inr h))));have FW7:Hid (Fr (wj w Eg b) w w7):=J ((Fr.uP HFW.out (HF6.out.RJ af9)).trans hf7 (fun i hi c=>by have:=(HO6.out.Fg (p:=Dy) I i c).1;omega));have O7:=J ho7;have aAU:(o++R.2.2).length<=2*(i+1):=ee;subst hv';clear ho7 hf7 F7 HA6 HO6 aw3 HF6 axb HFR HFW HO;go_wp2_with fail;go_roundw
   case rel=>exact⟨i+1,o++R.2.2,A',c',X1.set i (gx,D6),Y,fQ,I,e3,aAU,O7,A7,L7,aA8,FR7,FW7⟩
   case measure=>simp[intOf];omega
 have h1:¬(i:Int)<n:=Y;obtain rfl:i=n:=Y;have hte:p.bg.take i=p.bg:=kW;rw[hte]at HO HLT;have hme:AX p L e i=vW p L e:=by rw[<-hn.out];exact adx p L e
 rw[hme]at HAT;have BG:=J (J7 w0 b g gl X1 (vW p L e) (sH p.bg L e).2.1 _ _ _ wr HAT.out HLT.out PH.out Y avn hnm);unfold JZ VU at BG;have HR:Hid (yg p L e=((tS 3 (vW p L e) (sH p.bg L e).2.1 []).1,(tS 3 (vW p L e) (sH p.bg L e).2.1 []).2.1,o++(tS 3 (vW p L e) (sH p.bg L e).2.1 []).2.2)):=J (by rw[HO.out];rfl);have hbl:(tS 3 (vW p L e) (sH p.bg L e).2.1 []).2.2.length<=3:=by have:=AV 3 (vW p L e) (sH p.bg L e).2.1 [];simpa using this
 generalize tS 3 (vW p L e) (sH p.bg L e).2.1 []=Hh at*;clear hte hme HAT HLT PH MID EA HPT HFR HX1 E0 HO;go_wp2_with fail;refine BG.out.mono ?_;rintro _ w8 ⟨⟨v8,X8,rfl,o8,a8,l8,f8⟩,pi8,go8⟩;have O8:=HOU.out.frY f8 dR;have O8':=o8.mono hwr;have hw8:w.heap.size<=w8.heap.size:=Nat.le_trans hwr f8.size;have HA8:=J a8;have HL8:=J l8;have HF8:=J (Fr.uP HFW.out f8);have HO8:=J O8;have aw2:=J O8';have HP8:=J (And.intro pi8 go8);have hoo:o.length+Hh.2.2.length<=100000:=Y;clear BG HOU HFW o8 a8 l8 f8 pi8 go8 O8 O8';go_wp2_with(at_builtin;go_must(refine uw _ I (.tmp 28) (.tmp 30) I I I HO8.out aw2.out hw8 hoo ?_));intro v' w9 ho9 hf9;obtain⟨A',c',hv',-,-⟩:=ho9.form;have F9:Fr (wj w8 Dy b) w8 w9:=hf9.mono (fun i hi=>by obtain⟨k1,k2⟩:=HO8.out.Fg (p:=Dy) I i hi;exact⟨Y,k2⟩);have A9:=J (HA8.out.yu F9 (Nat.le_refl _) Y dS dS dS dS);have L9:=J (HL8.out.yu F9 dS);have FW9:Hid (Fr (wj w Eg b) w w9):=J (HF8.out.trans hf9 (fun i hi c=>by have:=(HO8.out.Fg (p:=Dy) I i c).1;omega));have O9:=J ho9;subst hv';clear ho9 hf9 F9 HA8 HL8 HF8 HO8 aw2;go_wp2_with fail;go_ret;rw[HR.out];exact⟨⟨_,X8,I,O9.out,A9.out,L9.out,FW9.out⟩,HP8.out⟩
def tU(f:Int):List Int:=(if f=6 then[]else[1])++(if f=4 then[]else[28])
theorem abp(f:Int):(tU f).length<=2:=by unfold tU;split<;>split<;>simp
theorem adz(a b c d e f g h i j:Value)(turn:Int)(gl:Nat)(W:World):(Instr.build 136 #[(0,.agg [a,b,c,d,e,f,g,h,i,j].toArray),(2,.int .i64 turn),(3,.pointer (some ⟨gl,0,none⟩))]).run prog W= .ok (.agg (MR [a,b,c,d,e,f,g,h,i,j] rI turn gl rI).toArray) W:=by kernel_rfl
theorem afb(T:List Value)(hT:T.length=10)(turn:Int)(gl:Nat)(W:World):(Instr.build 136 #[(0,.agg T.toArray),(2,.int .i64 turn),(3,.pointer (some ⟨gl,0,none⟩))]).run prog W= .ok (.agg (MR T rI turn gl rI).toArray) W:=by
 match T,hT with
 |[a,b,c,d,e,f,g,h,i,j],_=>exact adz ..
theorem agc:(prog.info? 133).map (·.size)=some 1:=by kernel_rfl
theorem MV{T:List Value}(hT:T.length=10)(vq:Value)(turn:Int)(gl:Nat)(vb v:Value):(MR T vq turn gl vb).set 10 v=MR T v turn gl vb:=by
 unfold MR;rw[show(10:Nat)=10+0 from I,OJ hT];rfl
theorem abq(r:Rs)(nm:List (List UInt8))(tys:List Int)(turn:Int)(L:Lt)(k H:Nat)(ht:tys.length<=2)(hu:L.us<=4*k)(hd:L.ds.length<=17592186044416):PI (tT r nm tys turn) L 0 k H:=
 ⟨ht,Nat.zero_le _,fun i x h=>by simp[tT]at h,by show 0+sm r*(tys.length-0)<=sm r*tys.length-0;rw[Nat.zero_add];exact Nat.le_refl _,by show L.us<=4*k+2*0;omega,hd⟩
def agd(w0:World)(b gl:Nat)(R:PR)(k H:Nat)(w:World)(e:Ending)(w':World):Prop:=∃g v hk,e= .returned (.tuple #[.pointer (some ⟨g,0,none⟩),v])/\tf w.heap.size w' v R.2.2/\yF w0 w' b g gl hk R.1/\sE w' gl R.2.1/\Fr (wj w Eg b) w w'/\PI R.1 R.2.1 0 k H/\goP R.1/\w.heap.size<=g
theorem Yj(w0:World)(b gl:Nat)(cs:List Value)(r:Rs)(A:Option Addr)(c:Nat)(nm:List (List UInt8))(fam turn:Int)(L:Lt)(k Hn:Nat)(w:World)(h:Bk w0 w cs r)(hw:ao w0 w)(hN:wA w A c nm)(hnl:nm.length<=100000)(E:sE w gl L)(hu:L.us<=4*k)(O:k<=90000000)(hd:L.ds.length<=17592186044416)(h0b:w0.heap.size<=b)(hbw:b<=w.heap.size)(hbl:b<=gl):
  Calls prog 76 #[.agg cs.toArray,.slice A nm.length c,.int .i64 fam,.int .i64 turn,.pointer (some ⟨gl,0,none⟩)] w (agd w0 b gl (Dz r nm (tU fam) turn L) k Hn w):=by
 have hcl:=h.len;have HB:Below w.heap.size w (w.alloc (.cells cs.toArray 29)):=fZ;have B0:=N.new w 29 cs;have HD:=J (fun W (Z:ao w W)=>Ea w0 cs r W (h.G Z) (rC hw hw.size Z));have RB:Hid (∀W,(Instr.build 33 #[(0,.agg cs.toArray)]).run prog W= .ok (.agg (cs++[rI,rI,rI]).toArray) W):=gP;have CL:=J (fun V (hV:ao w V)=>yn A c nm V (hN.G hV) hnl);have hll:Hid (∀l∈nm,l.length<=140737488355328):=J hN.2.2.2;have HLT:=J E;have HW0:=J hw;have HRL:=J (Gm r);have HSI:=J (abq (rT r) nm (tU fam) turn L k Hn (abp fam) hu hd);obtain⟨R,hR⟩:=aq (Dz r nm (tU fam) turn L);rw[hR.out];obtain⟨nn,hnn⟩:∃nn,nm.length=nn:=gh;rw[hnn]at CL⊢;have HNN:=J hnn;unfold I9 at CL;have auW:nn<=100000:=Y;clear h hN E hu hd hw hnn hnl;go_enter func76,ntmps76;go_wp2_with(first
  |(refine rF (.load 29 (.tmp 5)) rfl ?_;go_must(refine rG rfl _ _ rfl w.heap.size 0 rfl B0 10 Y _ underlying29 rfl wE cs (uH Y) ?_))
  |(refine rF (.build 33 #[(0,.tmp 13)]) rfl ?_;go_must(refine sy rfl 33 _ rfl #[(0,.agg cs.toArray)] cY (RB.out _) ?_)))
 refine(HD.out _ HB).mono ?_;rintro _ B ⟨T,u1,u2,u3,rfl,RO,b1⟩;have af0:=RO.len;have H1:=rC HB HB.size b1;have RBS:=J (fun V=>afb T af0 turn gl V);have RO1:=J RO;obtain⟨L0,hL0⟩:=aq (MR T rI turn gl rI);rw[hL0.out]at RBS;have SL0:L0.length=14:=by rw[<-hL0.out];exact Io af0 ..
 clear HB B0 HD RB RO b1;have B2:=N.new B 136 L0;have H2:Below B.heap.size B (B.alloc (.cells L0.toArray 136)):=fZ;have hgw:w.heap.size<=B.heap.size:=H1.size;have CL2:=J (CL.out _ (rC H1 H1.size H2));rw[HNN.out]at CL2;have H1':=J H1;clear H1 CL;go_wp2_with(first
  |(refine rF (.field 33 (.tmp 15) 0) rfl ?_;go_must(refine Bl rfl 33 (.tmp 15) 0 rfl rfl (Il T af0 u1 u2 u3 _) ?_))
  |(refine rF (.build 136 #[(0,.tmp 16),(2,.tmp 17),(3,.tmp 18)]) rfl ?_;go_must(refine sy rfl 136 _ rfl #[(0,.agg T.toArray),(2,.int .i64 turn),(3,.pointer (some ⟨gl,0,none⟩))] cY (RBS.out _) ?_)))
 refine CL2.out.mono ?_;rintro _ w3 ⟨An,cn,rfl,ho3,b3⟩;have N3:Mq w3 (.slice An nn cn) nm:=⟨by have:=xi ho3;unfold tw;rw[HNN.out];exact this,by rw[HNN.out];exact auW,hll.out⟩;have B3:=B2.G b3 B2.lt;have H3:=rC H2 H2.size b3;obtain⟨g,hg⟩:∃g,B.heap.size=g:=gh;rw[hg,<-hL0.out]at B3;rw[hg]at H3 hgw⊢;have HG:=J hg;have HN3:=J N3;clear B2 H2 b3 CL2 RBS ho3 N3 hg SL0 hL0;go_upto_if 24 with fail;go_cut[] (fun wx=>∃Aq cq l,N wx g 136 (MR T (.slice Aq (l:List Qn).length cq) turn gl rI)/\Hid (rJ wx g 160 3 (QI wx) (.slice Aq l.length cq) l)/\Hid (Mq wx (.slice An nn cn) nm)/\Below g B wx/\Hid (l=(if fam=6 then[]else[⟨nm,1,1⟩]))/\l.length<=1)
 case first=>
  by_cases h6:fam=6
  case pos=>
   subst h6;go_wp2_with fail;go_meet
   case rel=>exact⟨none,0,[],B3,J (rJ.nil _ _ _ _ _),HN3,H3,J I,Nat.zero_le _⟩
  case neg=>
   have h6':(fam !=6)=true:=iw;have h66:=J h6;have HQ:Hid (rJ w3 g 160 3 (QI w3) (.slice none ([]:List Qn).length 0) []):=J (rJ.nil _ _ _ _ _);have Hh:=B3;have H:=H3;have HN:=HN3;have hlz:([]:List Qn).length<=1:=Nat.zero_le _;have d10:w3.cell? ⟨g,10,none⟩=some rI:=VS.c ⟨B3,af0⟩ 0 I;clear B3 H3 HN3;go_wp2_with(first
    |(refine rF (.build 160 #[(0,.tmp 30),(1,.const (.int .i64 1)),(2,.const (.int .i64 1))]) rfl ?_;go_must(refine sy rfl 160 _ rfl #[(0,.slice An nn cn),(1,.int .i64 1),(2,.int .i64 1)] cY (VQ An nn cn 1 _) ?_))
    |(refine rF (.buildSlice 133 1 #[(0,.tmp 31)]) rfl ?_;go_must(refine vQ rfl 133 160 _ 3 40 underlying133 FY K K (.tmp 31) rfl [.slice An nn cn,.int .i64 1,.int .i64 1] rfl rfl ?_)))
   intro wz Bz kz;have Nz:=HN.out.rM (rZ.G kz);have Qz:=rJ.G (R':=QI wz) HQ.out kz (fun _ _ ⟨v,e,n⟩=>⟨v,e,n.rM (rZ.G kz)⟩);have hl:=rJ.ne HQ.out (Nat.le_refl _);have Pz:=Hh.G kz Hh.lt;have Hz:=rC H (Nat.le_of_lt Hh.lt) kz;have QIz:QI wz [.slice An nn cn,.int .i64 1,.int .i64 1] ⟨nm,1,1⟩:=⟨.slice An nn cn,I,Nz⟩;have HPz:=J Pz;have HHz:=J Hz;have HQz:=J Qz;have HNz:=J Nz;clear kz Pz Hz Qz Nz Hh H HQ HN d10;go_wp2_with(at_builtin;go_must(refine sJ _ I (.tmp 29) (.tmp 32) 133 I 160 _ 3 40 underlying133 FY (by kernel_rfl) K (R:=QI wz) g _ ([]:List Qn) I HQz.out (Nat.le_of_lt HPz.out.lt) _ [.slice An nn cn,.int .i64 1,.int .i64 1] ⟨nm,1,1⟩ I Bz hl I aO QIz aL Y ?_));intro v' wa Oa ga;have Ka:rZ wz wa:=js;have Na:=HNz.out.rM Ka;have Qa:rJ wa g 160 3 (QI wa) v' (([]:List Qn)++[⟨nm,1,1⟩]):=iU;have Pa:N wa g 136 (MR T (.slice none (([]:List Qn)).length 0) turn gl rI):=rJ.wF HQz.out HPz.out K ga;have Ha:=HHz.out.grown ga (Nat.le_of_lt HPz.out.lt) HQz.out.base;obtain⟨A',c',hv'⟩:=Qa.form;obtain⟨l2,hl2⟩:=aq (([]:List Qn)++[⟨nm,1,1⟩]);rw[hl2.out]at Qa hv';subst hv';obtain⟨La,hLa⟩:=aq (MR T (.slice none (([]:List Qn)).length 0) turn gl rI);have SLa:La.length=14:=kC;rw[hLa.out]at Pa;have HQa:=J Qa;have HNa:=J Na;have HHa:=J Ha;clear HPz HHz HQz HNz Oa ga Ka Na Qa Ha Bz hl QIz;go_wp2_with(refine rF (.store 133 (.tmp 35) (.tmp 33)) I (af I g 10 (.slice A' l2.length c') Pa (by rw[SLa];decide) agc ?_));intro wb Bb gb sw;clear sw;rw[<-hLa.out,MV af0]at Bb;have Kb:rZ wa wb:=rZ.sD gb Pa K;have Nb:=J (HNa.out.rM Kb);have Qb:Hid (rJ wb g 160 3 (QI wb) (.slice A' l2.length c') l2):=iC;have Hb:=rE HHa.out gb (Nat.le_of_lt Pa.lt) (Nat.le_refl _);have amg:=hl2.out;have aBh:l2.length<=1:=by rw[<-hl2.out];exact Nat.le_refl 1
   go_wp2_with fail;go_meet
   case rel=>exact⟨A',c',l2,Bb,Qb,Nb,Hb,J (by rw[if_neg h66.out,<-hl2.out];rfl),aBh⟩
 obtain⟨Aq,cq,l,Hh,HQ,HN,H,HLQ,hl1⟩:=hcut;obtain⟨w4,rfl⟩:∃w4,w4=wc:=gh;clear B3 H3 HN3;go_upto_if 37 with fail;go_cut[] (fun wx=>∃Aq cq l,N wx g 136 (MR T (.slice Aq (l:List Qn).length cq) turn gl rI)/\Hid (rJ wx g 160 3 (QI wx) (.slice Aq l.length cq) l)/\Hid (Mq wx (.slice An nn cn) nm)/\Below g B wx/\Hid (l=(tU fam).map (fun t=>⟨nm,t,1⟩)))
 case first=>
  by_cases h4:fam=4
  case pos=>
   subst h4;have HL3:Hid (l=(tU 4).map (fun t=>⟨nm,t,1⟩)):=J (by rw[HLQ.out];rfl);go_wp2_with fail;go_meet
   case rel=>exact⟨Aq,cq,l,Hh,HQ,HN,H,HL3⟩
  case neg=>
   have h4':(fam !=4)=true:=kh;have h44:=J h4;have d10:w4.cell? ⟨g,10,none⟩=some (.slice Aq l.length cq):=VS.c ⟨Hh,af0⟩ 0 I;go_wp2_with(first
    |(refine rF (.build 160 #[(0,.tmp 43),(1,.const (.int .i64 28)),(2,.const (.int .i64 1))]) rfl ?_;go_must(refine sy rfl 160 _ rfl #[(0,.slice An nn cn),(1,.int .i64 28),(2,.int .i64 1)] cY (VQ An nn cn 28 _) ?_))
    |(refine rF (.buildSlice 133 1 #[(0,.tmp 44)]) rfl ?_;go_must(refine vQ rfl 133 160 _ 3 40 underlying133 FY K K (.tmp 44) rfl [.slice An nn cn,.int .i64 28,.int .i64 1] rfl rfl ?_)))
   intro wz Bz kz;have Nz:=HN.out.rM (rZ.G kz);have Qz:=rJ.G (R':=QI wz) HQ.out kz (fun _ _ ⟨v,e,n⟩=>⟨v,e,n.rM (rZ.G kz)⟩);have hl:=rJ.ne HQ.out (Nat.le_refl _);have Pz:=Hh.G kz Hh.lt;have Hz:=rC H (Nat.le_of_lt Hh.lt) kz;have QIz:QI wz [.slice An nn cn,.int .i64 28,.int .i64 1] ⟨nm,28,1⟩:=⟨.slice An nn cn,I,Nz⟩;have HPz:=J Pz;have HHz:=J Hz;have HQz:=J Qz;have HNz:=J Nz;clear kz Pz Hz Qz Nz Hh H HQ HN d10;go_wp2_with(at_builtin;go_must(refine sJ _ I (.tmp 42) (.tmp 45) 133 I 160 _ 3 40 underlying133 FY (by kernel_rfl) K (R:=QI wz) g _ l I HQz.out (Nat.le_of_lt HPz.out.lt) _ [.slice An nn cn,.int .i64 28,.int .i64 1] ⟨nm,28,1⟩ I Bz hl I aO QIz aL Y ?_));intro v' wa Oa ga;have Ka:rZ wz wa:=js;have Na:=HNz.out.rM Ka;have Qa:rJ wa g 160 3 (QI wa) v' (l++[⟨nm,28,1⟩]):=iU;have Pa:N wa g 136 (MR T (.slice Aq (l).length cq) turn gl rI):=rJ.wF HQz.out HPz.out K ga;have Ha:=HHz.out.grown ga (Nat.le_of_lt HPz.out.lt) HQz.out.base;obtain⟨A',c',hv'⟩:=Qa.form;obtain⟨l2,hl2⟩:=aq (l++[⟨nm,28,1⟩]);rw[hl2.out]at Qa hv';subst hv';obtain⟨La,hLa⟩:=aq (MR T (.slice Aq (l).length cq) turn gl rI);have SLa:La.length=14:=kC;rw[hLa.out]at Pa;have HQa:=J Qa;have HNa:=J Na;have HHa:=J Ha;clear HPz HHz HQz HNz Oa ga Ka Na Qa Ha Bz hl QIz;go_wp2_with(refine rF (.store 133 (.tmp 48) (.tmp 46)) I (af I g 10 (.slice A' l2.length c') Pa (by rw[SLa];decide) agc ?_));intro wb Bb gb sw;clear sw;rw[<-hLa.out,MV af0]at Bb;have Kb:rZ wa wb:=rZ.sD gb Pa K;have Nb:=J (HNa.out.rM Kb);have Qb:Hid (rJ wb g 160 3 (QI wb) (.slice A' l2.length c') l2):=iC;have Hb:=rE HHa.out gb (Nat.le_of_lt Pa.lt) (Nat.le_refl _);have HL3:Hid (l2=(tU fam).map (fun t=>⟨nm,t,1⟩)):=J (by
    rw[<-hl2.out,HLQ.out];unfold tU;rw[if_neg h44.out];split<;>rfl)
   go_wp2_with fail;go_meet
   case rel=>exact⟨A',c',l2,Bb,Qb,Nb,Hb,HL3⟩
 obtain⟨Aq2,cq2,l2,B2,HQ2,HN2,H2,HL2⟩:=hcut;obtain⟨w5,rfl⟩:∃w5,w5=wc:=gh;have HBw:ao w w5:=by refine H1'.out.trans ?_;exact H2.mono hgw
 have RO2:=RO1.out.G (by have q:=H2;rw[<-HG.out]at q;exact q);have BA:=rC HW0.out HW0.out.size HBw;have hbg:b<=g:=Y;have aBS:b<=w5.heap.size:=Nat.le_trans hbw HBw.size;have AT:yF w0 w5 b g gl [] (tT (rT r) nm (tU fam) turn):=⟨⟨T,_,rI,⟨B2,af0⟩,RO2,by show YD w5 _ ((tU fam).map (fun t=>⟨nm,t,1⟩));rw[<-HL2.out];exact rJ.zero HQ2.out,rJ.nil _ _ _ _ _⟩,zS.nil _ _ _,BA,h0b,hbg,hbl,HRL.out⟩;have BG:=J (J7 w0 b g gl [] (tT (rT r) nm (tU fam) turn) L 0 k Hn w5 AT (HLT.out.G HBw) HSI.out Y aBS (by show nm.length<=100000;rw[HNN.out];exact auW));have hRR:Hid (tS 3 (tT (rT r) nm (tU fam) turn) L []=R):=J (by rw[<-hR.out];rfl);rw[hRR.out]at BG;unfold JZ VU at BG;have FB:=J (Fr.G (S:=wj w Eg b) HBw);clear AT BA RO2 B2 HQ2 HN2 H2 HL2 HSI HLT HBw;go_wp2_with fail;refine BG.out.mono ?_;rintro _ w6 ⟨⟨v6,X6,rfl,o6,a6,l6,f6⟩,pi6,go6⟩;have HF:=J (Fr.uP FB.out f6);have HQ:=J (And.intro (o6.mono FB.out.size) (And.intro a6 (And.intro l6 (And.intro pi6 go6))));clear BG o6 a6 l6 f6 pi6 go6;go_wp2_with fail;go_ret2;obtain⟨o6,a6,l6,pi6,go6⟩:=HQ.out;exact⟨g,v6,X6,I,o6,a6,l6,HF.out,pi6,go6,hgw⟩
end Go.Proofs.YtakkipnmpmobbaaGreat
