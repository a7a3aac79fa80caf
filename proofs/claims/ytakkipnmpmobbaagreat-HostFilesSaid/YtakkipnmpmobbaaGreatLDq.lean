/-
  Layer 34 (host):dns.
-/
import Derived.Test.YtakkipnmpmobbaaGreatLCq
namespace Go.Proofs.YtakkipnmpmobbaaGreat
open _root_.Go.Proofs.Tryz
set_option maxHeartbeats 8000000
open Go.RowKit
set_option maxRecDepth 100000
set_option linter.unusedVariables false
set_option linter.unusedSimpArgs false
variable {b' Hh k gl b H lo tk:Nat} {w w' w0:World} {e:TypeId} {v:Value}
section
variable {w0 w w':World} {b g gl n:Nat} {D:Cg} {c:Hc} {L:Lt} {h2 TK H:Nat}
theorem Kh.yu{p:TypeId->Prop}(h:Kh w0 w b g gl D c n L h2 TK)(k:Fr (wj w p b') w w')(Z:b<=b')(U:¬p 91)(F:¬p 186)(h3:¬p 99):Kh w0 w' b g gl D c n L h2 TK:=
 ⟨h.rU.yu k Z U F,h.lt.yu k h3,h.nm,h.us,h.ds,h.tk,h.sn,h.pp,h.dn⟩
theorem Sn.yu{p:TypeId->Prop}(h:Sn w0 w b g gl D c n)(k:Fr (wj w p b') w w')(Z:b<=b')(U:¬p 91)(F:¬p 186):Sn w0 w' b g gl D c n:=
 ⟨h.rU.yu k Z U F,h.nm,h.sn,h.dn,h.pp,h.vd⟩
theorem KT.yu{p:TypeId->Prop}{dp:Bool}(h:KT w0 w b g gl D c n L h2 TK H dp)(k:Fr (wj w p b') w w')(Z:b<=b')(aA:b<=w.heap.size)(U:¬p 91)(F:¬p 186)(h3:¬p 99)(h4:¬p 136)(h5:¬p 173)(h6:¬p 243)(h7:¬p 137):KT w0 w' b g gl D c n L h2 TK H dp:=by
 obtain⟨gp,hk,p,tk,k',a1,a2,a3⟩:=h.pr;exact⟨h.rU.yu k Z U F,h.lt.yu k h3,h.nm,h.ds,h.sn,h.dn,gp,hk,p,tk,k',a1,a2.yu k Z aA h5 h6 h4 h7,a3⟩
end
section
variable {w0 w:World} {b g gl n:Nat} {D:Cg} {c:Hc} {L:Lt} {h2 TK H:Nat}
theorem UZ(h:KT w0 w b g gl D c n L h2 TK H false)(A:Option Addr)(k cc:Nat):Calls prog 43 #[.pointer (some ⟨g,0,none⟩),.slice A k cc] w (vG (fun v w'=>v= .slice A k cc/\ao w w')):=by
 obtain⟨gp,hk,p,tk,k',hpp,hPA,hPI,hgo,hd,-⟩:=h.pr;obtain⟨T,hK,_⟩:=h.rU.k;have d23:=hK.ci 13 (u:=.pointer (some ⟨gp,0,none⟩)) eO;have DNE:=J (Dn hPA (Nat.le_trans hPI.bl hPI.tl));rw[hd]at DNE;clear h hPA hPI hgo hd hK hpp;go_enter func43,ntmps43;go_wp2_with fail;refine wp_loop_rounds 1 ?_;rw[rounds_succ];go_wp2_with fail;refine DNE.out.mono ?_;rintro _ wy ⟨rfl,hby⟩;go_wp2_with fail;go_ret;exact⟨_,I,I,hby⟩
end
theorem Kj:∀(f:Nat) (p:Pr) (L:Lt) (o:List Ou),(tS f p L o).1.nm=p.nm/\(tS f p L o).1.tys=p.tys/\(tS f p L o).1.r=p.r
 |0,p,L,o=>⟨I,I,I⟩
 |f+1,p,L,o=>by
  unfold tS;split
  ·exact Kj f (Fh p L) _ _
  ·exact⟨I,I,I⟩
theorem Kk{n:List (List UInt8)}(h:rR n=0):n.length<=100000:=by
 have U:=ud h;have F:∀l:List (List UInt8),l.length<=sq l:=by
  intro l;induction l with
  |nil=>simp
  |cons a l ih=>simp[sq]at ih⊢;omega
 have:=F n;omega
section
variable {w0 w w':World} {b g gl n:Nat} {D:Cg} {c:Hc} {L:Lt} {h2 TK H:Nat}
theorem Kh.put(h:Kh w0 w b g gl D c n L h2 TK){c':Hc}(hg:w.grownBy w' (some g)){T:List Value}(O:HK w g T c)(hk':HK w' g T c')(e:c'.vh=c.vh/\c'.vs=c.vs/\c'.nv=c.nv/\c'.cv=c.cv/\c'.av=c.av/\c'.tv=c.tv/\c'.vv=c.vv)(hf:c'.gl=c.gl/\c'.fam=c.fam/\c'.turn=c.turn)(e2:c'.bg=c.bg/\c'.pp=c.pp/\c'.r6=c.r6/\c'.dn=c.dn/\c'.r1=c.r1/\c'.r2=c.r2)(hn:HsN D c' n):Kh w0 w' b g gl D c' n L h2 TK:=by
 obtain⟨e1,e3,e4,e5,e6,e7⟩:=e2;exact⟨h.rU.put hg O hk' e hf (by rw[e1,e3];exact fun _ h=>h) (by rw[e6];exact h.rU.r1) (by rw[e7];exact h.rU.eq.2.2.2.1),h.lt.yu (h.rU.frG hg) eH,hn,by rw[e1];exact h.us,h.ds,by rw[e1];exact h.tk,by rw[e1,e4];exact h.sn,e3.trans h.pp,e5.trans h.dn⟩
end
def BhQ(lo:Nat)(o0:List Ou)(hb:Value->World->Prop)(B:World)(v2:Value)(w2:World):Prop:=∃o,tf B.heap.size w2 v2 o/\o.length<=50000/\sR B.heap.size B w2/\B.heap.size<=w2.heap.size/\∀v3 w3,tf lo w3 v3 (o0++o)->Fr (wj w2 Dy lo) w2 w3->hb v3 w3
section
variable {w0 w:World} {b g gl n:Nat} {D:Cg} {c:Hc} {L:Lt} {h2 TK H lo:Nat}
theorem V8(h:Kh w0 w b g gl D c n L h2 TK\/KT w0 w b g gl D c n L h2 TK H true)(hp:KS D)(hbw:b<=w.heap.size)(hE:h2<=80000000)(v0:Value)(o0:List Ou)(hO:tf lo w v0 o0)(Z:b<=lo)(rH:lo<=w.heap.size)(hol:o0.length<=50000)(hb:Value->World->Prop)
  (KB:∀B c1 L1 vd r1 r2 r3 (xs:List sg),Kh w0 B b g gl D c1 n L1 h2 TK->Below b w B->sR w.heap.size w B->w.heap.size<=B.heap.size->(c.pp=none->c.next=D.cd.length/\c1=c)->c1.bg=c.bg->1<=vd->vd<=5->C9 B r1 xs->r2.oneCell'=true->Calls prog 69 #[.pointer (some ⟨g,0,none⟩),.agg [.int .i64 vd,r1,r2,.int .i64 r3].toArray] B (vG (BhQ lo o0 hb B)))
  (KN:∀B v1 c1 L1 i t LL,i<D.cd.length->KT w0 B b g gl D c1 n L1 h2 TK H false->tf lo B v1 (o0++(Dz D.r (D.cd.getD i []) (tU D.fam) t LL).2.2)->Below b w B->sR lo w B->c1.bg=c.bg+1->hb v1 B):
  Calls prog 43 #[.pointer (some ⟨g,0,none⟩),v0] w (vG hb):=by
 obtain⟨A0,c0,rfl,-,-⟩:=hO.form;have HP:=J hp;have HOU:=J hO;have HKB:=J KB;have HKN:=J KN;clear hp hO KB KN;obtain⟨pv,d23⟩:∃pv,w.cell? ⟨g,23,none⟩=some (.pointer pv):=by
  rcases h with h|h
  ·obtain⟨T,hK,hR⟩:=h.rU.k;exact⟨_,hK.ci 13 eU⟩
  ·obtain⟨T,hK,hR⟩:=h.rU.k;obtain⟨gp,hk,p,tk,k',hpp,_⟩:=h.pr;exact⟨_,hK.ci 13 eO⟩
 have HH:=Lib.hid h;clear h
 ·
  go_enter func43,ntmps43;go_wp2_with fail;refine wp_loop_rounds 2 ?_;rw[rounds_succ];go_upto_if 12 with fail;go_cut[] (fun wx=>∃c1 L1,Hid (Kh w0 wx b g gl D c1 n L1 h2 TK)/\Hid (tf lo wx (.slice A0 o0.length c0) o0)/\Hid (Below b w wx)/\Hid (sR w.heap.size w wx)/\w.heap.size<=wx.heap.size/\(c.pp=none->c1=c)/\c1.bg=c.bg)
  case first=>
   rcases HH.out with h|h
   ·
    obtain⟨T,hK,hR⟩:=h.rU.k;have e23:=hK.ci 13 (u:=.pointer none) eU;have hpv:pv=none:=iR;subst hpv;have HSS:=Lib.hid h;clear h hK hR e23 d23;go_wp2_with fail;go_meet
    case rel=>exact⟨c,L,HSS,HOU,J (Below.refl _ _),J (sR.refl _ _),Nat.le_refl _,fun _=>rfl,I⟩
   ·
    obtain⟨T,hK,hR⟩:=h.rU.k;obtain⟨gp,hk,p,tk,k',hpp,hPA,hPI,hgo,hd,_⟩:=h.pr;have e23:=hK.ci 13 (u:=.pointer (some ⟨gp,0,none⟩)) eO;have hpv:pv=some ⟨gp,0,none⟩:=iR;subst hpv;have DNE:=J (Dn hPA (Nat.le_trans hPI.bl hPI.tl));rw[hd]at DNE;have LV:=J (fun W (hW:ao w W)=>UY L h2 TK H (h.yu (p:=fun _=>False) (b':=b) (Fr.G hW) (Nat.le_refl _) hbw id id id id id id id) HP.out (Nat.le_trans hbw hW.size));have ao9:c.pp≠none:=by rw[hpp];simp
    clear h hPA hPI hgo hd hK hR hpp;go_wp2_with fail;refine DNE.out.mono ?_;rintro _ B ⟨rfl,hb1⟩;have LV1:=J (LV.out B hb1);clear LV DNE e23 d23;go_wp2_with fail;refine LV1.out.mono ?_;rintro _ w2 ⟨vd,va,vn,ttl,xs,c2,rfl,hv1,hv5,hxs,hvn,hS2,ajf,aLb,aMj,aLf,hB2,hK2⟩;obtain⟨Ax,cx,rfl⟩:=hxs.1.form;have w1:∀u∈[Value.int .i64 vd,.slice Ax xs.length cx,vn,.int .i64 ttl],u.oneCell'=true:=by exact nX
    have HXS:=J hxs;have HS2:=J hS2;have HB2:=J ((hb1.mono hbw).trans hB2);have HK2:=J (hK2);clear LV1 hxs hS2 hB2 hK2;have Y1:=N.new w2 50 [.int .i64 0,rI,rI,.int .i64 0];have k1:Below w2.heap.size w2 (w2.alloc (.cells #[.int .i64 0,.slice none 0 0,.slice none 0 0,.int .i64 0] 50)):=fZ;go_wp2_with(refine rF (.store 50 (.tmp 5) (.tmp 21)) I (ab I w2.heap.size 0 [.int .i64 vd,.slice Ax xs.length cx,vn,.int .i64 ttl] Y1 (Nat.le_refl 4) vE w1 ?_));intro w3 B3 g3 sw;clear sw;have Y3:N w3 w2.heap.size 50 [.int .i64 vd,.slice Ax xs.length cx,vn,.int .i64 ttl]:=jz;have k3:=J (rE k1 g3 k1.size (Nat.le_refl _));clear Y1 k1 B3 g3;have d0:=Y3.rD 0 I;have S3:=J (HS2.out.yu (p:=fun _=>False) (b':=b) (Fr.G k3.out) (Nat.le_refl _) id id id);have als:b<=w2.heap.size:=Nat.le_trans (Nat.le_trans hbw HB2.out.size) (Nat.le_refl _);have HB3:=J (HB2.out.trans (k3.out.mono als));have alr:b<=w3.heap.size:=Nat.le_trans hbw HB3.out.size;have hw3:w.heap.size<=w3.heap.size:=HB3.out.size;have HK3:Hid (sR w.heap.size w w3):=J ((sR.G hb1).trans ((HK2.out.mono hb1.size).trans ((sR.G k3.out).mono HB2.out.size)));have O3:=J (sR.ous (lo':=0) HK3.out HOU.out);have X3:=J (HXS.out.G k3.out);obtain⟨T3,hT3,-⟩:=S3.out.rU.k;have HT3:=J hT3;clear HS2 HB2 HK2 k3 HXS hb1 hT3;have anI:vd=1\/vd=2\/vd=3\/vd=4\/vd=5:=Y;rcases anI with rfl|rfl|rfl|rfl|rfl
    ·have KB3:=J (HKB.out w3 c2 L 1 _ vn ttl xs S3.out HB3.out HK3.out hw3 (fun h=>absurd h ao9) ajf K K X3.out hvn);exact mO
    ·go_wp2_with(refine rF (.store 4 (.tmp 41) (.const (.bool true))) I (af I g 21 (.bool true) HT3.out.1 eV Gw ?_));intro w4 B4 g4 sw;clear sw;have K4:HK w4 g T3 {c2 with nd:=true}:=HT3.out.put 11 B4 I;have F4:=S3.out.rU.frG g4;have S4:=J (S3.out.put (c':={c2 with nd:=true}) g4 HT3.out K4 ⟨I,I,I,I,I,I,I⟩ ⟨I,I,I⟩ ⟨I,I,I,I,I,I⟩ ⟨S3.out.nm.an,S3.out.nm.bg,S3.out.nm.nx⟩);exact nM
    ·
     go_wp2_with fail;go_meet
     case rel=>exact⟨c2,L,S3,O3,HB3,HK3,hw3,fun h=>absurd h ao9,ajf⟩
    ·go_wp2_with(refine rF (.store 4 (.tmp 36) (.const (.bool true))) I (af I g 20 (.bool true) HT3.out.1 eV Gw ?_));intro w4 B4 g4 sw;clear sw;have K4:HK w4 g T3 {c2 with ag:=true}:=HT3.out.put 10 B4 I;have F4:=S3.out.rU.frG g4;have S4:=J (S3.out.put (c':={c2 with ag:=true}) g4 HT3.out K4 ⟨I,I,I,I,I,I,I⟩ ⟨I,I,I⟩ ⟨I,I,I,I,I,I⟩ ⟨S3.out.nm.an,S3.out.nm.bg,S3.out.nm.nx⟩);exact nM
    ·have KB3:=J (HKB.out w3 c2 L 5 _ vn ttl xs S3.out HB3.out HK3.out hw3 (fun h=>absurd h ao9) ajf K K X3.out hvn);exact mO
  obtain⟨c1,L1,S1,O1,B1,K1,hw1,hc1,ah5⟩:=hcut;obtain⟨B,rfl⟩:∃B,B=wc:=gh;obtain⟨T,hK,hR⟩:=S1.out.rU.k;obtain⟨Ac,cc,hvc⟩:=S1.out.rU.cd.form;have d19:=hK.ci 9 (u:=.int .i64 (c1.next:Int)) I;have d14:=hK.ci 4 (u:=.slice Ac D.cd.length cc) (by rw[<-hvc];rfl);have hnx:=S1.out.nm.nx;have hcl:=HP.out.cl;have HKK:=J hK;have HRR:=J hR;have HVC:=J hvc;clear hK hR hvc HH d23;by_cases hnl:c1.next=D.cd.length
  case pos=>
   have hq:((c1.next:Int)==(D.cd.length:Int))=true:=by rw[hnl];exact beq_self_eq_true _
   have HNL:=J hnl;clear hnl;go_wp2_with fail;go_quiet(fail);clear d19 d14;obtain⟨wz,hwz⟩:∃wz,wz=B.drewN nq:=gh;rw[<-hwz];have hbz:ao B wz:=lV;have Sz:=J (S1.out.yu (p:=fun _=>False) (b':=b) (Fr.G hbz) (Nat.le_refl _) id id id);have NTH:=J (Pe (HKK.out.G hbz));have hb1:b<=B.heap.size:=Nat.le_trans hbw hw1;have hvd:1<=zy c1/\zy c1<=5:=by unfold zy;split<;>(try split)<;>omega
   have Bz:=J (B1.out.trans (hbz.mono hb1));have Kz:Hid (sR w.heap.size w wz):=kV;have anj:w.heap.size<=wz.heap.size:=Nat.le_trans hw1 hbz.size;have Oz:=J (sR.ous (lo':=0) (sR.G hbz) O1.out);have KB3:=J (HKB.out wz c1 L1 (zy c1) (.slice none 0 0) (.slice none 0 0) 0 [] Sz.out Bz.out Kz.out anj (fun h=>⟨by rw[<-hc1 h];exact HNL.out,hc1 h⟩) ah5 hvd.1 hvd.2 ⟨rJ.nil _ _ _ _ _,ar⟩ I);unfold vG at KB3;obtain⟨vd,auy⟩:∃vd,zy c1=vd:=gh;rw[auy]at NTH KB3;clear hwz hbz Sz S1 O1 B1 K1 Bz Kz HKK HRR HVC hvd auy;have RB3:=J (fun V=>CU vd V);have hlz:lo<=wz.heap.size:=Nat.le_trans rH anj;go_wp2_with fail;refine NTH.out.mono ?_;rintro _ _ ⟨rfl,rfl⟩;go_wp2_with(refine rF (.build 50 #[(0,.tmp 55)]) I ?_;go_must(refine sy I 50 _ I #[(0,.int .i64 vd)] cY (RB3.out _) ?_));refine KB3.out.mono ?_;rintro _ w4 ⟨v4,rfl,o4,hO4,hl4,hK4,hw4,hq⟩;have O4:=J (sR.ous (lo':=0) hK4 Oz.out);have HO4:=J hO4;have HQ:=J hq;have aif:lo<=w4.heap.size:=Y;have hoo:o0.length+o4.length<=100000:=Y;obtain⟨A4,c4,rfl,-,-⟩:=hO4.form;clear KB3 hO4 hq Oz;go_wp2_with(at_builtin;go_must(refine uw _ I (.tmp 52) (.tmp 57) I I I O4.out HO4.out aif hoo ?_));intro v' w5 ho5 hf5;have HX:=J (HQ.out v' w5 ho5 (hf5.mono (fun i hi=>(O4.out.Fg (p:=Dy) I i hi))));obtain⟨A5,c5,rfl,-,-⟩:=ho5.form;clear ho5 hf5 HQ O4 HO4;go_wp2_with fail;go_ret;exact⟨_,I,HX.out⟩
  case neg=>
   have hq:((c1.next:Int)==(D.cd.length:Int))=false:=by have:¬(c1.next:Int)=(D.cd.length:Int):=Y;simpa using this
   have aA:c1.next<D.cd.length:=Y;have hCD:=S1.out.rU.cd;rw[HVC.out]at hCD;obtain⟨bcd,rfl,hbl,h3⟩:=hCD.rU (fun cs x h=>h.len) Y;obtain⟨_,afQ,nv,rfl,hnm⟩:=h3 c1.next aA;obtain⟨An,cn,rfl,hNR⟩:=hnm.form;obtain⟨Lc,hLc⟩:=rJ.Oo hCD Y;have hLi:Lc[0+c1.next*1]?=some (.slice An (D.cd[c1.next]).length cn):=(hLc.cell _).symm.trans (by simpa using afQ 0 _ I);have hck:=HP.out.cn _ (List.getElem_mem aA);have hge:D.cd.getD c1.next []=D.cd[c1.next]:=by rw[List.getD_eq_getElem?_getD,List.getElem?_eq_getElem aA];rfl
   have HNR:=J hNR;have HLC:=J hLc;have HLI:=J hLi;have HCK:=J hck;have HGE:=J hge;clear hCD afQ h3 hnm hNR hLc hLi hck hge hnl;obtain⟨nm,hnm⟩:=aq (D.cd[c1.next]);rw[hnm.out]at HNR HLI HCK HGE;clear hnm;go_wp2_with fail;go_quiet(fail);clear d19 d14 hq;obtain⟨wz,hwz⟩:∃wz,wz=B.drewN nq:=gh;rw[<-hwz];have hbz:ao B wz:=lV;have Sz:=J (S1.out.yu (p:=fun _=>False) (b':=b) (Fr.G hbz) (Nat.le_refl _) id id id);have hb1:b<=B.heap.size:=Nat.le_trans hbw hw1;have arK:b<=wz.heap.size:=Nat.le_trans hb1 hbz.size;have Bz:=J (B1.out.trans (hbz.mono hb1));have Kz:Hid (sR w.heap.size w wz):=kV;have anj:w.heap.size<=wz.heap.size:=Nat.le_trans hw1 hbz.size;have Oz:=J (sR.ous (lo':=0) (sR.G hbz) O1.out);have NRz:=J (HNR.out.G hbz);have LCz:N wz bcd 24 Lc:=HLC.out.G hbz HLC.out.lt;have Kz1:HK wz g T c1:=HKK.out.G hbz;have RRz:=J (HRR.out.G hbz);have heq:=S1.out.rU.eq;obtain⟨q1,q2,q3,q4,q5⟩:=heq;clear hwz hbz S1 O1 B1 K1 HKK HRR HNR HLC;have aF6:=Sz.out.nm.b56 HP.out;have PN:=J (fun V (hV:ao wz V) t=>Yj w0 b gl T D.r An cn nm D.fam t L1 (h2+c1.bg) H V ((RRz.out.G hV).XA eW eW eW) (Sz.out.rU.ba.trans (hV.mono Sz.out.rU.ba.size)) (NRz.out.G hV) (Kk HCK.out) (Sz.out.lt.G hV) Sz.out.us Y Sz.out.ds Sz.out.rU.wb (Nat.le_trans arK hV.size) Sz.out.rU.bl);go_wp2_with fail;refine wp_region_held_drew (S:=fun V=>HK V g T c1/\N V bcd 24 Lc) (by kernel_rfl) ⟨⟨Kz1.1.drew,Kz1.2⟩,LCz.drew⟩ (fun hS=>?_);have af0:=Kz1.2;refine rS hS 33 [0,1,2,3,4,5,6,7,8,9,10,11,12,13,14,15,16,17,18,19,20,21,22,23,24,25,26,27,28,29,30,31,32] I (by kernel_rfl) (fun _ _ _ _ _ h=>h) I I ?_
   (refine ak (.pointer (some ⟨g,0,none⟩)) ?_;simp only[X])
   (refine ak (.pointer (some ⟨g,0,none⟩)) ?_;simp only[X])
   (refine ak (.pointer (some ⟨g,0,none⟩)) ?_;simp only[X])
   (refine ak (.pointer (some ⟨g,0,none⟩)) ?_;simp only[X])
   (refine aj _ I I (fun V hV=>(rX 29 (.tmp 63) ⟨g,0,none⟩ I I (hV.1.1.tW 29 0 10 ee _ underlying29 I wE T (by rw[List.drop_zero,List.take_left' af0])))) ?_;simp only[X])
   (refine ak (.pointer (some ⟨g,0,none⟩)) ?_;simp only[X])
   (refine ak (.pointer (some ⟨g,0,none⟩)) ?_;simp only[X])
   (refine ak (.pointer (some ⟨g,14,none⟩)) ?_;simp only[X])
   (refine aj _ I I (fun V hV=>(rX 26 (.tmp 67) ⟨g,14,none⟩ I I (rQ underlying26 I (hV.1.ci 4 (u:=.slice (some ⟨bcd,0,none⟩) D.cd.length cc) (by rw[<-HVC.out];rfl))))) ?_;simp only[X])
   (refine ak (.pointer (some ⟨g,0,none⟩)) ?_;simp only[X])
   (refine ak (.pointer (some ⟨g,0,none⟩)) ?_;simp only[X])
   (refine ak (.pointer (some ⟨g,19,none⟩)) ?_;simp only[X])
   (refine aj _ I I (fun V hV=>(rX 3 (.tmp 71) ⟨g,19,none⟩ I I (rQ underlying3 I (hV.1.ci 9 (u:=.int .i64 (c1.next:Int)) I)))) ?_;simp only[X])
   (refine aj _ I I (fun V hV=>(vi underlying26 wS K (.tmp 68) (.tmp 72) I I I aA V)) ?_;simp only[X])
   (refine aj _ I I (fun V hV=>(rX 24 (.tmp 73) ⟨bcd,0+c1.next*1,none⟩ I I (rQ underlying24 I (hV.2.rD _ HLI.out)))) ?_;simp only[X])
   (refine ak (.pointer (some ⟨g,0,none⟩)) ?_;simp only[X])
   (refine ak (.pointer (some ⟨g,0,none⟩)) ?_;simp only[X])
   (refine ak (.pointer (some ⟨g,15,none⟩)) ?_;simp only[X])
   (refine aj _ I I (fun V hV=>(rX 3 (.tmp 77) ⟨g,15,none⟩ I I (rQ underlying3 I (hV.1.ci 5 (u:=.int .i64 D.fam) (by rw[<-q2];rfl))))) ?_;simp only[X])
   (refine ak (.pointer (some ⟨g,0,none⟩)) ?_;simp only[X])
   (refine ak (.pointer (some ⟨g,0,none⟩)) ?_;simp only[X])
   (refine ak (.pointer (some ⟨g,16,none⟩)) ?_;simp only[X])
   (refine aj _ I I (fun V hV=>(rX 3 (.tmp 81) ⟨g,16,none⟩ I I (rQ underlying3 I (hV.1.ci 6 (u:=.int .i64 D.turn) (by rw[<-q3];rfl))))) ?_;simp only[X])
   (refine ak (.pointer (some ⟨g,0,none⟩)) ?_;simp only[X])
   (refine ak (.pointer (some ⟨g,0,none⟩)) ?_;simp only[X])
   (refine ak (.pointer (some ⟨g,22,none⟩)) ?_;simp only[X])
   (refine aj _ I I (fun V hV=>(rX 3 (.tmp 85) ⟨g,22,none⟩ I I (rQ underlying3 I (hV.1.ci 12 (u:=.int .i64 (c1.bg:Int)) I)))) ?_;simp only[X])
   (refine ak (.int .i64 (IntKind.i64.wrap (2*(c1.bg:Int)))) ?_;simp only[X])
   (refine ak (.int .i64 (IntKind.i64.wrap (D.turn+IntKind.i64.wrap (2*(c1.bg:Int))))) ?_;simp only[X])
   (refine ak (.pointer (some ⟨g,0,none⟩)) ?_;simp only[X])
   (refine ak (.pointer (some ⟨g,0,none⟩)) ?_;simp only[X])
   (refine ak (.pointer (some ⟨g,17,none⟩)) ?_;simp only[X])
   (refine aj _ I I (fun V hV=>(rX 47 (.tmp 91) ⟨g,17,none⟩ I I (rQ underlying47 I (hV.1.ci 7 (u:=.pointer (some ⟨gl,0,none⟩)) (by rw[<-q1];rfl))))) ?_;simp only[X])
   simp only[sS];obtain⟨t,ht⟩:∃t,IntKind.i64.wrap (D.turn+IntKind.i64.wrap (2*(c1.bg:Int)))=t:=gh;rw[ht];refine su 33 (some 93) 76 _ (by kernel_rfl) I I (by kernel_rfl) bc (PN.out _ ((Below.refl _ _).drew) t) ?_;rintro _ w3 ⟨gp,v3,hk,rfl,hO3,hPA,hL3,hF3,hPI,hgo,hgp⟩;have A3:=J ((Sz.out.rU.G ((Below.refl _ _).drew)).yu hF3 (Nat.le_refl b) dR dR);have K3:HK w3 g T c1:=⟨hF3.sD (Kz1.1.drew) (wj.not Kz1.1.drew dR),Kz1.2⟩;have LC3:=hF3.Ht LCz.drew bV;have hRl:(Dz D.r nm (tU D.fam) t L1).2.2.length<=3:=AV 3 (tT (rT D.r) nm (tU D.fam) t) L1 [];have hRd:=(Gu D.r nm D.fam t L1 HCK.out).1;have hRs:=Kj 3 (tT (rT D.r) nm (tU D.fam) t) L1 [];have hKN:=HKN.out;have axc:=J (fun B v1 c1' L1' h=>hKN B v1 c1' L1' c1.next t L1 aA h);rw[HGE.out]at axc;change _=nm/\_=tU D.fam/\_=rT D.r at hRs;change(Dz D.r nm (tU D.fam) t L1).1.nm=_/\(Dz D.r nm (tU D.fam) t L1).1.tys=_/\(Dz D.r nm (tU D.fam) t L1).1.r=_ at hRs;generalize Dz D.r nm (tU D.fam) t L1=R at*;obtain⟨A3',c3,rfl,-,-⟩:=hO3.form;have O3':=J hO3;have O3:=J ((tf.G Oz.out ((Below.refl _ _).drew)).frY hF3 dR);have P3:=J hPA;have HL3:=J hL3;have HPI:=J (And.intro hPI hgo);have B3:=J (hF3.tD (Bz.out.drew) arK (Nat.le_refl b));have KP3:Hid (sR lo w w3):=J ((Kz.out.mono rH).trans ((sR.G ((Below.refl wz.heap.size wz).drew)).mono (Nat.le_trans rH anj)|>.trans (sR.fr hF3 dR)));have hw3:wz.heap.size<=w3.heap.size:=hF3.size;clear hKN HKN hPA hL3 hPI hgo hO3 hF3 PN Oz Bz Kz NRz RRz;refine⟨_,I,⟨K3,LC3⟩,?_⟩;clear hS;have hS:HK w3 g T c1/\N w3 bcd 24 Lc:=⟨K3,LC3⟩;simp only[X];refine rS hS 5 [34,35,36,37,38] I (by kernel_rfl) (fun _ _ _ _ _ h=>h) I I ?_
   (refine ak (.tuple #[.pointer (some ⟨gp,0,none⟩),.slice A3' R.2.2.length c3]) ?_;simp only[X])
   (refine ak (.pointer (some ⟨gp,0,none⟩)) ?_;simp only[X])
   (refine ak (.slice A3' R.2.2.length c3) ?_;simp only[X])
   (refine ak (.pointer (some ⟨gp,0,none⟩)) ?_;simp only[X])
   (refine ak (.slice A3' R.2.2.length c3) ?_;simp only[X])
   simp only[sS];refine wpAnyH_done (by kernel_rfl) ?_ _;have HBG:=J ah5;clear hS LC3 LCz Kz1 q1 q2 q3 q4 q5 af0 ah5;go_wp2_with(refine rF (.store 88 (.tmp 99) (.tmp 97)) I (af I g 23 (.pointer (some ⟨gp,0,none⟩)) K3.1 (by rw[K3.len];decide) So ?_));intro w4 B4 g4 sw;clear sw;have K4:HK w4 g T {c1 with pp:=some gp}:=K3.put 13 B4 I;have d19:=K4.ci 9 (u:=.int .i64 (c1.next:Int)) I;clear B4;go_wp2_with(refine rF (.store 3 (.tmp 106) (.tmp 104)) I ?_;go_must(refine DO I 3 (.tmp 106) (.tmp 104) I g 19 I (.int .i64 ((c1.next+1:Nat):Int)) bc K4.1 eT tG I I ?_));intro w5 B5 g5 sw;clear sw d19;have K5:HK w5 g T {c1 with pp:=some gp,next:=c1.next+1}:=K4.put 9 B5 I;have d22:=K5.ci 12 (u:=.int .i64 (c1.bg:Int)) I;clear B5;go_wp2_with(refine rF (.store 3 (.tmp 113) (.tmp 111)) I ?_;go_must(refine DO I 3 (.tmp 113) (.tmp 111) I g 22 I (.int .i64 ((c1.bg+1:Nat):Int)) bc K5.1 eQ tG I I ?_));intro w6 B6 g6 sw;clear sw d22;have K6:HK w6 g T {c1 with pp:=some gp,next:=c1.next+1,bg:=c1.bg+1}:=K5.put 12 B6 I;clear B6;have auN:=Sz.out.pp;have G6:=rO (rO g4 g5 (.inl I)) g6 (.inl I);have A6:=J (A3.out.put (c':={c1 with pp:=some gp,next:=c1.next+1,bg:=c1.bg+1}) G6 K3 K6 ⟨I,I,I,I,I,I,I⟩ ⟨I,I,I⟩ (fun m hm=>by rw[auN]at hm;simp at hm⊢;omega) A3.out.r1 A3.out.eq.2.2.2.1);have F6:=A3.out.frG G6;have alr:b<=w3.heap.size:=Nat.le_trans arK hw3;have L6:=HL3.out.yu F6 eH;have P6:=P3.out.yu F6 (Nat.le_refl b) alr eH eH eH eH;have O6:=J (O3.out.frY F6 eH);have O6':=J (O3'.out.frY F6 eH);have B6:=F6.tD B3.out alr (Nat.le_refl b);have KP6:sR lo w w6:=KP3.out.trans (sR.fr F6 eH);have hw6:lo<=w6.heap.size:=Nat.le_trans (Nat.le_trans rH anj) (Nat.le_trans hw3 F6.size);have HN:HsN D {c1 with pp:=some gp,next:=c1.next+1,bg:=c1.bg+1} n:=⟨Sz.out.nm.an,by have:=Sz.out.nm.bg;show c1.bg+1<=7*(n-1)+(c1.next+1);omega,aA⟩;have hm2:2*uD D.r*(c1.bg+1)=2*uD D.r*c1.bg+2*uD D.r:=lM;have ht2:2*sm D.r*(c1.bg+1)=2*sm D.r*c1.bg+2*sm D.r:=lM;have W6:KT w0 w6 b g gl D {c1 with pp:=some gp,next:=c1.next+1,bg:=c1.bg+1} n R.2.1 h2 TK H false:=
    ⟨A6.out,L6,HN,HPI.out.1.ds,by have:=Sz.out.sn;show c1.r6+2*uD D.r<=2*uD D.r*(c1.bg+1);omega,Sz.out.dn,gp,hk,R.1,0,h2+c1.bg,I,P6,HPI.out.1,HPI.out.2,hRd,by rw[hRs.1];exact Kk HCK.out,hRs.2.1,hRs.2.2,by have:=Sz.out.tk;show TK+2*sm D.r<=2*sm D.r*(c1.bg+1)+0;omega,Nat.zero_le _,by show h2+c1.bg+1<=h2+(c1.bg+1);omega⟩
   have HW6:=J W6;have HB6:=J B6;have HK6:=J KP6;have hoo:o0.length+R.2.2.length<=100000:=Y;have arL:b<=w6.heap.size:=Nat.le_trans Z hw6;clear G6 A6 F6 L6 P6 B6 KP6 HN W6 A3 K3 K4 K5 g4 g5 g6 auN hm2 ht2 HPI P3 HL3 B3 KP3 O3 O3' hRs hRd Sz;go_wp2_with(at_builtin;go_must(refine uw _ I (.tmp 114) (.tmp 115) I I I O6.out O6'.out hw6 hoo ?_));intro v' w7 ho7 hf7;have F7:Fr (wj w6 Dy lo) w6 w7:=hf7.mono (fun i hi=>(O6.out.Fg (p:=Dy) I i hi));obtain⟨A7,c7,rfl,-,-⟩:=ho7.form;have HO7:=J ho7;have W7:=J (HW6.out.yu F7 Z arL dS dS dS dS dS dS dS);have HB7:=J (F7.tD HB6.out arL Z);have HK7:Hid (sR lo w w7):=J (HK6.out.trans (fun i L hi x=>F7.sD x (fun k=>by have:=k.1;omega)));have avp:b<=w7.heap.size:=Nat.le_trans arL F7.size;have apg:lo<=w7.heap.size:=Nat.le_trans hw6 F7.size;have K7:HK w7 g T _:=⟨F7.sD K6.1 (wj.not K6.1 dS),K6.2⟩;have d23:=K7.ci 13 (u:=.pointer (some ⟨gp,0,none⟩)) I;obtain⟨gp',X',p',tk',k',auO,avG,arX,aBw,hd',-⟩:=W7.out.pr;obtain rfl:gp=gp':=by injection auO
   have DNE:=J (Dn avG (Nat.le_trans arX.bl arX.tl));rw[hd']at DNE;clear ho7 hf7 F7 HW6 HB6 HK6 O6 O6' K6 K7 auO avG arX aBw hd';go_wp2_with fail;rw[rounds_succ];go_wp2_with fail;refine DNE.out.mono ?_;rintro _ wy ⟨rfl,hby⟩;go_wp2_with fail;have W8:=W7.out.yu (p:=fun _=>False) (b':=b) (Fr.G hby) (Nat.le_refl _) avp id id id id id id id;have hQ:=axc.out wy _ _ _ W8 (tf.G HO7.out hby) (HB7.out.trans (hby.mono avp)) (HK7.out.trans ((sR.G hby).mono apg)) (by show c1.bg+1=c.bg+1;rw[HBG.out]);rw[List.length_append]at hQ;go_ret;exact⟨_,I,hQ⟩
end
theorem abH{s n:Nat}{xs:List Value}(h:w.ownsRow Hh e s v n xs)(hg:w.grownBy w' (some k))(hl:v.ownBlock≠some k):w'.ownsRow Hh e s v n xs:=by
 obtain⟨h0,h⟩:=h;refine⟨h0,?_⟩;rcases h with h|⟨g,cap,cur,hv,hB,Z,r⟩
 ·exact .inl h
 ·have hb':N w g e cur.toList:=Z;refine .inr ⟨g,cap,cur,hv,hB,(hg.block g hb'.lt ?_).trans Z,r⟩;intro hc;injection hc with hc;apply hl;rw[hv,hc];rfl
theorem V9{g n:Nat}{xs:List Value}(h:w.ownsRow g 3 1 v n xs):v.ownBlock=none\/∃k L,v.ownBlock=some k/\g<=k/\N w k 3 L:=by
 rcases h.2 with⟨hv,h0⟩|⟨k,cap,cur,hv,hB,Z,r⟩
 ·exact .inl (by rw[hv];rfl)
 ·exact .inr ⟨k,cur.toList,by rw[hv];rfl,hB,Z⟩
theorem sE.num{L:Lt}{xs:List Value}(h:sE w gl L)(hg:w.grownBy w' (some k))(Z:N w k 3 xs)(O:gl<k):sE w' gl L:=by
 obtain⟨v,U,F,h3⟩:=h;refine⟨v,U.grown hg aB,abH F hg (fun hc=>?_),h3⟩;have:=h3 k hc;omega
theorem sG.num{cs xs:List Value}{x:xC}(h:sG w0 w cs x)(hg:w.grownBy w' (some k))(Z:N w k 3 xs):sG w0 w' cs x:=by
 obtain⟨v,h0,U,F⟩:=h;exact⟨v,h0,U,F.sD hg Z K⟩
section
variable {w0 w w' w'':World} {b g gl n:Nat} {D:Cg} {c:Hc} {L:Lt} {h2 TK:Nat}
theorem HK.num{T:List Value}{xs:List Value}{m:Nat}(O:HK w g T c)(ho:w.ownsRow g 3 1 v m xs)(hg:w.grownBy w' v.ownBlock):HK w' g T c:=by
 rcases V9 ho with hn|⟨k,M,hn,hgk,hM⟩
 ·rw[hn]at hg;exact O.G ⟨hg.os,hg.tape,hg.output,hg.size,fun i hi=>hg.block i hi ar⟩
 ·rw[hn]at hg;exact⟨O.1.grown hg fN,O.2⟩
theorem Kh.asked(h:Kh w0 w b g gl D c n L h2 TK)(hg:w.grownBy w' c.av.ownBlock){av:Value}(ho:w'.ownsRow g 3 1 av (n+1) (Bi (Gv (n+1))))(aA:n<D.ss.length)(hbg:c.bg<=7*n){T:List Value}(O:HK w g T c)(F:w'.grownBy w'' (some g))(hk2:HK w'' g T {c with av:=av}):Kh w0 w'' b g gl D {c with av:=av} (n+1) L h2 TK/\Below b w w''/\sR w.heap.size w w'':=by
 obtain⟨T',hk',hr⟩:=h.rU.k;have:=O.same hk';subst this;obtain⟨l,htl,hll⟩:=h.rU.td;obtain⟨xs,hxs⟩:=h.rU.r1;have hgg:=h.rU.lg;have hbl:=h.rU.bl;have hwb:=h.rU.wb;have key:HK w' g T' c/\Jw w0 w' T' D.r/\rJ w' 0 74 19 (sG w0 w') c.vh D.hs/\rJ w' 0 86 5 uK c.vs D.ss/\y7 w' c.nv D.nm/\Ei w' 0 c.cv D.cd/\yG w' g c.tv l/\C9 w' c.r1 xs/\ao w0 w'/\sE w' gl L/\Below b w w'/\sR w.heap.size w w':=by
  rcases V9 h.rU.as_ with hn|⟨k,M,hn,hgk,hM⟩
  ·rw[hn]at hg;have Z:ao w w':=⟨hg.os,hg.tape,hg.output,hg.size,fun i hi=>hg.block i hi ar⟩;refine⟨O.G Z,hr.G Z,rJ.G h.rU.hs Z (fun _ _ x=>x.G Z),rJ.G h.rU.ss Z (fun _ _ x=>x),h.rU.nm.rM (rZ.G Z),h.rU.cd.G Z,yG.G htl Z,hxs.G Z,h.rU.ba.trans (Z.mono h.rU.ba.size),h.lt.G Z,Z.mono eX,sR.G Z⟩
  ·rw[hn]at hg;have hs:rZ w w':=rZ.sD hg hM K;obtain⟨v1,v2,v3,r0,r1,r2,r3⟩:=hr;exact⟨⟨O.1.grown hg fN,O.2⟩,⟨v1,v2,v3,r0,r1.sD hg hM K,r2.sD hg hM K,r3.sD hg hM K⟩,h.rU.hs.rM (fun _ x=>tY x hg hM K) (fun _ _ x=>x.num hg hM),h.rU.ss.sD hg hM K,h.rU.nm.rM hs,h.rU.cd.rM (fun _ x=>tY x hg hM K) (fun _ _ x=>x.rM hs),htl.rM (fun _ x=>tY x hg hM K) (fun _ _ x=>x.Ht hg hM K K K),⟨hxs.1.sD hg hM K,hxs.2⟩,⟨hg.os.trans h.rU.ba.os,hg.tape.trans h.rU.ba.tape,hg.output.trans h.rU.ba.output,Nat.le_trans h.rU.ba.size hg.size,fun i hi=>(hg.block i (Nat.lt_of_lt_of_le hi h.rU.ba.size) aB).trans (h.rU.ba.block i hi)⟩,h.lt.num hg hM Y,⟨hg.os,hg.tape,hg.output,hg.size,fun i hi=>hg.block i eX aB⟩,fun i M' hi hb'=>hb'.grown hg (by simp;intro he;subst he;unfold N at hb' hM;rw[hb']at hM;injection hM with hM;injection hM with _ hM;exact absurd hM K)⟩
 obtain⟨k1,k2,k3,k4,k5,k6,k7,k8,k9,k10,k11,k12⟩:=key;have k:Fr (wj w' UU b) w' w'':=Fr.grown F k1.1 bV ⟨Y,_,_,k1.1,I⟩;have arM:b<=w'.heap.size:=by have:=k1.1.lt;omega
 refine⟨⟨⟨⟨T',hk2,k2.fr k⟩,k3.rM (fun _ x=>k.own x bV) (fun _ _ x=>x.fr k),k4.rM (fun _ x=>k.own x bV) (fun _ _ x=>x),k5.rM k.rM,k6.rM (fun _ x=>k.own x bV) (fun _ _ x=>x.rM k.rM),k.own ho bV,⟨l,k7.rM (fun _ x=>k.OL x eH) (fun _ _ x=>x.fr k),hll⟩,⟨xs,k8.fr k⟩,k.tD k9 k9.size hwb,hwb,hbl,hgg,h.rU.eq⟩,k10.yu k eH,⟨aA,by show c.bg<=7*(n+1-1)+c.next;omega,h.nm.nx⟩,h.us,h.ds,h.tk,h.sn,h.pp,h.dn⟩,k.tD k11 arM (Nat.le_refl b),k12.trans (sR.fr k eH)⟩
end
theorem aei:(prog.info? 3).map (fun i=>(i.zero,i.size,i.bytes))=some (some (.int .i64 0),1,8):=by kernel_rfl
theorem afg:(prog.info? 56).map (·.size)=some 1:=by kernel_rfl
section
variable {w0 w:World} {b g gl n:Nat} {D:Cg} {c:Hc} {L:Lt} {h2 TK:Nat}
theorem It(h:Kh w0 w b g gl D c n L h2 TK)(hp:KS D)(hbw:b<=w.heap.size)(aA:n<D.ss.length)(hbg:c.bg<=7*n)(hb:Value->World->Prop)
  (K1:(yT D.ss n).kd=1->∀B c1 vd A k cc vn xs,Kh w0 B b g gl D c1 (n+1) L h2 TK->Below b w B->sR w.heap.size w B->w.heap.size<=B.heap.size->c1.bg=c.bg->C9 B (.slice A k cc) xs->vn.oneCell'=true->((BP D).1=[]/\vd=3\/(BP D).1≠[]/\vd=1/\xs=(BP D).1.take 64/\tw B vn (BP D).2)->Calls prog 69 #[.pointer (some ⟨g,0,none⟩),.agg [.int .i64 vd,.slice A k cc,vn,.int .i64 0].toArray] B (vG hb))
  (K2:(yT D.ss n).kd=2->∀B c1,Kh w0 B b g gl D c1 (n+1) L h2 TK->Below b w B->sR w.heap.size w B->w.heap.size<=B.heap.size->c1.bg=c.bg->c1.next=0->c1.ag=false->c1.nd=false->Calls prog 43 #[.pointer (some ⟨g,0,none⟩),.slice none 0 0] B (vG hb))
  (K3:(yT D.ss n).kd≠1->(yT D.ss n).kd≠2->∀B c1,Kh w0 B b g gl D c1 (n+1) L h2 TK->Below b w B->sR w.heap.size w B->w.heap.size<=B.heap.size->c1.bg=c.bg->Calls prog 69 #[.pointer (some ⟨g,0,none⟩),.agg [.int .i64 5,rI,rI,.int .i64 0].toArray] B (vG hb)):
  Calls prog 37 #[.pointer (some ⟨g,0,none⟩),.int .i64 n] w (vG hb):=by
 obtain⟨T,hK,hR⟩:=h.rU.k;obtain⟨Aa,ca,hva⟩:=tp h.rU.as_;have hsl:=hp.sl;have d18:=hK.ci 8 (u:=.slice Aa n ca) (by show some c.av=_;rw[hva]);have HKK:=J hK;have HSS:=Lib.hid h;have HVA:=J hva;have HP:=J hp;have HK1:=J K1;have HK2:=J K2;have HK3:=J K3;clear hR hK h hva hp K1 K2 K3;go_enter func37,ntmps37;have NB:=N.new w 3 [.int .i64 (n:Int)];change N (w.alloc (.cells #[Value.int .i64 (n:Int)] 3)) _ _ _ at NB;have hba:Below w.heap.size w (w.alloc (.cells #[Value.int .i64 (n:Int)] 3)):=fZ;have Sa:=J (HSS.out.yu (p:=fun _=>False) (b':=b) (Fr.G hba) (Nat.le_refl _) id id id);have Ka:=HKK.out.G hba;have HBA:=J hba;have ad1:=Sa.out.rU.as_;rw[HVA.out]at ad1;have hgw:=Ka.1.lt;clear hba HSS HKK;go_wp2_with(at_builtin;go_must(refine uR _ I (.tmp 9) (.tmp 11) 56 I 3 _ 1 8 underlying56 aei (by kernel_rfl) K g (.slice Aa n ca) n (Bi (Gv n)) I ad1 (Nat.le_of_lt hgw) (some ⟨w.heap.size,0,none⟩) 1 1 [.int .i64 (n:Int)] I (fun _=>⟨_,_,I,fun j v hv=>by rw[Nat.zero_add];exact NB.rD j hv⟩) I aO aL Y (n+1) I ?_));intro A' c' wb ho hg;have ho':wb.ownsRow g 3 1 (.slice A' (n+1) c') (n+1) (Bi (Gv (n+1))):=by
  have:Bi (Gv (n+1))=Bi (Gv n)++[.int .i64 (n:Int)]:=by rw[Nm];simp[Bi]
  rw[this];exact ho
 have Kb:=Ka.num ad1 hg;have hg':=hg;rw[<-HVA.out]at hg';clear NB d18 ho;go_wp2_with(refine rF (.store 56 (.tmp 14) (.tmp 12)) I (af I g 18 (.slice A' (n+1) c') Kb.1 (by rw[Kb.len];decide) afg ?_));intro B B1 g1 sw;clear sw;have K1:HK B g T {c with av:=.slice A' (n+1) c'}:=Kb.put 8 B1 I;obtain⟨q1,q2,q3⟩:=Sa.out.asked hg' ho' aA hbg Ka g1 K1;have S1:=J q1;have hba:=HBA.out;have B1':=J ((hba.mono hbw).trans q2);have KP1:Hid (sR w.heap.size w B):=J ((sR.G hba).trans (q3.mono hba.size));have hw1:w.heap.size<=B.heap.size:=Nat.le_trans hba.size (Nat.le_trans hg.size g1.size);clear q1 q2 q3 hba HBA Sa Ka Kb ad1 hgw hg hg' ho' B1 g1;obtain⟨As,cs,hvs⟩:=S1.out.rU.ss.form;have hss:=S1.out.rU.ss;rw[hvs]at hss;obtain⟨bs,rfl,hbs,h3⟩:=hss.rU (fun cs x h=>by rw[h];rfl) Y;obtain⟨_,afQ,rfl⟩:=h3 n aA;have d11:=K1.ci 1 (u:=.slice (some ⟨bs,0,none⟩) D.ss.length cs) eK;have dk:B.cell? ⟨bs,n*5,none⟩=some (.int .i64 D.ss[n].kd):=by simpa using afQ 0 _ I
 have hkd:D.ss[n].kd=(yT D.ss n).kd:=by unfold yT;rw[List.getD_eq_getElem?_getD,List.getElem?_eq_getElem aA];rfl
 rw[hkd]at dk;have hK1:=J K1;clear K1 hss h3 afQ hvs hkd;obtain⟨kd,hkd⟩:∃kd,(yT D.ss n).kd=kd:=gh;rw[hkd]at dk HK1 HK2 HK3;clear hkd;have aLm:(n:Int)<D.ss.length:=Y;generalize D.ss.length=nss at*;have aij:=Nat.le_trans hbw hw1;by_cases k1:kd=1
 ·have axe:=J (HK1.out k1);subst k1;clear HK1 HK2 HK3;have FL:=J (UW S1.out.rU HP.out);unfold abG at FL;go_wp2_with fail;refine FL.out.mono ?_;rintro _ w2 ⟨vd,A,k,cc,vn,xs,rfl,hvn,O,hxs,hb2,hF⟩;have S2:=S1.out.yu (p:=fun _=>False) (b':=b) (Fr.G hb2) (Nat.le_refl _) id id id;have Q1:=J (axe.out w2 _ vd A k cc vn xs S2 (B1'.out.trans (hb2.mono aij)) (KP1.out.trans ((sR.G hb2).mono hw1)) (Nat.le_trans hw1 hb2.size) I hxs hvn hF);unfold vG at Q1;clear FL d11 dk hxs hF S2 hb2 axe O;go_wp2_with fail;refine Q1.out.mono ?_;rintro _ w4 ⟨v4,rfl,hq⟩;have HQ:=J hq;clear Q1 hq;exact oo
 by_cases k2:kd=2
 ·have axd:=J (HK2.out k2);subst k2;clear HK1 HK2 HK3;have Z1:=hK1.out;go_wp2_with(refine rF (.store 3 (.tmp 36) (.const (.int .i64 0))) I (af I g 19 (.int .i64 ((0:Nat):Int)) Z1.1 (by rw[Z1.len];decide) tG ?_));intro w2 B2 g2 sw;have Z2:HK w2 g T {c with av:=.slice A' (n+1) c',next:=0}:=Z1.put 9 B2 I;clear sw B2;go_wp2_with(refine rF (.store 4 (.tmp 38) (.const (.bool false))) I (af I g 20 (.bool false) Z2.1 (by rw[Z2.len];decide) Gw ?_));intro w3 B3 g3 sw;have Z3:HK w3 g T {c with av:=.slice A' (n+1) c',next:=0,ag:=false}:=Z2.put 10 B3 I;clear sw B3;go_wp2_with(refine rF (.store 4 (.tmp 40) (.const (.bool false))) I (af I g 21 (.bool false) Z3.1 (by rw[Z3.len];decide) Gw ?_));intro w4 B4 g4 sw;have Z4:HK w4 g T {c with av:=.slice A' (n+1) c',next:=0,ag:=false,nd:=false}:=Z3.put 11 B4 I;clear sw B4;have G4:=rO (rO g2 g3 (.inl I)) g4 (.inl I);have F4:=S1.out.rU.frG G4;have S4:=S1.out.put (c':={c with av:=.slice A' (n+1) c',next:=0,ag:=false,nd:=false}) G4 Z1 Z4 ⟨I,I,I,I,I,I,I⟩ ⟨I,I,I⟩ ⟨I,I,I,I,I,I⟩ ⟨S1.out.nm.an,by show c.bg<=7*(n+1-1)+0;omega,Nat.zero_le _⟩;have Q2:=J (axd.out w4 _ S4 (F4.tD B1'.out aij (Nat.le_refl b)) (KP1.out.trans (sR.fr F4 eH)) (Nat.le_trans hw1 F4.size) I I I I);unfold vG at Q2;clear Z1 Z2 Z3 Z4 g2 g3 g4 G4 F4 S4 d11 dk axd S1;go_wp2_with fail;refine Q2.out.mono ?_;rintro _ w5 ⟨v5,rfl,hq⟩;have HQ:=J hq;clear Q2 hq;exact oo
 ·
  have hk1:(kd==1)=false:=by simpa using k1
  have hk2:(kd==2)=false:=by simpa using k2
  have RB5:=J (fun V=>CU 5 V);have Q3:=J (HK3.out k1 k2 B _ S1.out B1'.out KP1.out hw1 I);unfold vG at Q3;go_wp2_with(refine rF (.build 50 #[(0,.const (.int .i64 5))]) I ?_;go_must(refine sy I 50 _ I #[(0,.int .i64 5)] cY (RB5.out _) ?_));refine Q3.out.mono ?_;rintro _ w4 ⟨v4,rfl,hq⟩;have HQ:=J hq;clear Q3 hq;exact oo
end
def HoQ(w0:World)(b g gl:Nat)(D:Cg)(h2 TK H lo l0 bg0:Nat)(w:World)(v:Value)(w':World):Prop:=∃o c' n' L',1<=n'/\tf lo w' v o/\o.length+3*bg0<=l0+3*c'.bg/\(KT w0 w' b g gl D c' n' L' h2 TK H false\/Sn w0 w' b g gl D c' n')/\Below b w w'/\sR lo w w'
theorem HoQ.up{W:World}{g:Nat}{D:Cg}{h2 TK lo' l0 bg0:Nat}(h:HoQ w0 b g gl D h2 TK H lo' l0 bg0 W v w')(Z:Below b w W)(O:sR lo w W)(E:lo<=lo'):HoQ w0 b g gl D h2 TK H lo l0 bg0 w v w':=by
 obtain⟨o,c',n',L',h0,U,F,h3,h4,h5⟩:=h;exact⟨o,c',n',L',h0,U.mono E,F,h3,Z.trans h4,O.trans (h5.mono E)⟩
section
variable {w0:World} {b g gl:Nat} {D:Cg} {h2 TK H:Nat}
def AH(w0:World)(b g gl:Nat)(D:Cg)(h2 TK H n:Nat):Prop:=∀w c L,Kh w0 w b g gl D c n L h2 TK->b<=w.heap.size->c.bg<=7*n->n<D.ss.length->Calls prog 37 #[.pointer (some ⟨g,0,none⟩),.int .i64 n] w (vG (HoQ w0 b g gl D h2 TK H w.heap.size 0 c.bg w))
def BH(w0:World)(b g gl:Nat)(D:Cg)(h2 TK H n:Nat):Prop:=∀w c L vd r1 r2 r3 (xs:List sg),Kh w0 w b g gl D c (n+1) L h2 TK->b<=w.heap.size->1<=vd->vd<=5->C9 w r1 xs->r2.oneCell'=true->Calls prog 69 #[.pointer (some ⟨g,0,none⟩),.agg [.int .i64 vd,r1,r2,.int .i64 r3].toArray] w (vG (HoQ w0 b g gl D h2 TK H w.heap.size 0 c.bg w))
theorem vG.AY{hb Q':Value->World->Prop}(h:∀v w,hb v w->Q' v w):∀e w,vG hb e w->vG Q' e w:=fun e w ⟨v,U,F⟩=>⟨v,U,h v w F⟩
theorem abI(hp:KS D)(n:Nat)(IH:AH w0 b g gl D h2 TK H (n+1)):BH w0 b g gl D h2 TK H n:=by
 intro w c L vd r1 r2 r3 xs h hbw U h5 hr1 hr2;have hnl:n<D.ss.length:=h.nm.an;cases hs:Hs D.ss n vd with
 |true=>refine(Fo h.rU hp vd r1 r2 r3 ⟨xs,hr1⟩ hr2 hnl hs).mono (vG.AY ?_);rintro v w' ⟨rfl,hA,hF⟩;exact⟨[],_,n+1,L,Nat.succ_le_succ (Nat.zero_le n),tf.nil _ _,by show 0+3*c.bg<=0+3*c.bg;omega,.inr ⟨hA,⟨h.nm.an,h.nm.bg,h.nm.nx⟩,h.sn,I,h.pp,U,h5⟩,hF.tD (Below.refl _ _) hbw (Nat.le_refl _),sR.fr hF eH⟩
 |false=>
  refine Fp h.rU hp vd r1 r2 r3 ⟨xs,hr1⟩ hnl hs _ (fun W hW=>?_);have aA:n+1<D.ss.length:=by unfold Hs at hs;rw[Bool.or_eq_false_iff]at hs;simpa using hs.1
  have hbg:=h.nm.bg;have hnx:=h.nm.nx;have hcl:=hp.cl;have:=IH W c L (h.yu (p:=fun _=>False) (b':=b) (Fr.G hW) (Nat.le_refl _) id id id) (Nat.le_trans hbw hW.size) Y aA;refine(show Calls prog 37 #[.pointer (some ⟨g,0,none⟩),.int .i64 ((n:Int)+1)] W _ from this).mono (vG.AY ?_);intro v w' hq;exact hq.up (hW.mono hbw) (sR.G hW) hW.size
theorem Wa(hp:KS D)(n:Nat)(hE:h2<=80000000)(IH:BH w0 b g gl D h2 TK H n){c:Hc}{L:Lt}(h:Kh w0 w b g gl D c (n+1) L h2 TK\/KT w0 w b g gl D c (n+1) L h2 TK H true)(hbw:b<=w.heap.size)(v0:Value)(o0:List Ou)(hO:tf lo w v0 o0)(Z:b<=lo)(rH:lo<=w.heap.size)(hol:o0.length<=40000):
  Calls prog 43 #[.pointer (some ⟨g,0,none⟩),v0] w (vG (HoQ w0 b g gl D h2 TK H lo o0.length c.bg w)):=by
 refine V8 h hp hbw hE v0 o0 hO Z rH Y _ (fun B c1 L1 vd r1 r2 r3 xs U hB hK hw hc hbg hv1 hv5 hxs hr2=>?_) (fun B v1 c1 L1 i t LL hi U hO1 hB hK hbg=>?_)
 ·
  have aij:b<=B.heap.size:=Nat.le_trans hbw hw;refine(IH B c1 L1 vd r1 r2 r3 xs U aij hv1 hv5 hxs hr2).mono (vG.AY ?_);rintro v2 w2 ⟨o,c',n',L',h0,h4,h5,h6,h7,h8⟩;have aBQ:c'.bg<=63:=by
   rcases h6 with h6|h6
   ·exact h6.nm.b56 hp
   ·exact h6.nm.b56 hp
  have hw2:=h7.size;refine⟨o,h4,Y,h8,hw2,fun v3 w3 h9 h10=>⟨o0++o,c',n',L',h0,h9,by rw[List.length_append];omega,?_,h10.tD (hB.trans h7) (Nat.le_trans aij hw2) Z,(hK.mono rH).trans ((h8.mono (Nat.le_trans rH hw)).trans (fun i M hi x=>h10.sD x (fun k=>by have:=k.1;omega)))⟩⟩;rcases h6 with h6|h6
  ·exact .inl (h6.yu h10 Z (Nat.le_trans aij hw2) dS dS dS dS dS dS dS)
  ·exact .inr (h6.yu h10 Z dS dS)
 ·have:=AV 3 (tT (rT D.r) (D.cd.getD i []) (tU D.fam) t) LL [];exact⟨_,c1,n+1,L1,Nat.succ_le_succ (Nat.zero_le n),hO1,by rw[List.length_append];change(Dz D.r (D.cd.getD i []) (tU D.fam) t LL).2.2.length<=0+3 at this;omega,.inl U,hB,hK⟩
theorem Pf(hp:KS D)(hE:h2<=80000000):∀m n,D.ss.length<=n+m->AH w0 b g gl D h2 TK H n
 |0,n,hm=>fun w c L h hbw hbg aA=>by omega
 |m+1,n,hm=>by
  have BHn:=abI hp n (Pf hp hE m (n+1) Y);intro w c L h hbw hbg aA;refine It h hp hbw aA hbg _ (fun _ B c1 vd A k cc vn xs U hB hK hw ah5 hxs hvn hF=>?_) (fun _ B c1 U hB hK hw ah5 _ _ _=>?_) (fun _ _ B c1 U hB hK hw ah5=>?_)
  ·
   refine(BHn B c1 L vd _ _ 0 xs U (Nat.le_trans hbw hw) ?_ ?_ hxs hvn).mono (vG.AY (fun v w' hq=>?_))
   ·rcases hF with hF|hF<;>omega
   ·rcases hF with hF|hF<;>omega
   ·rw[ah5]at hq;exact hq.up hB hK hw
  ·refine(Wa hp n hE BHn (.inl U) (Nat.le_trans hbw hw) (lo:=B.heap.size) _ [] (tf.nil _ _) (Nat.le_trans hbw hw) (Nat.le_refl _) (Nat.zero_le _)).mono (vG.AY (fun v w' hq=>?_));rw[ah5]at hq;exact hq.up hB hK hw
  ·refine(BHn B c1 L 5 _ _ 0 [] U (Nat.le_trans hbw hw) K K ⟨rJ.nil _ _ _ _ _,ar⟩ I).mono (vG.AY (fun v w' hq=>?_));rw[ah5]at hq;exact hq.up hB hK hw
theorem abJ(hp:KS D)(hE:h2<=80000000){c:Hc}{n:Nat}{L:Lt}(hn:1<=n)(h:Kh w0 w b g gl D c n L h2 TK\/KT w0 w b g gl D c n L h2 TK H true)(hbw:b<=w.heap.size)(v0:Value)(o0:List Ou)(hO:tf lo w v0 o0)(Z:b<=lo)(rH:lo<=w.heap.size)(hol:o0.length<=40000):
  Calls prog 43 #[.pointer (some ⟨g,0,none⟩),v0] w (vG (HoQ w0 b g gl D h2 TK H lo o0.length c.bg w)):=by
 obtain⟨n,rfl⟩:∃m,n=m+1:=⟨n-1,Y⟩;exact Wa hp n hE (abI hp n (Pf hp hE (D.ss.length) (n+1) Y)) h hbw v0 o0 hO Z rH hol
end
theorem El(r:Rs):sm (rT r)=sm r:=by unfold sm;rw[GB,Hm]
theorem Kl{p:Pr}(h:p.bg.length<=2)(L:Lt)(e:Ev):(yg p L e).2.2.length<=7:=by
 have U:=UE p.bg L e;have F:=AV 3 (vW p L e) (sH p.bg L e).2.1 [];unfold yg sH at*;simp only[List.length_append,List.length_nil]at*;omega
theorem abK(p:Pr)(L:Lt)(e:Ev):(yg p L e).1.nm=p.nm/\(yg p L e).1.tys=p.tys/\(yg p L e).1.r=p.r:=by
 obtain⟨U,F,h3⟩:=Kj 3 (vW p L e) (sH p.bg L e).2.1 [];exact⟨U,F,h3⟩
theorem PI.Sp{p:Pr}{L:Lt}(h:PI p L tk k H)(ok:∀x∈p.bg,x.ok)(hw:goP p)(hd:yh p=false):tk<2*sm p.r:=by
 have U:¬sm p.r*p.tys.length<=tk:=fun c=>by rw[h.end_ ok hw c]at hd;cases hd
 have F:sm p.r*p.tys.length<=sm p.r*2:=Nat.mul_le_mul_left _ h.tl;omega
section
variable {w0 w:World} {b g gl n:Nat} {D:Cg} {c:Hc} {L:Lt} {h2 TK H:Nat}
theorem KT.Sp(h:KT w0 w b g gl D c n L h2 TK H false):TK<2*sm D.r*c.bg:=by
 obtain⟨gp,hk,p,tk,k,hpp,hPA,hPI,hgo,hd,hnm,hty,hr,htk,ale,O⟩:=h.pr;have:=hPI.Sp hPA.xs.ok hgo hd;rw[hr,El]at this;omega
end
def HhQ(w0:World)(b g gl:Nat)(D:Cg)(h2 TK H:Nat)(w:World)(v:Value)(w':World):Prop:=∃o c' n' L',1<=n'/\tf w.heap.size w' v o/\o.length<=1000/\(KT w0 w' b g gl D c' n' L' h2 TK H false\/Sn w0 w' b g gl D c' n')/\Below b w w'
section
variable {w0 w:World} {b g gl n:Nat} {D:Cg} {c:Hc} {L:Lt} {h2 TK H:Nat}
theorem afi(hp:KS D)(hE:h2+1<=80000000)(hn:1<=n)(h:KT w0 w b g gl D c n L h2 TK H false)(hbw:b<=w.heap.size)(e:Ev){gp:Nat}{p:Pr}(hpp:c.pp=some gp)(hnm:p.nm.length<=100000)(hty:p.tys=tU D.fam)(hr:p.r=rT D.r)(htk:TK+2*sm D.r<=2*sm D.r*c.bg+tk)(aA:tk<2*sm p.r)(O:k+1<=h2+c.bg)(hbl:p.bg.length<=2)
  {B:World} (hb1:ao w B) (w2:World) (X2:List (Nat×Option Nat)) (hP2:yF w0 w2 b gp gl X2 (yg p L e).1) (hL2:sE w2 gl (yg p L e).2.1) (hF2:Fr (wj B Eg b) B w2) (hI2:PI (yg p L e).1 (yg p L e).2.1 (tk+if e.kind=1 then 1 else 0) (k+1) (H+e.data.length)) (aln:goP (yg p L e).1) (w3:World) (v3:Value) (b3:ao w2 w3) (hO3:tf w2.heap.size w3 v3 (yg p L e).2.2):
  Calls prog 43 #[.pointer (some ⟨g,0,none⟩),v3] w3 (vG (HhQ w0 b g gl D (h2+1) (TK+if e.kind=1 then 1 else 0) (H+e.data.length) w)):=by
 have hw1:=hb1.size;have hw2:=hF2.size;have hw3:=b3.size;have ho7:=Kl hbl L e;obtain⟨s1,s2,s3⟩:=abK p L e;have h63:=h.nm.b56 hp;have A3:yq w0 w3 b g gl D c n:=((h.rU.G hb1).yu hF2 (Nat.le_refl b) dR dR).G b3;have W3:KT w0 w3 b g gl D c n (yg p L e).2.1 (h2+1) (TK+if e.kind=1 then 1 else 0) (H+e.data.length) (yh (yg p L e).1):=
  ⟨A3,hL2.G b3,h.nm,hI2.ds,h.sn,h.dn,gp,X2,(yg p L e).1,_,_,hpp,hP2.G Y b3,hI2,aln,I,by rw[s1];exact hnm,s2.trans hty,s3.trans hr,by split<;>omega,by rw[hr,El]at aA;split<;>omega,Y⟩
 have B3:Below b w w3:=(hF2.tD (hb1.mono hbw) Y (Nat.le_refl b)).trans (b3.mono Y);obtain⟨A,cc,rfl,-,-⟩:=hO3.form;cases hd:yh (yg p L e).1 with
 |false=>rw[hd]at W3;refine(UZ W3 A _ cc).mono (vG.AY ?_);rintro v w' ⟨rfl,Z⟩;exact⟨_,c,n,_,hn,(tf.G hO3 Z).mono Y,Y,.inl (W3.yu (p:=fun _=>False) (b':=b) (Fr.G Z) (Nat.le_refl _) Y id id id id id id id),B3.trans (Z.mono Y)⟩
 |true=>
  rw[hd]at W3;refine(abJ hp hE hn (.inr W3) Y (lo:=w.heap.size) _ _ (hO3.mono Y) hbw Y Y).mono (vG.AY ?_);rintro v w' ⟨o,c',n',L',q0,q1,q2,q3,q4,q5⟩;have aBQ:c'.bg<=63:=by
   rcases q3 with h6|h6
   ·exact h6.nm.b56 hp
   ·exact h6.nm.b56 hp
  exact⟨o,c',n',L',q0,q1,Y,q3,B3.trans q4⟩
theorem adU(hn:1<=n)(h:Sn w0 w b g gl D c n)(hbw:b<=w.heap.size)(e:Ev)(rB:e.fr.ip.length=16)(E' TK' H':Nat):Calls prog 22 #[.pointer (some ⟨g,0,none⟩),.agg (vA e).toArray] w (vG (HhQ w0 b g gl D E' TK' H' w)):=by
 have hel:=yX rB;have HX:Below w.heap.size w (w.alloc (.cells (vA e).toArray 69)):=fZ;obtain⟨T,hK,_⟩:=h.rU.k;have d26:=(HX.cell (p:=⟨g,26,none⟩) hK.1.lt).trans (hK.ci 16 (u:=.bool true) eY);have HQ:Hid (HhQ w0 b g gl D E' TK' H' w (.slice none 0 0) (w.alloc (.cells (vA e).toArray 69))):=J ⟨[],c,n,⟨[],0⟩,hn,tf.nil _ _,ar,.inr (h.yu (p:=fun _=>False) (b':=b) (Fr.G HX) (Nat.le_refl _) id id),HX.mono hbw⟩;clear h hK HX;generalize vA e=es at*;go_enter func22,ntmps22;exact oo
theorem adV(hp:KS D)(hE:h2+1<=80000000)(hn:1<=n)(h:KT w0 w b g gl D c n L h2 TK H false)(hbw:b<=w.heap.size)(e:Ev)(rB:e.fr.ip.length=16)(hH:H+e.data.length<=8796093022208):Calls prog 22 #[.pointer (some ⟨g,0,none⟩),.agg (vA e).toArray] w (vG (HhQ w0 b g gl D (h2+1) (TK+if e.kind=1 then 1 else 0) (H+e.data.length) w)):=by
 have hel:=yX rB;have HX:Below w.heap.size w (w.alloc (.cells (vA e).toArray 69)):=fZ;have Ev0:=N.new w 69 (vA e);obtain⟨gp,hk,p,tk,k,hpp,hPA,hPI,hgo,hd,hnm,hty,hr,htk,ale,O⟩:=h.pr;obtain⟨T,hK,_⟩:=h.rU.k;have d26:=(HX.cell (p:=⟨g,26,none⟩) hK.1.lt).trans (hK.ci 16 (u:=.bool false) eY);have e23:=hK.ci 13 (u:=.pointer (some ⟨gp,0,none⟩)) eO;have d23:=(HX.cell (p:=⟨g,23,none⟩) hK.1.lt).trans e23;have HXd:Below w.heap.size w (w.alloc (.cells (vA e).toArray 69)).drew:=HX.drew;have L23:Hid ((Instr.loadAt 88 (.pointer (some ⟨g,23,none⟩))).run prog (w.alloc (.cells (vA e).toArray 69)).drew= .ok (.pointer (some ⟨gp,0,none⟩)) (w.alloc (.cells (vA e).toArray 69)).drew):=J (rQ underlying88 I ((HXd.cell (p:=⟨g,23,none⟩) hK.1.lt).trans e23));have LE:Hid ((Instr.loadAt 69 (.pointer (some ⟨w.heap.size,0,none⟩))).run prog (w.alloc (.cells (vA e).toArray 69)).drew= .ok (.agg (vA e).toArray) (w.alloc (.cells (vA e).toArray 69)).drew):=J (Ev0.drew.tW 69 0 22 Y _ underlying69 I MJ _ (uH Y));have h63:=h.nm.b56 hp;have hbl:p.bg.length<=2:=Nat.le_trans hPI.bl hPI.tl;have HL7:=J (Kl hbl L e);have PH1:=J (Yi w0 b gp gl hk p L e tk k H _ (hPA.G hbw HXd) (h.lt.G HXd) hPI hgo rB hH Y (Nat.le_trans hbw HXd.size) hnm);unfold JZ VU at PH1;have DN:=J (afi hp hE hn h hbw e hpp hnm hty hr htk (hPI.Sp hPA.xs.ok hgo hd) O hbl HXd);have EN:=ae8 (some ⟨gp,0,none⟩);generalize(TK+if e.kind=1 then 1 else 0)=tk2 at*;generalize yg p L e=R at*;clear hp h hPA hPI hgo hd hnm hty hr htk ale O hK hpp hbl h63 e23 HXd Ev0 HX;obtain⟨w1d,auw⟩:=aq ((w.alloc (.cells (vA e).toArray 69)).drew);rw[auw.out]at L23 LE PH1 DN;generalize vA e=es at*;go_enter func22,ntmps22;go_wp2_with fail;have hS:=trivial;refine wp_region_held_drew (S:=fun _=>True) (by kernel_rfl) trivial (fun hS=>?_);rw[auw.out];refine rS hS 4 [0,1,2,3] I (by kernel_rfl) (fun _ _ _ _ _ h=>h) I I ?_
 (refine ak (.pointer (some ⟨g,0,none⟩)) ?_;simp only[X])
 (refine ak (.pointer (some ⟨g,0,none⟩)) ?_;simp only[X])
 (refine ak (.pointer (some ⟨g,0,none⟩)) ?_;simp only[X])
 (refine ak (.pointer (some ⟨g,23,none⟩)) ?_;simp only[X])
 simp only[sS];refine uZ 4 5 (by kernel_rfl) ?_ ?_
 ·
  refine uj 4 (some 24) 88 (.tmp 23) ⟨g,23,none⟩ I I I I (by kernel_rfl) L23.out ?_;refine⟨trivial,?_⟩;simp only[X];refine rV 5 (by kernel_rfl) ?_;refine uj 5 (some 25) 69 (.tmp 3) ⟨w.heap.size,0,none⟩ I I I I (by kernel_rfl) LE.out ?_;refine⟨trivial,?_⟩;simp only[X];refine rV 6 (by kernel_rfl) ?_;refine sZ 6 (some 26) 45 #[.pointer (some ⟨gp,0,none⟩),.agg es.toArray] I I (by kernel_rfl) bc PH1.out ?_;rintro _ w2 ⟨⟨v2,X2,rfl,hO2,hP2,hL2,hF2⟩,hI2,aln⟩;refine⟨_,I,trivial,?_⟩;simp only[X];have hl7:=HL7.out;refine rV 7 (by kernel_rfl) ?_;refine sZ 7 (some 27) 44 #[v2] I I (by kernel_rfl) bc (Hk w2 hO2 Y) ?_;rintro _ w3 ⟨v3,rfl,hO3,b3⟩;refine⟨_,I,trivial,?_⟩;simp only[X];have G3:=DN.out w2 X2 hP2 hL2 hF2 hI2 aln w3 v3 b3 hO3;unfold vG at G3;refine rV 8 (by kernel_rfl) ?_;refine sZ 8 (some 28) 43 #[.pointer (some ⟨g,0,none⟩),v3] I I (by kernel_rfl) bc G3 ?_;rintro _ w4 ⟨v4,rfl,hq⟩;refine⟨_,I,trivial,?_⟩;have HQ:=J hq;clear hO2 hP2 hL2 hF2 hI2 aln hO3 b3 G3 hq;simp only[X];refine rS hS 1 [9] I (by kernel_rfl) (fun _ _ _ _ _ h=>h) I I ?_
  (refine ak v4 ?_;simp only[X])
  simp only[sS];refine wpAnyH_done (by kernel_rfl) ?_ _;exact oo
 ·
  refine uj 5 (some 25) 69 (.tmp 3) ⟨w.heap.size,0,none⟩ I I I I (by kernel_rfl) LE.out ?_;refine⟨trivial,?_⟩;simp only[X];refine rV 4 (by kernel_rfl) ?_;refine uj 4 (some 24) 88 (.tmp 23) ⟨g,23,none⟩ I I I I (by kernel_rfl) L23.out ?_;refine⟨trivial,?_⟩;simp only[X];refine rV 6 (by kernel_rfl) ?_;refine sZ 6 (some 26) 45 #[.pointer (some ⟨gp,0,none⟩),.agg es.toArray] I I (by kernel_rfl) bc PH1.out ?_;rintro _ w2 ⟨⟨v2,X2,rfl,hO2,hP2,hL2,hF2⟩,hI2,aln⟩;refine⟨_,I,trivial,?_⟩;simp only[X];have hl7:=HL7.out;refine rV 7 (by kernel_rfl) ?_;refine sZ 7 (some 27) 44 #[v2] I I (by kernel_rfl) bc (Hk w2 hO2 Y) ?_;rintro _ w3 ⟨v3,rfl,hO3,b3⟩;refine⟨_,I,trivial,?_⟩;simp only[X];have G3:=DN.out w2 X2 hP2 hL2 hF2 hI2 aln w3 v3 b3 hO3;unfold vG at G3;refine rV 8 (by kernel_rfl) ?_;refine sZ 8 (some 28) 43 #[.pointer (some ⟨g,0,none⟩),v3] I I (by kernel_rfl) bc G3 ?_;rintro _ w4 ⟨v4,rfl,hq⟩;refine⟨_,I,trivial,?_⟩;have HQ:=J hq;clear hO2 hP2 hL2 hF2 hI2 aln hO3 b3 G3 hq;simp only[X];refine rS hS 1 [9] I (by kernel_rfl) (fun _ _ _ _ _ h=>h) I I ?_
  (refine ak v4 ?_;simp only[X])
  simp only[sS];refine wpAnyH_done (by kernel_rfl) ?_ _;exact oo
end
theorem aej:(prog.info? 33).map (·.size)=some 13:=by kernel_rfl
def Fs(vh vs vv:Value)(fam turn:Int)(gl:Nat):Hc:=⟨vh,vs,vv,rI,rI,fam,turn,gl,rI,0,false,false,0,none,rI,0,false,0,rI,rI,0⟩
theorem adW(a b c d e f g h i j vh vs vv:Value)(fam turn:Int)(gl:Nat)(W:World):(Instr.build 91 #[(0,.agg [a,b,c,d,e,f,g,h,i,j,vh,vs,vv].toArray),(3,.int .i64 fam),(4,.int .i64 turn),(5,.pointer (some ⟨gl,0,none⟩))]).run prog W= .ok (.agg ([a,b,c,d,e,f,g,h,i,j]++Ek (Fs vh vs vv fam turn gl)).toArray) W:=by kernel_rfl
theorem abL(T:List Value)(hT:T.length=10)(vh vs vv:Value)(fam turn:Int)(gl:Nat)(W:World):(Instr.build 91 #[(0,.agg (T++[vh,vs,vv]).toArray),(3,.int .i64 fam),(4,.int .i64 turn),(5,.pointer (some ⟨gl,0,none⟩))]).run prog W= .ok (.agg (T++Ek (Fs vh vs vv fam turn gl)).toArray) W:=by
 match T,hT with
 |[a,b,c,d,e,f,g,h,i,j],_=>exact adW ..
theorem Wb{hs:List xC}(hn:∀h∈hs,h.ns.length<=100)(rB:∀h∈tI hs,h.ad.ip.length=16):∀h∈tI hs,Pd h:=by
 intro h hm;have h16:=rB h hm;unfold tI sL at hm;have hm:=List.mem_of_mem_take hm;rw[List.mem_filter]at hm;obtain⟨hm,hok⟩:=hm;obtain⟨h',hm',rfl⟩:=List.mem_map.1 hm;refine adP hok h16 ?_ ?_
 ·have:=hn h' hm';unfold wh sL;simp only[List.length_take];omega
 ·intro n hnn;unfold wh sL at hnn;have:=List.mem_of_mem_take hnn;rw[List.mem_filter]at this;exact this.2
theorem GD(hs:List xC):(tI hs).length<=hs.length:=by
 unfold tI sL;rw[List.length_take,List.length_map];omega
theorem Ds(ss:List Src):1<=(sP ss).length/\(sP ss).length<=8:=by
 unfold sP;split
 ·exact⟨K,K⟩
 ·
  rename_i h;refine⟨?_,?_⟩
  ·
   cases E:sL vH ss 8 with
   |nil=>exact absurd E h
   |cons a l=>simp
  ·unfold sL;rw[List.length_take];omega
theorem Sq{α:Type}{R:List Value->α->Prop}{P:α->Prop}(O:∀cs x,R cs x->P x):∀{css:List (List Value)} {l:List α},wO R css l->∀x∈l,P x
 |[],[],_=>by simp
 |cs::css,x::l,h=>fun u hu=>by
  rcases List.mem_cons.1 hu with rfl|hu
  ·exact O _ _ h.1
  ·exact Sq O h.2 u hu
theorem rJ.all{α:Type}{R:List Value->α->Prop}{P:α->Prop}{l:List α}(h:rJ w Hh e k R v l)(O:∀cs x,R cs x->P x):∀x∈l,P x:=by
 obtain⟨css,_,hE⟩:=h;exact Sq O hE
def Ft(hb:Nat->Value->World->Prop)(e:Ending)(w':World):Prop:=∃g v,e= .returned (.tuple #[.pointer (some ⟨g,0,none⟩),v])/\hb g v w'
section
variable {w0 w:World} {b gl:Nat} {cs:List Value} {r:Rs} {Ah As Asv:Option Addr} {ch cS csv:Nat} {hs:List xC} {ss:List Src} {vs:List He} {s:List UInt8} {fam turn:Int} {L:Lt}
theorem Km(h:Bk w0 w cs r)(hw:ao w0 w)(hH:wH w0 19 (yY w0) Ah hs)(hhl:hs.length<=100)(hhn:∀h∈hs,h.ns.length<=100)(hSr:wH w0 5 uK As ss)(hsl:ss.length<=17592186044416)(hSv:wH w0 3 wG Asv vs)(hvl:vs.length<=1000)(hs1:s.length<=1000000)(E:sE w gl L)(hus:L.us=0)(hds:L.ds.length<=17592186044416)(hb0:w0.heap.size<=b)(hbw:b<=w.heap.size)(hbg:b<=gl){n:List (List UInt8)}{dt:Bool}(hp:parse s= .ok (n,dt))(hl:n≠[])(hb:Nat->Value->World->Prop)
  (al:∀B g c1 cd,Kh w0 B b g gl ⟨rT r,tI hs,sP ss,n,cd,fam,turn⟩ c1 0 L 0 0->KS ⟨rT r,tI hs,sP ss,n,cd,fam,turn⟩->cd≠[]->c1.bg=0->ao w B->w.heap.size<=g->Calls prog 37 #[.pointer (some ⟨g,0,none⟩),.int .i64 0] B (vG (hb g))):
  Calls prog 11 #[.agg (cs++[Value.slice Ah hs.length ch,Value.slice As ss.length cS,Value.slice Asv vs.length csv]).toArray,.string (bs s),.int .i64 fam,.int .i64 turn,.pointer (some ⟨gl,0,none⟩)] w (Ft hb):=by
 have hcl:=h.len;have HB:Below w.heap.size w (w.alloc (.cells (cs++[Value.slice Ah hs.length ch,Value.slice As ss.length cS,Value.slice Asv vs.length csv]).toArray 33)):=fZ;have B0:=N.new w 33 (cs++[Value.slice Ah hs.length ch,Value.slice As ss.length cS,Value.slice Asv vs.length csv]);have HD:=J (Gk w0 cs r Ah As Asv ch cS csv hs ss vs _ (h.G HB) (rC hw hw.size HB) hH hhl hhn hSr hsl hSv hvl);have HLT:=J E;have HW0:=J hw;unfold JA at HD;have aiE:(cs++[Value.slice Ah hs.length ch,Value.slice As ss.length cS,Value.slice Asv vs.length csv]).length=13:=ko;generalize(cs++[Value.slice Ah hs.length ch,Value.slice As ss.length cS,Value.slice Asv vs.length csv])=CS at*;have HHN:=J hhn;clear h hw hH hSr hsl hSv hvl hcl E hhn;go_enter func11,ntmps11;go_wp2_with(refine rF (.load 33 (.tmp 5)) I ?_;go_must(refine rG I _ _ I w.heap.size 0 I B0 13 Y _ underlying33 I aej CS (uH Y) ?_));refine HD.out.mono ?_;rintro _ B ⟨T,vh,v2,vv,rfl,RO,OH,OS,hvv,b1⟩;have af0:=RO.len;obtain⟨As2,cS2,rfl⟩:=OS.form;have H1:=rC HB HB.size b1;have RBS:=J (fun V=>abL T af0 vh (.slice As2 (sP ss).length cS2) vv fam turn gl V);have HRO:=J RO;have HOH:=J OH;have HOS:=J OS;have HVV:=J hvv;clear HB B0 HD RO OH OS b1 aiE hvv;have B2:=N.new B 91 (T++Ek (Fs vh (.slice As2 (sP ss).length cS2) vv fam turn gl));have H2:Below B.heap.size B (B.alloc (.cells (T++Ek (Fs vh (.slice As2 (sP ss).length cS2) vv fam turn gl)).toArray 91)):=fZ;have K2:=J (show HK (B.alloc (.cells (T++Ek (Fs vh (.slice As2 (sP ss).length cS2) vv fam turn gl)).toArray 91)) B.heap.size T (Fs vh (.slice As2 (sP ss).length cS2) vv fam turn gl)from⟨B2,af0⟩);have hgw:w.heap.size<=B.heap.size:=H1.size;have CA:=J (MZ w0 T (rT r) s _ ((HRO.out.G H2).XA eZ eZ eZ) (rC (rC HW0.out HW0.out.size H1) (Nat.le_trans HW0.out.size hgw) H2) hs1);have HH1:=J H1;have HH2:=J H2;unfold aby at CA;have hTl:(T++Ek (Fs vh (.slice As2 (sP ss).length cS2) vv fam turn gl)).length=31:=K2.out.len;have hTt:(T++Ek (Fs vh (.slice As2 (sP ss).length cS2) vv fam turn gl)).take 10=T:=List.take_left' af0;obtain⟨L0,hL0⟩:=aq (T++Ek (Fs vh (.slice As2 (sP ss).length cS2) vv fam turn gl));rw[hL0.out]at RBS hTl hTt B2 K2 CA HH2;clear H1 H2;go_wp2_with(first
  |(refine rF (.build 91 #[(0,.tmp 19),(3,.tmp 20),(4,.tmp 21),(5,.tmp 22)]) rfl ?_;go_must(refine sy rfl 91 _ rfl #[(0,.agg (T++[vh,.slice As2 (sP ss).length cS2,vv]).toArray),(3,.int .i64 fam),(4,.int .i64 turn),(5,.pointer (some ⟨gl,0,none⟩))] cY (RBS.out _) ?_))
  |(refine rF (.load 29 (.tmp 29)) rfl ?_;go_must(refine rG rfl _ _ rfl B.heap.size 0 rfl B2 10 Y _ underlying29 rfl wE T ff ?_)))
 refine CA.out.mono ?_;rintro _ w3 ⟨b3,hcd⟩;rcases hcd with⟨rfl,ajg⟩|⟨n',d',A3,c3,cds,hpe,hn',rfl,hCO,art,hl7⟩
 ·exact absurd (ajg n dt hp) hl
 have PA:=J (Gt s hs1);rw[hp]at PA;unfold CY at PA;have hck:=(Sc hp).1;have b13:=J (rC HH2.out HH2.out.size b3);have K3:=J (K2.out.G b3);have hgl:gl<B.heap.size:=Nat.lt_of_lt_of_le HLT.out.lt hgw;have HCO:=J hCO;have aL8:0<cds.length:=by
  cases cds with
  |nil=>exact absurd I art
  |cons a l=>simp
 have hc1:((cds.length:Int)==0)=false:=by have:¬(cds.length:Int)=0:=Y;simpa using this
 have hs8:=Ds ss;have hc2:(((sP ss).length:Int)==0)=false:=by have:¬((sP ss).length:Int)=0:=Y;simpa using this
 have HNE:=J (And.intro hpe hn');have HKK:=J al;have HNN:=J hl;have HPP:=J hp;clear hpe hn' CA b3 hCO HH2 K2 B2 RBS hTl hTt hL0 al hp hl;go_wp2_with fail;refine(PA.out _).mono ?_;rintro _ w4 ⟨v4,rfl,htx,b4⟩;have hNm:y7 w4 v4 n:=⟨htx,hck⟩;obtain⟨A4,c4,rfl,-⟩:=hNm.form;have K4:=K3.out.G b4;have b14:=J (rC b13.out b13.out.size b4);have HNM:=J hNm;have HC4:=J (Ei.G HCO.out b4);obtain⟨g,hg⟩:∃g,B.heap.size=g:=gh;rw[hg]at hgw hgl K4⊢;have HG:=J hg;have d11:=K4.ci 1 (u:=.slice As2 (sP ss).length cS2) I;clear htx hNm b4 K3 b13 HCO PA hg;generalize hNS:(sP ss).length=nS at*;generalize hNC:cds.length=nC at*;have HNS:=J hNS;have HNC:=J hNC;clear hNS hNC;go_upto_region 7 with fail;clear d11 hc1 hc2 af0;go_wp2_with(refine rF (.store 24 (.tmp 74) (.tmp 71)) I (af I g 13 (.slice A4 n.length c4) K4.1 eT wS ?_));intro w5 B5 g5 sw;have K5:HK w5 g T {Fs vh (.slice As2 nS cS2) vv fam turn gl with nv:=.slice A4 n.length c4}:=K4.put 3 B5 I;clear sw B5;go_wp2_with(refine rF (.store 26 (.tmp 76) (.tmp 72)) I (af I g 14 (.slice A3 nC c3) K5.1 eQ agM ?_));intro w6 B6 g6 sw;have K6:HK w6 g T {Fs vh (.slice As2 nS cS2) vv fam turn gl with nv:=.slice A4 n.length c4,cv:=.slice A3 nC c3}:=K5.put 4 B6 I;clear sw B6;have G6:=rO g5 g6 (.inl I);have k:Fr (wj w4 UU b) w4 w6:=ld;have hgs:B.heap.size=g:=HG.out;have ah7:=b14.out;have alt:=rC (rC HW0.out HW0.out.size HH1.out) (Nat.le_trans HW0.out.size HH1.out.size) ah7;have hw4:=ah7.size;have OH6:rJ w6 0 74 19 (sG w0 w6) vh (tI hs):=ig;have OS6:=(rJ.G (R':=uK) HOS.out ah7 (fun _ _ x=>x)).rM (R':=uK) (fun _ x=>k.own x bV) (fun _ _ x=>x);have HP:KS ⟨rT r,tI hs,sP ss,n,cds,fam,turn⟩:=⟨Gm r,Wb HHN.out (HOH.out.all (fun _ _ x=>x.choose_spec.2.1)),Nat.le_trans (GD hs) Y,Ds ss|>.2,hck,by show cds.length<=7;rw[HNC.out];exact hl7,HC4.out.all (fun _ _ x=>x.choose_spec.2.2)⟩;have A6:yq w0 w6 b g gl ⟨rT r,tI hs,sP ss,n,cds,fam,turn⟩ {Fs vh (.slice As2 nS cS2) vv fam turn gl with nv:=.slice A4 n.length c4,cv:=.slice A3 nC c3} 0:=
  ⟨⟨T,K6,(HRO.out.G ah7).fr k⟩,OH6,OS6,HNM.out.rM k.rM,HC4.out.rM (fun _ x=>k.own x bV) (fun _ _ x=>x.rM k.rM),World.ownsRow_nil _ _ _ _,⟨[],rJ.nil _ _ _ _ _,by simp[Fs]⟩,⟨[],rJ.nil _ _ _ _ _,ar⟩,k.tD alt alt.size hb0,hb0,hbg,hgl,I,I,I,I,HVV.out⟩
 have L6:sE w6 gl L:=(((HLT.out.G HH1.out).G ah7).yu k eH);have S6:Kh w0 w6 b g gl ⟨rT r,tI hs,sP ss,n,cds,fam,turn⟩ {Fs vh (.slice As2 nS cS2) vv fam turn gl with nv:=.slice A4 n.length c4,cv:=.slice A3 nC c3} 0 L 0 0:=⟨A6,L6,⟨Nat.zero_le _,Nat.zero_le _,Nat.zero_le _⟩,Y,hds,Nat.zero_le _,Nat.zero_le _,I,I⟩;have b46:ao w w6:=iB;have Q1:=J (HKK.out w6 g _ cds S6 HP art I b46 hgw);unfold vG at Q1;clear K4 K5 K6 g5 g6 G6 k hgs ah7 alt hw4 OH6 OS6 HP A6 L6 S6 b46;go_wp2_with fail;refine Q1.out.mono ?_;rintro _ w7 ⟨v7,rfl,hq⟩;have HQ:=J hq;clear Q1 hq;go_wp2_with fail;go_ret2;exact⟨g,v7,I,HQ.out⟩
theorem Yz(h:Bk w0 w cs r)(hw:ao w0 w)(hH:wH w0 19 (yY w0) Ah hs)(hhl:hs.length<=100)(hhn:∀h∈hs,h.ns.length<=100)(hSr:wH w0 5 uK As ss)(hsl:ss.length<=17592186044416)(hSv:wH w0 3 wG Asv vs)(hvl:vs.length<=1000)(hs1:s.length<=1000000)(E:sE w gl L)(hb0:w0.heap.size<=b)(hbw:b<=w.heap.size)(hbg:b<=gl)(ajg:∀n d,parse s= .ok (n,d)->n=[]):
  Calls prog 11 #[.agg (cs++[Value.slice Ah hs.length ch,Value.slice As ss.length cS,Value.slice Asv vs.length csv]).toArray,.string (bs s),.int .i64 fam,.int .i64 turn,.pointer (some ⟨gl,0,none⟩)] w (Ft (fun g v w'=>v= .slice none 0 0/\∃c,Sn w0 w' b g gl ⟨rT r,tI hs,sP ss,[],[],fam,turn⟩ c 0/\c.r0=3/\c.r6=0/\ao w w')):=by
 have hcl:=h.len;have HB:Below w.heap.size w (w.alloc (.cells (cs++[Value.slice Ah hs.length ch,Value.slice As ss.length cS,Value.slice Asv vs.length csv]).toArray 33)):=fZ;have B0:=N.new w 33 (cs++[Value.slice Ah hs.length ch,Value.slice As ss.length cS,Value.slice Asv vs.length csv]);have HD:=J (Gk w0 cs r Ah As Asv ch cS csv hs ss vs _ (h.G HB) (rC hw hw.size HB) hH hhl hhn hSr hsl hSv hvl);have HLT:=J E;have HW0:=J hw;unfold JA at HD;have aiE:(cs++[Value.slice Ah hs.length ch,Value.slice As ss.length cS,Value.slice Asv vs.length csv]).length=13:=ko;generalize(cs++[Value.slice Ah hs.length ch,Value.slice As ss.length cS,Value.slice Asv vs.length csv])=CS at*;have HHN:=J hhn;clear h hw hH hSr hsl hSv hvl hcl E hhn;go_enter func11,ntmps11;go_wp2_with(refine rF (.load 33 (.tmp 5)) I ?_;go_must(refine rG I _ _ I w.heap.size 0 I B0 13 Y _ underlying33 I aej CS (uH Y) ?_));refine HD.out.mono ?_;rintro _ B ⟨T,vh,v2,vv,rfl,RO,OH,OS,hvv,b1⟩;have af0:=RO.len;obtain⟨As2,cS2,rfl⟩:=OS.form;have H1:=rC HB HB.size b1;have RBS:=J (fun V=>abL T af0 vh (.slice As2 (sP ss).length cS2) vv fam turn gl V);have HRO:=J RO;have HOH:=J OH;have HOS:=J OS;have HVV:=J hvv;clear HB B0 HD RO OH OS b1 aiE hvv;have B2:=N.new B 91 (T++Ek (Fs vh (.slice As2 (sP ss).length cS2) vv fam turn gl));have H2:Below B.heap.size B (B.alloc (.cells (T++Ek (Fs vh (.slice As2 (sP ss).length cS2) vv fam turn gl)).toArray 91)):=fZ;have K2:=J (show HK (B.alloc (.cells (T++Ek (Fs vh (.slice As2 (sP ss).length cS2) vv fam turn gl)).toArray 91)) B.heap.size T (Fs vh (.slice As2 (sP ss).length cS2) vv fam turn gl)from⟨B2,af0⟩);have hgw:w.heap.size<=B.heap.size:=H1.size;have CA:=J (MZ w0 T (rT r) s _ ((HRO.out.G H2).XA eZ eZ eZ) (rC (rC HW0.out HW0.out.size H1) (Nat.le_trans HW0.out.size hgw) H2) hs1);have HH1:=J H1;have HH2:=J H2;unfold aby at CA;have hTl:(T++Ek (Fs vh (.slice As2 (sP ss).length cS2) vv fam turn gl)).length=31:=K2.out.len;have hTt:(T++Ek (Fs vh (.slice As2 (sP ss).length cS2) vv fam turn gl)).take 10=T:=List.take_left' af0;obtain⟨L0,hL0⟩:=aq (T++Ek (Fs vh (.slice As2 (sP ss).length cS2) vv fam turn gl));rw[hL0.out]at RBS hTl hTt B2 K2 CA HH2;clear H1 H2;go_wp2_with(first
  |(refine rF (.build 91 #[(0,.tmp 19),(3,.tmp 20),(4,.tmp 21),(5,.tmp 22)]) rfl ?_;go_must(refine sy rfl 91 _ rfl #[(0,.agg (T++[vh,.slice As2 (sP ss).length cS2,vv]).toArray),(3,.int .i64 fam),(4,.int .i64 turn),(5,.pointer (some ⟨gl,0,none⟩))] cY (RBS.out _) ?_))
  |(refine rF (.load 29 (.tmp 29)) rfl ?_;go_must(refine rG rfl _ _ rfl B.heap.size 0 rfl B2 10 Y _ underlying29 rfl wE T ff ?_)))
 refine CA.out.mono ?_;rintro _ w3 ⟨b3,hcd⟩;rcases hcd with⟨rfl,-⟩|⟨n',d',A3,c3,cds,hpe,hn',rfl,hCO,art,hl7⟩
 case inr=>exact absurd (ajg n' d' hpe) hn'
 have PA:Hid (∀W,Calls prog 36 #[.string (bs s)] W (fun e W'=>∃v d k,e= .returned (.tuple #[v,.bool d,.int .i64 k])/\ao W W')):=J (fun W=>(Gt s hs1 W).mono (fun e W' hq=>by
  unfold CY at hq;split at hq
  ·exact⟨_,_,_,hq.1,hq.2⟩
  ·
   obtain⟨v,U,_,F⟩:=hq;exact⟨v,_,_,U,F⟩))
 have b13:=J (rC HH2.out HH2.out.size b3);have K3:=J (K2.out.G b3);have hgl:gl<B.heap.size:=Nat.lt_of_lt_of_le HLT.out.lt hgw;clear CA b3 HH2 K2 B2 RBS hTl hTt hL0 ajg;go_wp2_with fail;refine(PA.out _).mono ?_;rintro _ w4 ⟨v4,d4,k4,rfl,b4⟩;have K4:=K3.out.G b4;have b14:=J (rC b13.out b13.out.size b4);obtain⟨g,hg⟩:∃g,B.heap.size=g:=gh;rw[hg]at hgw hgl K4⊢;have HG:=J hg;clear b4 K3 b13 PA hg af0;generalize hNS:(sP ss).length=nS at*;have HNS:=J hNS;clear hNS;have RB3:=J (fun V=>CU 3 V);go_wp2_with(first
  |(refine rF (.build 50 #[(0,.const (.int .i64 3))]) rfl ?_;go_must(refine sy rfl 50 _ rfl #[(0,.int .i64 3)] cY (RB3.out _) ?_))
  |(refine rF (.store 4 (.tmp 65) (.const (.bool true))) rfl (af rfl g 26 (.bool true) K4.1 eT Gw ?_)))
 intro w5 B5 g5 sw;have K5:HK w5 g T {Fs vh (.slice As2 nS cS2) vv fam turn gl with dn:=true}:=K4.put 16 B5 I;clear sw B5;go_wp2_with(refine rF (.store 50 (.tmp 67) (.tmp 63)) I (ab I g 27 [.int .i64 3,rI,rI,.int .i64 0] K5.1 (by rw[K5.len];exact Nat.le_refl 31) vE dX ?_));intro w6 B6 g6 sw;have K6:HK w6 g T {Fs vh (.slice As2 nS cS2) vv fam turn gl with dn:=true,r0:=3,r1:=rI,r2:=rI,r3:=0}:=K5.agh (qs:=[.int .i64 3,rI,rI,.int .i64 0]) 17 (by simpa using B6) I;clear sw B6;have G6:=rO g5 g6 (.inl I);have k:Fr (wj w4 UU b) w4 w6:=ld;have hgs:B.heap.size=g:=HG.out;have ah7:=b14.out;have alt:=rC (rC HW0.out HW0.out.size HH1.out) (Nat.le_trans HW0.out.size HH1.out.size) ah7;have hw4:=ah7.size;have OH6:rJ w6 0 74 19 (sG w0 w6) vh (tI hs):=ig;have OS6:=(rJ.G (R':=uK) HOS.out ah7 (fun _ _ x=>x)).rM (R':=uK) (fun _ x=>k.own x bV) (fun _ _ x=>x);have A6:yq w0 w6 b g gl ⟨rT r,tI hs,sP ss,[],[],fam,turn⟩ {Fs vh (.slice As2 nS cS2) vv fam turn gl with dn:=true,r0:=3,r1:=rI,r2:=rI,r3:=0} 0:=
  ⟨⟨T,K6,(HRO.out.G ah7).fr k⟩,OH6,OS6,y7.nil _,rJ.nil _ _ _ _ _,World.ownsRow_nil _ _ _ _,⟨[],rJ.nil _ _ _ _ _,by simp[Fs]⟩,⟨[],rJ.nil _ _ _ _ _,ar⟩,k.tD alt alt.size hb0,hb0,hbg,hgl,I,I,I,I,HVV.out⟩
 have b46:ao w w6:=iB;have HE:=J (And.intro (show Sn w0 w6 b g gl ⟨rT r,tI hs,sP ss,[],[],fam,turn⟩ _ 0 from⟨A6,⟨Nat.zero_le _,Nat.zero_le _,Nat.zero_le _⟩,Nat.zero_le _,I,I,by show(1:Int)<=3;decide,by show(3:Int)<=5;decide⟩) b46);clear K4 K5 K6 g5 g6 G6 k hgs ah7 alt hw4 OH6 OS6 A6 b46;go_wp2_with fail;go_ret2;refine⟨g,.slice none 0 0,I,?_⟩;exact⟨I,_,HE.out.1,I,I,HE.out.2⟩
end
section
variable {w:World} {g:Nat} {T:List Value} {c:Hc}
theorem xD(h:HK w g T c):Calls prog 14 #[.pointer (some ⟨g,0,none⟩)] w (uQ (.bool c.dn) w):=by
 have d26:=h.ci 16 (u:=.bool c.dn) I;clear h;go_enter func14,ntmps14;exact mV
theorem Pg(h:HK w g T c)(hp:c.pp=none):Calls prog 16 #[.pointer (some ⟨g,0,none⟩)] w (uQ (.int .i64 (c.r6:Int)) w):=by
 have d23:=h.ci 13 (u:=.pointer none) (by show some (Dw c.pp)=_;rw[hp];rfl);have d25:=h.ci 15 (u:=.int .i64 (c.r6:Int)) I;clear h hp;go_enter func16,ntmps16;exact mV
end
def Wc(e:TypeId)(k n:Nat)(xs:List Value)(w:World)(en:Ending)(w':World):Prop:=∃v',en= .returned v'/\w'.ownsRow w.heap.size e k v' n xs/\ao w w'
theorem Ss(A:Option Addr)(n c:Nat)(w:World):(binOp BinOp.eql 25 (.slice A n c) (.slice none 0 0)).run prog w= .ok (.bool A.isNone) w:=by
 cases A<;>kernel_rfl
theorem St(A:Option Addr)(n c:Nat)(w:World):(binOp BinOp.eql 56 (.slice A n c) (.slice none 0 0)).run prog w= .ok (.bool A.isNone) w:=by
 cases A<;>kernel_rfl
theorem Su{n:Nat}{xs:List Value}(w:World)(h:w.ownsRow 0 67 18 v n xs)(E:xs.length=n*18)(U:∀u∈xs,u.oneCell'=true)(hn:n<=100000):Calls prog 39 #[v] w (Wc 67 18 n xs w):=by
 obtain⟨A,c,rfl⟩:=tp h;cases A with
 |none=>
  have h0:n=0:=by
   cases n with
   |zero=>rfl
   |succ n=>obtain⟨g,L,e,_⟩:=wU h Y E;cases e
  subst h0;have hx:xs=[]:=kZ;subst hx;clear h E U;have EN:=Ss none 0 c;go_enter func39,ntmps39;exact qd
 |some ad=>
  have EN:=Ss (some ad) n c;have kb:Below w.heap.size w (w.alloc (.cells #[] 67)):=fZ;have H0:=J (Ef w w.heap.size (Nat.le_refl _) 67 18);have RG:Hid (∀W,ao w W->0<n->∃b off,some ad=some ⟨b,off,none⟩/\W.rangeAt b off xs):=J (fun W kb hp=>by
   obtain⟨g,L,hA,Z,hL,_⟩:=wU (sT h kb) hp E;refine⟨g,0,hA,fun j v hv=>?_⟩;rw[Nat.zero_add];refine Z.rD j ?_;rw[<-hL]at hv;rw[List.getElem?_take]at hv;split at hv
   ·exact hv
   ·
    cases hv)
  have L1:=J E;have N1:=J U;clear h E U;go_enter func39,ntmps39;go_wp2_with(at_builtin;go_must(refine uR _ I (.tmp 5) (.tmp 6) 25 I 67 _ 18 32 underlying25 vg (by kernel_rfl) K w.heap.size _ 0 [] I H0.out kb.size (some ad) n c xs I (RG.out _ kb) L1.out N1.out aL Y n Y ?_));exact pg
theorem Sv{n:Nat}{xs:List Value}(w:World)(h:w.ownsRow 0 3 1 v n xs)(E:xs.length=n*1)(U:∀u∈xs,u.oneCell'=true)(hn:n<=100000):Calls prog 48 #[v] w (Wc 3 1 n xs w):=by
 obtain⟨A,c,rfl⟩:=tp h;cases A with
 |none=>
  have h0:n=0:=by
   cases n with
   |zero=>rfl
   |succ n=>obtain⟨g,L,e,_⟩:=wU h Y E;cases e
  subst h0;have hx:xs=[]:=kZ;subst hx;clear h E U;have EN:=St none 0 c;go_enter func48,ntmps48;exact qd
 |some ad=>
  have EN:=St (some ad) n c;have kb:Below w.heap.size w (w.alloc (.cells #[] 3)):=fZ;have H0:=J (Ef w w.heap.size (Nat.le_refl _) 3 1);have RG:Hid (∀W,ao w W->0<n->∃b off,some ad=some ⟨b,off,none⟩/\W.rangeAt b off xs):=J (fun W kb hp=>by
   obtain⟨g,L,hA,Z,hL,_⟩:=wU (sT h kb) hp E;refine⟨g,0,hA,fun j v hv=>?_⟩;rw[Nat.zero_add];refine Z.rD j ?_;rw[<-hL]at hv;rw[List.getElem?_take]at hv;split at hv
   ·exact hv
   ·
    cases hv)
  have L1:=J E;have N1:=J U;clear h E U;go_enter func48,ntmps48;go_wp2_with(at_builtin;go_must(refine uR _ I (.tmp 5) (.tmp 6) 56 I 3 _ 1 8 underlying56 aei (by kernel_rfl) K w.heap.size _ 0 [] I H0.out kb.size (some ad) n c xs I (RG.out _ kb) L1.out N1.out aL Y n Y ?_));exact pg
def aek(n:Nat)(w:World)(e:Ending)(w':World):Prop:=∃A k,e= .returned (.slice A n k)/\ao w w'
theorem U0{g n:Nat}{D:Cg}{c:Hc}(h:yq w0 w b g gl D c n)(hn:n<=8):Calls prog 26 #[.pointer (some ⟨g,0,none⟩)] w (aek n w):=by
 obtain⟨T,hK,_⟩:=h.k;have d18:=hK.ci 8 (u:=c.av) I;have hx1:∀u∈Bi (Gv n),u.oneCell'=true:=by intro u hu;obtain⟨i,_,rfl⟩:=List.mem_map.1 hu;rfl
 have CL:=J (Sv w (xi h.as_) eJ hx1 Y);obtain⟨A,k,hv⟩:=tp h.as_;rw[hv]at CL d18;unfold Wc at CL;clear h hK hv hx1;go_enter func26,ntmps26;go_wp2_with fail;refine CL.out.mono ?_;rintro _ w2 ⟨v',rfl,ho,Z⟩;obtain⟨A2,k2,rfl⟩:=tp ho;clear CL ho;go_wp2_with fail;go_ret;exact⟨_,_,I,Z⟩
def Kn(r0:Int)(r2:Value)(r3:Int)(xs:List sg)(w:World)(e:Ending)(w':World):Prop:=∃v',e= .returned (.agg [.int .i64 r0,v',r2,.int .i64 r3].toArray)/\uG w' 0 v' xs/\ao w w'
theorem zL{g:Nat}{T:List Value}{c:Hc}{xs:List sg}(h:HK w g T c)(hd:c.dn=true)(hx:uG w 0 c.r1 xs)(hxl:xs.length<=100000)(F:c.r2.oneCell'=true):Calls prog 15 #[.pointer (some ⟨g,0,none⟩)] w (Kn c.r0 c.r2 c.r3 xs w):=by
 have HZ:Below w.heap.size w (w.alloc (.cells #[.int .i64 0,.slice none 0 0,.slice none 0 0,.int .i64 0] 50)):=fZ;have Z0:=N.new w 50 [.int .i64 0,rI,rI,.int .i64 0];have K0:=h.G HZ;have d26:=K0.ci 16 (u:=.bool true) (by show some (Value.bool c.dn)=_;rw[hd]);obtain⟨A1,c1,hv⟩:=hx.form;have m4:((T++Ek c).drop 27).take 4=[.int .i64 c.r0,.slice A1 xs.length c1,c.r2,.int .i64 c.r3]:=by rw[show 27=10+17 from I,<-List.drop_drop,List.drop_left' h.2,<-hv];rfl
 have aLy:(T++Ek c).length=31:=h.len;have hgs:g<w.heap.size:=h.1.lt;have w1:∀A n k,∀u∈[Value.int .i64 c.r0,.slice A n k,c.r2,.int .i64 c.r3],u.oneCell'=true:=by
  intro A n k u hu;simp only[List.mem_cons,List.not_mem_nil,or_false]at hu;rcases hu with rfl|rfl|rfl|rfl
  ·rfl
  ·rfl
  ·exact F
  ·rfl
 have BK:N (w.alloc (.cells #[.int .i64 0,.slice none 0 0,.slice none 0 0,.int .i64 0] 50)) g 91 (T++Ek c):=K0.1;have HX0:=J (rJ.G (R':=xH) hx HZ (fun _ _ x=>x));rw[hv]at HX0;generalize T++Ek c=LL at*;generalize c.r0=q0,c.r2=q2,c.r3=q3 at*;have HHZ:=J HZ;have HM4:=J m4;obtain⟨W0,hW0⟩:∃W0,W0=(w.alloc (.cells #[.int .i64 0,.slice none 0 0,.slice none 0 0,.int .i64 0] 50)):=gh;have Y1:=N.uE (w.alloc (.cells #[.int .i64 0,.slice none 0 0,.slice none 0 0,.int .i64 0] 50)) 50 [.int .i64 0,rI,rI,.int .i64 0] (w.heap.size+1) ar;have k1:Below w.heap.size w ((w.alloc (.cells #[.int .i64 0,.slice none 0 0,.slice none 0 0,.int .i64 0] 50)).alloc (.cells #[.int .i64 0,.slice none 0 0,.slice none 0 0,.int .i64 0] 50)):=HZ.alloc HZ.size _;have Z1:N ((w.alloc (.cells #[.int .i64 0,.slice none 0 0,.slice none 0 0,.int .i64 0] 50)).alloc (.cells #[.int .i64 0,.slice none 0 0,.slice none 0 0,.int .i64 0] 50)) w.heap.size 50 [.int .i64 0,rI,rI,.int .i64 0]:=Z0.alloc _;have HX1:=J (rJ.G (R':=xH) HX0.out ((Below.refl _ _).alloc (Nat.le_refl _) (.cells #[.int .i64 0,.slice none 0 0,.slice none 0 0,.int .i64 0] 50)) (fun _ _ x=>x));have aLN:=HZ.size;clear h hx F hd hv K0 m4 HZ hW0 W0;go_enter func15,ntmps15;go_wp2_with(first
  |(refine rF (.load 50 (.tmp 16)) rfl ?_;go_must(refine rG rfl _ _ rfl g 27 rfl BK 4 Y _ underlying50 rfl vE _ HM4.out ?_))
  |(refine rF (.store 50 (.tmp 3) (.tmp 17)) rfl (ab rfl (w.heap.size+1) 0 [.int .i64 q0,.slice A1 xs.length c1,q2,.int .i64 q3] Y1 (Nat.le_refl 4) vE (w1 _ _ _) ?_)))
 intro w3 B3 g3 sw;clear sw;have Y3:N w3 (w.heap.size+1) 50 [.int .i64 q0,.slice A1 xs.length c1,q2,.int .i64 q3]:=jz;have H3:=J (rE k1 g3 k1.size Y);have Z3:=Z1.grown g3 ar;have X3:=HX1.out.sD g3 Y1 K;obtain⟨css,ad1,hE⟩:=X3;have hcl:=zp (fun _ _ h=>xH.len h) hE;have CL:=J (Su w3 ad1 (by rw[hcl]) (Ki (fun _ x h=>by rw[h.1];exact x.tm) hE) Y);unfold Wc at CL;have HE:=J hE;have d1:=Y3.rD 1 I;clear B3 g3 k1 Z1 HX1 HX0 Y1 Z0 BK ad1 hE hcl HM4;go_wp2_with fail;refine CL.out.mono ?_;rintro _ w4 ⟨v4,rfl,ho4,b4⟩;obtain⟨A4,c4,rfl⟩:=tp ho4;have Y4:=Y3.G b4 Y3.lt;have Z4:=Z3.G b4 Z3.lt;have H4:=J (rC H3.out H3.out.size b4);have HX4:=J (show uG w4 0 (.slice A4 xs.length c4) xs from⟨css,xi ho4,HE.out⟩);clear CL ho4 d1 Y3 Z3 H3 b4;go_wp2_with(refine rF (.store 25 (.tmp 21) (.tmp 20)) I (af I (w.heap.size+1) 1 (.slice A4 xs.length c4) Y4 (by show 1<4;decide) aeb ?_));intro w5 B5 g5 sw;clear sw;have Y5:N w5 (w.heap.size+1) 50 [.int .i64 q0,.slice A4 xs.length c4,q2,.int .i64 q3]:=by simpa using B5
 have Z5:=Z4.grown g5 ar;have H5:=J (rE H4.out g5 H4.out.size Y);have X5:=J (HX4.out.sD g5 Y4 K);clear B5 g5 Y4 Z4 H4 HX4;go_wp2_with(first
  |(refine rF (.load 50 (.tmp 3)) rfl ?_;go_must(refine rG rfl _ _ rfl (w.heap.size+1) 0 rfl Y5 4 (Nat.le_refl 4) _ underlying50 rfl vE _ rfl ?_))
  |(refine rF (.store 50 (.tmp 2) (.tmp 22)) rfl (ab rfl w.heap.size 0 [.int .i64 q0,.slice A4 xs.length c4,q2,.int .i64 q3] Z5 (Nat.le_refl 4) vE (w1 _ _ _) ?_)))
 intro w6 B6 g6 sw;clear sw;have H6:=J (rE H5.out g6 H5.out.size (Nat.le_refl _));have X6:=J (X5.out.sD g6 Z5 K);have B6':N w6 w.heap.size 50 [.int .i64 q0,.slice A4 xs.length c4,q2,.int .i64 q3]:=by simpa using B6
 clear B6 g6 Y5 Z5 H5 X5;go_wp2_with fail;refine tx I w.heap.size I B6' _ underlying50 I vE I ?_;exact⟨_,I,X6.out,H6.out⟩
end Go.Proofs.YtakkipnmpmobbaaGreat
