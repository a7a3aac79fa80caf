/-
  Layer 32 (pair):Told.
-/
import Derived.Test.YtakkipnmpmobbaaGreatISq
import Derived.DeepKeys4
namespace Go.Proofs.YtakkipnmpmobbaaGreat
open _root_.Go.Proofs.Tryz
set_option maxHeartbeats 8000000
open Go.RowKit
set_option maxRecDepth 100000
set_option linter.unusedVariables false
set_option linter.unusedSimpArgs false
variable {w w':World} {cs:List Value} {b n:Nat}
structure Td where
 q:Qn
 vd:Int
 m:tq
def Ip(w:World)(cs:List Value)(t:Td):Prop:=∃vn ds,cs=qC vn t.q++(.int .i64 t.vd::ds)/\Mq w vn t.q.name/\sA w ds t.m
theorem Ip.len{t:Td}(h:Ip w cs t):cs.length=18:=by
 obtain⟨vn,ds,rfl,_,h⟩:=h;simp[qC,h.len]
theorem Ip.fr{S:Nat->Prop}{t:Td}(h:Ip w cs t)(k:Fr S w w'):Ip w' cs t:=by
 obtain⟨vn,ds,e,n,m⟩:=h;exact⟨vn,ds,e,n.rM k.rM,k.xZ m⟩
theorem Ip.one{t:Td}(h:Ip w cs t):∀v∈cs,v.oneCell'=true:=by
 obtain⟨vn,ds,rfl,n,m⟩:=h;obtain⟨A,c,rfl,_⟩:=n.form;intro v hv;rcases List.mem_append.1 hv with hv|hv
 ·simp only[qC,List.mem_cons,List.not_mem_nil,or_false]at hv;rcases hv with rfl|rfl|rfl<;>rfl
 ·
  rcases List.mem_cons.1 hv with rfl|hv
  ·rfl
  ·exact m.one v hv
abbrev yG(w:World)(Hh:Nat)(v:Value)(l:List Td):Prop:=rJ w Hh 186 18 (Ip w) v l
theorem yG.G{Hh:Nat}{v:Value}{l:List Td}(h:yG w Hh v l)(k:ao w w'):yG w' Hh v l:=rJ.G h k (fun _ _ x=>x.fr (Fr.G (S:=fun _=>False) k))
def CR(x:Xc):Td:=⟨x.q,x.vd,x.xZ⟩
def yi(l:List Xc):List Td:=(l.filter (·.done)).map CR
theorem UG(l:List Xc)(i:Nat)(hi:i<l.length):yi (l.take (i+1))=yi (l.take i)++(if l[i].done then[CR l[i]]else[]):=by
 unfold yi;rw[List.take_succ_eq_append_getElem hi,List.filter_append,List.map_append];congr 1;rw[List.filter_cons];split<;>rfl
theorem Yg(l:List Xc)(i:Nat):(yi (l.take i)).length<=i:=by
 unfold yi;rw[List.length_map];refine Nat.le_trans (List.length_filter_le _ _) ?_;rw[List.length_take];omega
def OT(l:List Td)(w:World)(e:Ending)(w':World):Prop:=∃v,e= .returned v/\yG w' w.heap.size v l/\ao w w'
theorem Yh(hb agB:List Value)(hq:hb.length=3)(h:agB.length=15)(W:World):(Instr.build 186 #[(0,.agg hb.toArray),(1,.agg agB.toArray)]).run prog W= .ok (.agg (hb++agB).toArray) W:=by
 match hb,hq with
 |[a,b,c],_=>exact abe a b c agB h W
section
variable {w0 w:World} {b g gl:Nat} {hk:List (Nat×Option Nat)} {p:Pr}
theorem MU(h:yF w0 w b g gl hk p)(hq:∀i x,p.bg[i]?=some x->x.q=RQ p i)(E:p.bg.length<=p.tys.length)(hl2:p.bg.length<=2):Calls prog 94 #[.pointer (some ⟨g,0,none⟩)] w (OT (yi p.bg) w):=by
 obtain⟨⟨T,vq,vb,a1,a2,a3,a4⟩,h5,h6,h7,h8,h9,h10⟩:=h;obtain⟨Ab,cb,hvb⟩:=a4.form;obtain⟨Aq,cq,hvq⟩:=a3.form;subst hvb hvq;have ROW:=J (fun i hi=>J0 a4 h5 i hi);have d13:w.cell? ⟨g,13,none⟩=some (.slice Ab (hk.map (·.1)).length cb):=ms;have ame:=a1.1.lt;have HK:=J a1;have HQS:=J a3;have hXl:(hk.map (·.1)).length=p.bg.length:=ij;obtain⟨n,hn⟩:=aq p.bg.length;rw[hXl,hn.out]at d13;rw[hn.out]at hl2;have HQ:=J hq;have HL:=J E;obtain⟨mq,hmq⟩:=aq ((UF p).length);clear a1 a2 a3 a4 h5 h6 h7 h8 h9 h10 hXl hq E;go_enter func94,ntmps94;go_wp2_with fail;go_loopw[3,13] (fun lv iv wr=>∃(i:Nat) (l:List Td) (A1:Option Addr) (c1:Nat),i<=n/\iv= .int .i64 i/\lv= .slice A1 l.length c1/\Hid (l=yi (p.bg.take i))/\l.length<=i/\Hid (yG wr w.heap.size (.slice A1 l.length c1) l)/\ao w wr) (fun _ iv _=>n-(intOf iv).toNat)
 case atStart=>exact⟨0,[],none,0,Nat.zero_le _,I,I,J I,Nat.zero_le _,J (rJ.nil _ _ _ _ _),Below.refl _ _⟩
 obtain⟨i,l,A1,c1,hi,rfl,rfl,HLE,hli,HO,HB⟩:=hrel;by_cases aA:i<n
 case pos=>
  have h1:(i:Int)<n:=Y;have hlp:i<p.bg.length:=gM;obtain⟨gs,off,gx,D,e1,e2,e3,e4,e5,e6,e7⟩:=ROW.out i hlp;have f3:wr.cell? ⟨gs,off+i,none⟩=some (.pointer (some ⟨gx,0,none⟩)):=(HB.cell (p:=⟨gs,off+i,none⟩) e2).trans e3;have DN:=J (Dk (e5.G HB));have OC:=J (fun V (hV:ao w V)=>Rt gx gl D p.bg[i] V (e5.G hV));have TT:=J (UG p.bg i hlp);have hqe:=HQ.out i _ (List.getElem?_eq_getElem hlp);have hlq:i<(UF p).length:=by rw[Dm];have:=HL.out;omega
  obtain⟨gq,hAq,hgq,ag8⟩:=rJ.rU (R:=QI w) (k:=3) (fun _ _ x=>x.len) HQS.out Y;obtain⟨cx,hcx,vn,hcv,akU⟩:=ag8 i hlq;rw[VT,<-hqe]at hcv akU;obtain⟨x,hx⟩:∃x,p.bg[i]=x:=gh;rw[hx]at DN OC TT hcv akU;unfold aa3 at OC;have aA6:i<mq:=by rw[<-hmq.out];exact hlq
  have HKK:=HK.out;rw[hmq.out]at HKK;have aCB:wr.cell? ⟨g,13,none⟩=some (.slice Ab n cb):=(HB.cell (p:=⟨g,13,none⟩) ame).trans d13;subst e1 hAq;clear e2 e3 e4 e5 e6 e7 hqe ag8 hx hlp hlq;obtain⟨dn,hd⟩:∃dn,x.done=dn:=gh;rw[hd]at DN TT;clear hd;go_upto_block 1 with fail;go_cut[3] (fun lv wx=>∃(l2:List Td) (A2:Option Addr) (c2:Nat),lv= .slice A2 l2.length c2/\Hid (l2=yi (p.bg.take (i+1)))/\l2.length<=i+1/\Hid (yG wx w.heap.size (.slice A2 l2.length c2) l2)/\ao w wx)
  case first=>
   go_wp2_with fail;refine DN.out.mono ?_;rintro _ w2 ⟨rfl,rfl⟩;clear DN aCB;cases dn with
   |false=>
    simp only[Bool.false_eq_true,if_false,List.append_nil]at TT;have HL2:Hid (l=yi (p.bg.take (i+1))):=J (by rw[TT.out];exact HLE.out);go_wp2_with fail;go_meet
    case rel=>exact⟨l,A1,c1,I,HL2,Y,HO,HB⟩
   |true=>
   simp only[if_true]at TT;have HL2:Hid (l++[CR x]=yi (p.bg.take (i+1))):=J (by rw[TT.out,HLE.out]);obtain⟨hb,hQ⟩:∃hb,Hid (hb=qC vn x.q):=ji;rw[hcv,<-hQ.out]at hcx;have hQl:hb.length=3:=by rw[hQ.out];rfl
   have HNM:=J akU;have HCX:=J hcx;have HKD:=J HKK;clear hcv hcx akU HKK;have BD:Below w.heap.size w wr.drew:=HB.drew;have OD:=J (yG.G HO.out ((Below.refl _ _).drew));obtain⟨vdx,hvd⟩:=aq x.vd;rw[hvd.out]at OC;go_wp2_with fail;refine wp_region_held_drew (S:=fun V=>ao w V) (by kernel_rfl) BD (fun hS=>?_);refine rS hS 9 [0,1,2,3,4,5,6,7,8] I (by kernel_rfl) (fun _ _ _ _ _ h=>h) I I ?_
   (refine ak (.slice A1 l.length c1) ?_;simp only[X])
   (refine ak (.pointer (some ⟨g,0,none⟩)) ?_;simp only[X])
   (refine ak (.pointer (some ⟨g,0,none⟩)) ?_;simp only[X])
   (refine ak (.pointer (some ⟨g,10,none⟩)) ?_;simp only[X])
   (refine aj _ I I (fun V hV=>(rX 133 (.tmp 23) ⟨g,10,none⟩ I I (rQ underlying133 I ((hV.cell (p:=⟨g,10,none⟩) ame).trans (HKD.out.c 0 I))))) ?_;simp only[X])
   (refine ak (.int .i64 i) ?_;simp only[X])
   (refine aj _ I I (fun V hV=>(vi underlying133 xS K (.tmp 24) (.tmp 25) I I I aA6 V)) ?_;simp only[X])
   (refine aj _ I I (fun V hV=>(rX 160 (.tmp 26) ⟨gq,0+i*3,none⟩ I I (uN (rN HCX.out hV hgq) underlying160 I dP))) ?_;simp only[X])
   (refine ak (.pointer (some ⟨gx,0,none⟩)) ?_;simp only[X])
   simp only[sS];refine su 9 (some 29) 106 #[.pointer (some ⟨gx,0,none⟩)] (by kernel_rfl) I I (by kernel_rfl) bc (OC.out _ hS) ?_;rintro _ w4 ⟨ds,rfl,hM,b4⟩;have hS4:=rC hS hS.size b4;refine⟨_,I,hS4,?_⟩;have O4:=yG.G OD.out b4;have hOl:(Value.int .i64 vdx::ds).length=15:=by simp[hM.len]
   have TI:Ip w4 (hb++(Value.int .i64 vdx::ds)) (CR x):=⟨vn,ds,by rw[hQ.out,<-hvd.out];rfl,HNM.out.rM (rZ.G hS4),hM⟩;have TB:=J (fun V=>Yh hb (Value.int .i64 vdx::ds) hQl hOl V);obtain⟨TD,hTD⟩:∃TD,hb++(Value.int .i64 vdx::ds)=TD:=gh;rw[hTD]at TB TI;obtain⟨OO,hOO⟩:∃OO,Value.int .i64 vdx::ds=OO:=gh;rw[hOO]at TB⊢;have hTl:=TI.len;have hT1:=TI.one;have RBS:=J (EL (P:=prog) w4 89 186 _ 18 184 underlying89 Im K K TD hTl);have kz:Below w4.heap.size w4 (w4.alloc (.cells TD.toArray 186)):=fZ;have Bz:N (w4.alloc (.cells TD.toArray 186)) w4.heap.size 186 TD:=N.new w4 186 TD;have Oz:=yG.G O4 kz;have Tz:=TI.fr (Fr.G (S:=fun _=>False) kz);have hSz:=rC hS4 hS4.size kz;have avB:=hSz;obtain⟨v',wb,hr,O6,g6⟩:=zu (P:=prog) (w4.alloc (.cells TD.toArray 186)) 89 89 186 _ 18 184 underlying89 Im (by kernel_rfl) K w.heap.size _ l Oz hSz.size w4.heap.size TD (CR x) Bz hTl hT1 Tz aL Y;have F6:Fr (wj _ (fun t=>t=186) w.heap.size) (w4.alloc (.cells TD.toArray 186)) wb:=Oz.OM g6 bV I;have O7:yG wb w.heap.size v' (l++[CR x]):=O6.rM (fun _ x=>x) (fun _ _ h=>h.fr F6);have hS7:=F6.tD hSz hSz.size (Nat.le_refl _);obtain⟨A2,c2,hv'⟩:=O7.form;have HO7:=J O7;obtain⟨l2,amg⟩:∃l2,l++[CR x]=l2:=gh;have hll:l2.length=l.length+1:=by rw[<-amg];simp
   rw[amg]at HO7 HL2 hv';subst hv';clear O4 hOl TI hTl hT1 kz Bz Oz Tz hSz O6 g6 F6 O7 hM b4 OD OC HCX HKD HNM hOO amg;clear hS;have hS:=hS4;simp only[X];refine rS hS 1 [10] I (by kernel_rfl) (fun _ _ _ _ _ h=>h) I I ?_
   (refine aj (.agg TD.toArray) I I (fun V hV=>(wm 186 _ I #[(0,.agg hb.toArray),(1,.agg OO.toArray)] (by kernel_rfl) (TB.out V))) ?_;simp only[X])
   simp only[sS];refine rV 11 (by kernel_rfl) ?_;refine sx 11 (some 31) I I (by kernel_rfl) (zt (.tmp 30) I I RBS.out) ?_;refine⟨avB,?_⟩;simp only[X];refine rV 12 (by kernel_rfl) ?_;refine sx 12 (some 32) I I (by kernel_rfl) (xX (.tmp 20) (.tmp 31) I I I I hr) ?_;refine⟨hS7,?_⟩;clear hS hr RBS TB avB;have hS:=hS7;simp only[X];refine rS hS 1 [13] I (by kernel_rfl) (fun _ _ _ _ _ h=>h) I I ?_
   (refine ak (.slice A2 l2.length c2) ?_;simp only[X])
   simp only[sS];refine wpAnyH_done (by kernel_rfl) ?_ _;go_wp2_with fail;go_meet
   case rel=>exact⟨l2,A2,c2,I,HL2,Y,HO7,hS⟩
  obtain⟨l2,A2,c2,rfl,HL2,amg,HO2,HB2⟩:=hcut;obtain⟨w5,rfl⟩:∃w5,w5=wc:=gh;go_wp2_with fail;go_roundw
  case rel=>exact⟨i+1,l2,A2,c2,Y,fQ,I,HL2,amg,HO2,HB2⟩
  case measure=>simp[intOf];omega
 have h1:¬(i:Int)<n:=Y;obtain rfl:i=n:=Y;have hte:p.bg.take i=p.bg:=kW;rw[hte]at HLE;clear ROW HQS HQ d13 HK;go_wp2_with fail;go_ret;rw[<-HLE.out];exact⟨_,I,HO.out,HB⟩
end
theorem abk(p:Addr)(a:Value)(V:World):(callFunc 103 #[a,.pointer (some p)]).run prog V= .ok (.enter 103 #[a,.pointer (some p)]) V:=by kernel_rfl
theorem Ip.vd{t:Td}(h:Ip w cs t):cs[3]?=some (.int .i64 t.vd):=by
 obtain⟨vn,ds,rfl,_,_⟩:=h;rfl
theorem abl(w:World)(cs:List Value)(t:Td)(v:Int)(gv:Nat)(E:cs.length=18)(h:cs[3]?=some (.int .i64 t.vd))(hv:w.cell? ⟨gv,0,none⟩=some (.int .i64 v))(hg:gv<w.heap.size):
  Calls prog 103 #[.agg cs.toArray,.pointer (some ⟨gv,0,none⟩)] w (rW (.bool (decide (t.vd=v))) w):=by
 have Hh:=N.new w 186 cs;have H:Below w.heap.size w (w.alloc (.cells cs.toArray 186)):=fZ;have d3:=Hh.rD 3 h;have dv:=(H.cell (p:=⟨gv,0,none⟩) hg).trans hv;clear Hh h hv;generalize t.vd=n at*;by_cases e:n=v
 ·subst e;have e':(n==n)=true:=ar;go_enter func103,ntmps103;go_wp2_with fail;go_ret;exact rW.mk ar H
 ·
  have e':(n==v)=false:=by simpa using e
  rw[decide_eq_false e];go_enter func103,ntmps103;go_wp2_with fail;go_ret;exact rW.mk I H
theorem aga:(prog.info? 186).map (·.size)=some 18:=by kernel_rfl
def abm(l:List Td)(v:Int)(w:World)(e:Ending)(w':World):Prop:=∃i:Int,e= .returned (.int .i64 i)/\(0<=i↔ ∃t∈l,t.vd=v)/\ao w w'
theorem adr(w:World)(Hh:Nat)(A:Option Addr)(c:Nat)(l:List Td)(v:Int)(gv:Nat)(h:yG w Hh (.slice A l.length c) l)(E:l.length<=100)(hv:w.cell? ⟨gv,0,none⟩=some (.int .i64 v))(hg:gv<w.heap.size):
  Calls prog 111 #[.slice A l.length c,.func (.func 103) #[] #[.pointer (some ⟨gv,0,none⟩)]] w (abm l v w):=by
 have HH:=Lib.hid h;have CF:=J (fun a V=>abk ⟨gv,0,none⟩ a V);have HV:=J hv;obtain⟨n,hn⟩:=aq l.length;rw[hn.out]at E⊢;clear h hv;go_enter func111,ntmps111;go_wp2_with fail;go_loopw[8] (fun iv wr=>∃k:Nat,k<=n/\iv= .int .i64 k/\Hid (∀i (hi:i<l.length),i<k->l[i].vd≠v)/\ao w wr) (fun iv _=>n-(intOf iv).toNat)
 case atStart=>exact⟨0,Nat.zero_le _,I,J (fun i hi c=>absurd c Y),Below.refl _ _⟩
 obtain⟨k,O,rfl,HS,HB⟩:=hrel;by_cases aA:k<n
 case pos=>
  have h1:(k:Int)<n:=Y;have hlp:k<l.length:=gM;obtain⟨gs,hA,hgs,ag8⟩:=rJ.rU (R:=Ip w) (k:=18) (fun _ _ x=>x.len) HH.out Y;obtain⟨cs,ahi,hT⟩:=ag8 k hlp;have key:∃off,A=some ⟨gs,off,none⟩/\w.rangeAt gs (off+k*18) cs:=⟨0,hA,ahi⟩;clear hA ahi;obtain⟨off,hA,hcs⟩:=key;have re:=rN hcs HB hgs;have hcl:=hT.len;have HC:=J (abl wr cs l[k] v gv hcl hT.vd ((HB.cell (p:=⟨gv,0,none⟩) hg).trans HV.out) (Nat.lt_of_lt_of_le hg HB.size));have HY:Hid (l[k].vd=v->∃t∈l,t.vd=v):=J (fun h=>⟨_,List.getElem_mem hlp,h⟩);have HN:Hid (l[k].vd≠v->∀i (hi:i<l.length),i<k+1->l[i].vd≠v):=J (fun h i hi c=>by
   by_cases e:i=k
   ·subst e;exact h
   ·
    exact HS.out i hi Y)
  subst hA;generalize l[k].vd=vk at*;clear ag8 hcs hT HS hlp;by_cases hvk:vk=v
  case pos=>have hy:=J (HY.out hvk);rw[decide_eq_true hvk]at HC;clear HY HN hvk;go_wp2_with(refine rF (.load 186 (.tmp 14)) I ?_;go_must(refine sr I 186 (.tmp 14) I gs (off+k*18) I cs re _ underlying186 I dT ?_));refine HC.out.mono ?_;rintro _ w2 ⟨rfl,b2⟩;have H2:=rC HB HB.size b2;clear HC re b2 HB;go_wp2_with fail;go_ret;exact⟨_,I,⟨fun _=>hy.out,fun _=>by omega⟩,H2⟩
  case neg=>
   have hn':=J (HN.out hvk);rw[decide_eq_false hvk]at HC;clear HY HN hvk;go_wp2_with(refine rF (.load 186 (.tmp 14)) I ?_;go_must(refine sr I 186 (.tmp 14) I gs (off+k*18) I cs re _ underlying186 I dT ?_));refine HC.out.mono ?_;rintro _ w2 ⟨rfl,b2⟩;have H2:=rC HB HB.size b2;clear HC re b2 HB;go_wp2_with fail;go_roundw
   case rel=>exact⟨k+1,Y,fQ,hn',H2⟩
   case measure=>simp[intOf];omega
 have h1:¬(k:Int)<n:=Y;have HF:Hid (¬ ∃t∈l,t.vd=v):=J (by
  rintro⟨t,ht,e⟩;obtain⟨i,hi,rfl⟩:=List.mem_iff_getElem.1 ht;exact HS.out i hi dN e)
 clear HS;go_wp2_with fail;go_ret;exact⟨-1,I,⟨fun c=>absurd c K,fun c=>absurd c HF.out⟩,HB⟩
theorem OU(w:World)(Hh:Nat)(A:Option Addr)(c:Nat)(l:List Td)(v:Int)(gv:Nat)(h:yG w Hh (.slice A l.length c) l)(E:l.length<=100)(hv:w.cell? ⟨gv,0,none⟩=some (.int .i64 v))(hg:gv<w.heap.size):
  Calls prog 104 #[.slice A l.length c,.func (.func 103) #[] #[.pointer (some ⟨gv,0,none⟩)]] w (fun e w'=>∃b:Bool,e= .returned (.bool b)/\(b=true↔ ∃t∈l,t.vd=v)/\ao w w'):=by
 have ID:=J (adr w Hh A c l v gv h E hv hg);unfold abm at ID;clear h hv;generalize l.length=n at*;go_enter func104,ntmps104;go_wp2_with fail;refine ID.out.mono ?_;rintro _ w2 ⟨i,rfl,hi,b2⟩;have HI:=J hi;clear hi ID;go_wp2_with fail;go_ret;refine⟨_,I,?_,b2⟩;rw[<-HI.out];simp
open Go.RowKit Go.Maps
theorem ads:laidOutB prog=true:=by kernel_rfl
theorem ae6:(67:TypeId)<prog.types.size:=of_decide_eq_true (by kernel_rfl)
theorem adt:(match prog.underlying 67 with|some (.array _ _)|some (.struct _)=>true|_=>false)=true:=by kernel_rfl
theorem Fi:Keyed prog 67:=Keyed.of_law (deep_law_laid ads (m:=3) Y ae6 (by kernel_rfl) adt)
def adF(a:sg):Prop:=(a.fam=4\/a.fam=6)/\(0<=a.az/\a.az<=2147483647)/\a.ip.length=16
theorem abn(d:Nat)(n:Int)(h:(Lit.int .i64 n).wf=true):prog.keyLits (d+1) 3 [.int .i64 n]=some [.int .i64 n]:=by
 unfold Program.keyLits;rw[underlying3];simp[h]
theorem agb(d:Nat)(b:UInt8):prog.keyLits (d+1) 5 [.int .u8 (b.toNat:Int)]=some [.int .u8 (b.toNat:Int)]:=by
 have Z:=b.toNat_lt;have h:(Lit.int .u8 (b.toNat:Int)).wf=true:=by show(decide ((0:Int)<=b.toNat)&&decide ((b.toNat:Int)<=255))=true;exact ru
 unfold Program.keyLits;rw[underlying5];simp[h]
theorem mapM_some{α β:Type}(f:α->Option β)(g:α->β):∀(l:List α),(∀x∈l,f x=some (g x))->l.mapM f=some (l.map g)
 |[],_=>rfl
 |x::l,h=>by
  rw[List.mapM_cons,h x ar,mapM_some f g l (fun y hy=>h y (by simp[hy]))];rfl
theorem ae7(d:Nat)(ip:List UInt8)(h:ip.length=16):∃ls,prog.keyLits (d+2) 65 (sN ip)=some ls:=by
 have c1:prog.cellsOf 5=1:=by kernel_rfl
 have c16:prog.cellsOf 65=16:=by kernel_rfl
 unfold Program.keyLits;rw[underlying65];simp only;rw[if_pos (by rw[c16,sI,h])];have:=mapM_some (fun i=>prog.keyLits (d+1) 5 (((sN ip).drop (i*prog.cellsOf 5)).take (prog.cellsOf 5))) (fun i=>[Lit.int .u8 ((ip.getD i 0).toNat:Int)]) (List.range 16) (fun i hi=>by
  have hi':i<16:=List.mem_range.1 hi;have E:i<(sN ip).length:=by rw[sI,h];exact hi'
  rw[c1,Nat.mul_one,List.drop_eq_getElem_cons E];have e:(sN ip)[i]= .int .u8 ((ip.getD i 0).toNat:Int):=by
   have hi2:i<ip.length:=by rw[h];exact hi'
   rw[List.getD_eq_getElem?_getD,List.getElem?_eq_getElem hi2];simp[sN]
  rw[e];exact agb d _)
 exact⟨_,by rw[this];rfl⟩
theorem VV{a:sg}(h:adF a):∃l,keyOf prog 67 (.agg a.cells.toArray)=some l:=by
 obtain⟨U,F,h3⟩:=h;have c18:prog.cellsOf 67=18:=by kernel_rfl
 have c1:prog.cellsOf 3=1:=by kernel_rfl
 have c16:prog.cellsOf 65=16:=by kernel_rfl
 have E:=a.rY h3;have O:prog.keyType 67=true:=by kernel_rfl
 have hsz:2<=prog.types.size:=of_decide_eq_true (by kernel_rfl);have hf:(Value.agg a.cells.toArray).formed prog 67=true:=by simp[Value.formed,underlying67,c18,E]
 obtain⟨ls,hls⟩:=ae7 (prog.types.size-2) a.ip h3;have B:(Lit.int .i64 a.fam).wf=true:=by rcases U with e|e<;>(rw[e];decide)
 have w2:(Lit.int .i64 a.az).wf=true:=by show(decide ((-9223372036854775808:Int)<=a.az)&&decide (a.az<=9223372036854775807))=true;exact ru
 have hkl:∃l,prog.keyLits (prog.types.size+1) 67 a.cells=some l:=by
  rw[show prog.types.size+1=(prog.types.size-2)+2+1 by omega];unfold Program.keyLits;rw[underlying67];simp only;rw[if_pos ⟨by rw[c18,E],by kernel_rfl⟩];have e0:(a.cells.drop 0).take (prog.cellsOf 3)=[.int .i64 a.fam]:=by rw[c1];rfl
  have e1:(a.cells.drop 1).take (prog.cellsOf 65)=sN a.ip:=by rw[c16];show(sN a.ip++[Value.int .i64 a.az]).take 16=_;exact List.take_left' dU
  have e2:(a.cells.drop 17).take (prog.cellsOf 3)=[.int .i64 a.az]:=by rw[c1];show((sN a.ip++[Value.int .i64 a.az]).drop 16).take 1=_;rw[List.drop_left' dU];rfl
  simp only[List.mapM_cons,List.mapM_nil,e0,e1,e2,abn _ _ B,abn _ _ w2,hls];exact⟨_,I⟩
 obtain⟨l,hl2⟩:=hkl;refine⟨.string (keyBytes l),?_⟩;unfold keyOf;rw[underlying67];simp only;rw[if_pos (by rw[O,hf];rfl)];show((prog.keyLits (prog.types.size+1) 67 (Value.agg a.cells.toArray).cells.toList).map _)=_;have:(Value.agg a.cells.toArray).cells.toList=a.cells:=by simp[Value.cells]
 rw[this,hl2];rfl
theorem adu{a b:sg}(ha:a.ip.length=16)(Z:b.ip.length=16)(h:a.cells=b.cells):a=b:=by
 obtain⟨f,ip,z⟩:=a;obtain⟨f',ip',z'⟩:=b;unfold sg.cells at h;injection h with U F;simp only at ha Z U F;have h3:sN ip=sN ip'/\[Value.int .i64 z]=[Value.int .i64 z']:=List.append_inj F (by rw[sI,sI,ha,Z]);obtain⟨h3,h4⟩:=h3;injection U with _ U;injection h4 with h4 _;injection h4 with _ h4;have h5:ip=ip':=by
  unfold sN at h3;refine List.map_inj_right (f:=fun b:UInt8=>Value.int .u8 (b.toNat:Int)) ?_|>.1 h3;intro x y e;injection e with _ e;have:x.toNat=y.toNat:=by exact_mod_cast e
  exact UInt8.toNat_inj.1 this
 rw[U,h4,h5]
theorem key_inj{a b:sg}(ha:adF a)(Z:adF b){l:Lit}(h:keyOf prog 67 (.agg a.cells.toArray)=some l)(h':keyOf prog 67 (.agg b.cells.toArray)=some l):a=b:=by
 have e:=Fi.inj h h';injection e with e;exact adu ha.2.2 Z.2.2 (by simpa using congrArg Array.toList e)
def zT(w:World)(b n:Nat)(xs:List sg):Prop:=
 ∃D:DataW Unit,w.ownsMap prog 67 (plainElem prog 3) b n D/\∀a l,adF a->keyOf prog 67 (.agg a.cells.toArray)=some l->(a∈xs->∀z,D.atKey l z= .lit (.int .i64 1))/\(a∉xs->Maps.has D l=false)
theorem zT.made(w:World):zT (w.alloc (.map #[] 0)) w.heap.size 0 []:=⟨.map [],World.ownsMap_made _ _ _ _,fun a l _ _=>⟨fun h=>cX,fun _=>rfl⟩⟩
theorem zT.look{xs:List sg}(h:zT w b n xs)(a:sg)(ha:adF a):(Instr.lookup 182 (.map (some b)) (.agg a.cells.toArray) false).run prog w= .ok (.int .i64 (if a∈xs then 1 else 0)) w:=by
 obtain⟨D,ho,hf⟩:=h;obtain⟨l,E⟩:=VV ha;obtain⟨c,ai9,hat,_⟩:=ho.lookup_int Fi underlying182 underlying3 (Vg w) E;rw[ai9];by_cases hm:a∈xs
 ·rw[if_pos hm];have:=(hf a l ha E).1 hm (.lit (.int .i64 0));rw[this]at hat;exact qV
 ·rw[if_neg hm];rw[Maps.atKey_of_not_has ((hf a l ha E).2 hm)]at hat;exact qV
theorem zT.store{xs:List sg}(h:zT w b n xs)(a:sg)(ha:adF a)(hn:n<maxLen):∃w',(Instr.mapUpdate 182 (.map (some b)) (.agg a.cells.toArray) (.int .i64 1)).run prog w= .ok () w'/\zT w' b (n+1) (xs++[a])/\w.grownBy w' (some b):=by
 obtain⟨D,ho,hf⟩:=h;obtain⟨l,E⟩:=VV ha;obtain⟨w',ai9,ho',hg⟩:=ho.update Fi underlying182 hn E (plainElem_int underlying3 (a:=(1:Int)) K);have O:=Fi.key E;refine⟨w',ai9,⟨_,ho',fun a' l' ha' hl'=>⟨fun hm z=>?_,fun hm=>?_⟩⟩,hg⟩
 ·
  by_cases e:a'=a
  ·subst e;rw[E]at hl';injection hl' with hl';subst hl';exact Maps.atKey_put_same ho.isMap O _ _
  ·
   have hl:l'≠l:=lG;rw[Maps.atKey_put_other hl];rcases List.mem_append.1 hm with hm|hm
   ·exact(hf a' l' ha' hl').1 hm z
   ·exact absurd (by simpa using hm) e
 ·
  have hm1:a'∉xs:=fun c=>hm (List.mem_append.2 (.inl c))
  have e:a'≠a:=fun c=>hm (List.mem_append.2 (.inr (by simp[c])))
  have hl:l'≠l:=lG;rw[Maps.has_put_other hl];exact(hf a' l' ha' hl').2 hm1
theorem zT.kept{xs:List sg}{row:Option Nat}(h:zT w b n xs)(hg:w.grownBy w' row)(hl:some b≠row):zT w' b n xs:=by
 exact qS
theorem zT.Co{g:Nat}{xs:List sg}{t:TypeId}(h:zT w b n xs)(Z:N w g t cs):b≠g:=by
 exact pQ
end Go.Proofs.YtakkipnmpmobbaaGreat
