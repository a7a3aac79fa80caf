/-
  Drawn regions:a row of operations that reckon,or read what stays,taken in one step.
-/
import Derived.Test.YtakkipnmpmobbaaGreatIAq
namespace Go.Proofs.YtakkipnmpmobbaaGreat
open _root_.Go.Proofs.Tryz
set_option maxHeartbeats 8000000
open Go.RowKit
set_option linter.unusedVariables false
set_option linter.unusedSimpArgs false
variable {w:World} {a:Act} {P:Program} {t e:TypeId} {sz ba oa n c:Nat} {A:Option Addr}
section
variable {P:Program} {ops:Array Oper} {S:World->Prop} {hb:Exit->Act->World->Prop}
def seqB(ops:Array Oper):List Nat->Array Bool->Bool
 |[],_=>true
 |i::is,li=>(Region.free .any ops li i&&(Region.ready .any ops li).contains i)&&seqB ops is (li.setIfInBounds i true)
def aeH:List Nat->Array Bool->Array Bool
 |[],li=>li
 |i::is,li=>aeH is (li.setIfInBounds i true)
def ZP:List Oper->Nat->Option Oper
 |[],_=>none
 |o::_,0=>some o
 |_::l,i+1=>ZP l i
theorem Vr:∀(l:List Oper) (i:Nat),ZP l i=l[i]?
 |[],_=>rfl
 |_::_,0=>rfl
 |_::l,i+1=>by rw[List.getElem?_cons_succ];exact Vr l i
def sS(P:Program)(ops:Array Oper)(S:World->Prop)(al:Act->Prop):List Nat->Act->Prop
 |[],a=>al a
 |i::is,a=>∃o v,ZP ops.toList i=some o/\(Region.wanted o (yielded ops a.tmps)=true/\(∀w,S w->(execOp a.eval o).run P w= .ok (.value v) w)\/Region.wanted o (yielded ops a.tmps)=false/\v=undef)/\sS P ops S al is (a.put o.dst v)
theorem Mb(hs:Region.noSelect ops=true)(hQ:∀c a d v w,hb (.panic c) (Act.put a (some d) v) w->hb (.panic c) a w){w:World}(hS:S w):∀(is:List Nat) (li:Array Bool) (a:Act) (aeh:Nat),seqB ops is li=true->sS P ops S (fun a'=>wpAnyH P .any ops hb S aeh (aeH is li) a' w) is a->wpAnyH P .any ops hb S (aeh+is.length) li a w
 |[],li,a,aeh,_,h=>h
 |i::is,li,a,aeh,Z,hr=>by
  obtain⟨o,v,ho,hv,hr⟩:=hr;rw[Vr,Array.getElem?_toList]at ho;unfold seqB at Z;simp only[Bool.and_eq_true]at Z;have k:=Mb hs hQ hS is (li.setIfInBounds i true) (a.put o.dst v) aeh Z.2 hr;exact wpAnyH_take ho hs Z.1.1 Z.1.2 (fun c a w hq=>by
   cases hd:o.dst with
   |none=>rw[hd]at hq;exact hq
   |some d=>rw[hd]at hq;exact hQ c a _ _ w hq) hv hS k
theorem rS(hS:S w)(n:Nat)(is:List Nat){li li':Array Bool}{aeh anS:Nat}(hn:is.length=n)(Z:(Region.noSelect ops&&seqB ops is li)=true)(hQ:∀c a d v w,hb (.panic c) (Act.put a (some d) v) w->hb (.panic c) a w)(hf:aeh=anS+n)(E:aeH is li=li')
  (hr:sS P ops S (fun a'=>wpAnyH P .any ops hb S anS li' a' w) is a):wpAnyH P .any ops hb S aeh li a w:=by
 subst hn hf E;rw[Bool.and_eq_true]at Z;exact Mb Z.1 hQ hS is li a anS Z.2 hr
theorem aj{ops:Array Oper}{S:World->Prop}{al:Act->Prop}{i:Nat}{is:List Nat}{o:Oper}(v:Value)(ho:ZP ops.toList i=some o)(hw:Region.wanted o (yielded ops a.tmps)=true)(hv:∀w,S w->(execOp a.eval o).run P w= .ok (.value v) w)(h:sS P ops S al is (a.put o.dst v)):sS P ops S al (i::is) a:=⟨o,v,ho,.inl ⟨hw,hv⟩,h⟩
theorem ak{ops:Array Oper}{S:World->Prop}{al:Act->Prop}{i:Nat}{is:List Nat}{o:Oper}(v:Value)(h:sS P ops S al is (a.put o.dst v))(ho:ZP ops.toList i=some o:=by exact I)(hw:Region.wanted o (yielded ops a.tmps)=true:=by exact I)(hv:∀w,S w->(execOp a.eval o).run P w= .ok (.value v) w:=by exact fun _ _=>rfl):sS P ops S al (i::is) a:=⟨o,v,ho,.inl ⟨hw,hv⟩,h⟩
theorem rX{o:Oper}(Q:TypeId)(x:Operand)(p:Addr){v:Value}(ho:o.op= .load Q x)(hx:a.eval x= .pointer (some p))(hv:(Instr.loadAt Q (.pointer (some p))).run P w= .ok v w):(execOp a.eval o).run P w= .ok (.value v) w:=by
 exact qf
theorem wm{o:Oper}(t:TypeId)(parts:Array (Nat×Operand))(ho:o.op= .build t parts)(uY:Array (Nat×Value))(hv:parts.map (fun(i,x)=>(i,a.eval x))=uY){v:Value}(hr:(Instr.build t uY).run P w= .ok v w):(execOp a.eval o).run P w= .ok (.value v) w:=by
 exact qg
end
theorem Vs{k:Nat}(ht:prog.underlying t=some (.slice e))(hs:(prog.info? e).map (·.size)=some sz)(hz:0<sz)(O:k<n)(w:World):(Instr.indexAt t (.slice (some ⟨ba,oa,none⟩) n c) (.int .i64 k)).run prog w= .ok (.pointer (some ⟨ba,oa+k*sz,none⟩)) w:=by
 have U:(k:Int)<n:=Y;obtain⟨i,hi,adR⟩:=Option.map_eq_some_iff.1 hs;simp[Instr.indexAt,run_underlying ht,asIntOf,sizeOf,typeInfo,hi,adR,U,Addr.add];rw[if_pos O];by_cases h0:k*sz=0
 ·rw[if_pos h0,h0];rfl
 ·rw[if_neg h0]
theorem vi{k:Nat}{o:Oper}(ht:prog.underlying t=some (.slice e))(hs:(prog.info? e).map (·.size)=some sz)(hz:0<sz)(x y:Operand)(ho:o.op= .indexAddr t x y)(hx:a.eval x= .slice (some ⟨ba,oa,none⟩) n c)(hy:a.eval y= .int .i64 k)(O:k<n)(w:World):(execOp a.eval o).run prog w= .ok (.value (.pointer (some ⟨ba,oa+k*sz,none⟩))) w:=by
 have hr:=Vs (ba:=ba) (oa:=oa) (c:=c) ht hs hz O w;unfold execOp;simp only[ho,hx,hy,Sem.run_bind,hr,Result.andThen_ok,Sem.run_pure]
theorem uN{b o:Nat}{sub:List Value}{Q:TypeId}{d:TypeDesc}(h:w.rangeAt b o sub)(hu:prog.underlying Q=some d)(hd:d.isRow=true)(hi:(prog.info? Q).map (·.size)=some sub.length):(Instr.loadAt Q (.pointer (some ⟨b,o,none⟩))).run prog w= .ok (.agg sub.toArray) w:=run_loadAt_mid w b o Q sub d h hu hd hi
set_option maxRecDepth 100000
def Ps(p:sg×Int):List Value:=p.1.cells++[.int .i64 p.2]
def pfZ:List Value:=Ps (sg.zero,0)
theorem Df{p:sg×Int}(h:p.1.ip.length=16):(Ps p).length=19:=by simp[Ps,p.1.rY h]
theorem acw(p:sg×Int):∀v∈Ps p,v.oneCell'=true:=by
 intro v hv;rcases List.mem_append.1 hv with h|h
 ·exact p.1.tm v h
 ·simp at h;subst h;rfl
theorem ZQ{p:sg×Int}(h:p.1.ip.length=16):((Ps p).drop 0).take 18=p.1.cells:=by rw[List.drop_zero];exact List.take_left' (p.1.rY h)
theorem ZR{p:sg×Int}(h:p.1.ip.length=16):(Ps p)[18]?=some (.int .i64 p.2):=by
 unfold Ps;rw[List.getElem?_append_right (by rw[p.1.rY h];omega),p.1.rY h];rfl
theorem Mc:(prog.info? 112).map (·.size)=some 19:=by kernel_rfl
theorem ER:(prog.info? 112).map (fun i=>(i.zero,i.size,i.bytes))=some (some (.agg pfZ.toArray),19,40):=by kernel_rfl
def Md(cs:List Value)(p:sg×Int):Prop:=cs=Ps p/\p.1.ip.length=16
abbrev acx(w:World)(Hh:Nat)(v:Value)(l:List (sg×Int)):Prop:=rJ w Hh 112 19 Md v l
abbrev acy(w:World)(A:Option Addr)(l:List (sg×Int)):Prop:=wH w 19 Md A l
def GU(a:sg):Int:=if a.fam=4 then 32 else if a.fam=6 then 128 else 0
def Gb(p:sg×Int):Int:=if p.1.check≠0 then p.1.check else if p.2<0\/GU p.1<p.2 then 4 else 0
def Qw(p:sg×Int):Bool:=Gb p==0
theorem ZS(a:sg)(h:a.ip.length=16)(w:World):Calls prog 99 #[.agg a.cells.toArray] w (rW (.int .i64 (GU a)) w):=by
 have c0:=(N.new w 67 a.cells).rD 0 (u:=.int .i64 a.fam) I;have HB:Below w.heap.size w (w.alloc (.cells a.cells.toArray 67)):=fZ;have al:GU a=if a.fam=4 then 32 else if a.fam=6 then 128 else 0:=rfl
 have HK:=J al;clear al h;generalize a.cells=L,a.fam=f at*;go_enter func99,ntmps99;exact nL
theorem Xd(p:sg×Int)(h:p.1.ip.length=16)(w:World):Calls prog 85 #[.agg (Ps p).toArray] w (rW (.int .i64 (Gb p)) w):=by
 have hcl:=Df h;have hca:=ZQ h;have Hh:=N.new w 112 (Ps p);have c18:=Hh.rD 18 (ZR h);have AC:=J (fun W=>yt p.1 h W);have BA:=J (fun W=>ZS p.1 h W);have HB:Below w.heap.size w (w.alloc (.cells (Ps p).toArray 112)):=fZ;have al:Gb p=if p.1.check≠0 then p.1.check else if p.2<0\/GU p.1<p.2 then 4 else 0:=rfl
 have HK:=J al;have HCA:=J hca;clear al h hca;generalize Ps p=L at*;generalize p.1.cells=M,p.1.check=ck at*;generalize GU p.1=bt at*;generalize p.2=n at*;go_enter func85,ntmps85;go_wp2_with(refine rF (.load 67 (.tmp 4)) I ?_;go_must(refine rG I _ _ I w.heap.size 0 I Hh 18 Y _ underlying67 I uq M HCA.out ?_));refine(AC.out _).mono ?_;rintro _ B ⟨rfl,b1⟩;have B1:=Hh.G b1 Hh.lt;have H1:=rC HB HB.size b1;have p18:L[18]?=some (.int .i64 n):=by rw[<-Hh.cell 18];exact c18
 clear b1 c18 HB AC;by_cases hck:ck=0
 case neg=>have alp:(ck !=0)=true:=iD;rw[if_pos hck]at HK;clear hck Hh;go_wp2_with fail;go_ret;exact rW.mk bK H1
 have alp:(ck !=0)=false:=iD;rw[if_neg (by simpa using hck)]at HK;have LD:Hid (∀V,ao B V->(Instr.loadAt 3 (.pointer (some ⟨w.heap.size,18,none⟩))).run prog V= .ok (.int .i64 n) V):=jk;have LA:Hid (∀V,ao B V->(Instr.loadAt 67 (.pointer (some ⟨w.heap.size,0,none⟩))).run prog V= .ok (.agg M.toArray) V):=iT;clear hck Hh;go_wp2_with fail;by_cases hn:n<0
 case pos=>
  have hn':decide (n<0)=true:=iV;rw[if_pos (.inl hn)]at HK;refine wp_region_held_drew (S:=fun V=>ao B V) (by kernel_rfl) (Below.refl _ _).drew (fun hS=>?_);refine rS hS 11 [0,1,2,3,4,5,6,7,8,9,10] I (by kernel_rfl) (fun _ _ _ _ _ h=>h) I I ?_;repeat(refine ak _ ?_;simp only[X])
  (refine aj _ I I (fun V hV=>(rX 3 (.tmp 10) ⟨w.heap.size,18,none⟩ I I (LD.out V hV))) ?_;simp only[X])
  repeat(refine ak _ ?_;simp only[X])
  simp only[hn'];repeat(refine⟨_,undef,I,.inr ⟨I,I⟩,?_⟩;simp only[X])
  repeat(refine ak _ ?_;simp only[X])
  simp only[sS];refine wpAnyH_done (by kernel_rfl) ?_ _;go_wp2_with fail;go_ret;exact rW.mk bK (rC H1 H1.size hS)
 have hn':decide (n<0)=false:=iV;refine wp_region_held_drew (S:=fun V=>ao B V) (by kernel_rfl) (Below.refl _ _).drew (fun hS=>?_);refine rS hS 8 [0,1,2,3,4,5,6,7] I (by kernel_rfl) (fun _ _ _ _ _ h=>h) I I ?_;repeat(refine ak _ ?_;simp only[X])
 (refine aj _ I I (fun V hV=>(rX 3 (.tmp 10) ⟨w.heap.size,18,none⟩ I I (LD.out V hV))) ?_;simp only[X])
 repeat(refine ak _ ?_;simp only[X])
 simp only[hn'];repeat(refine ak _ ?_;simp only[X])
 (refine aj _ I I (fun V hV=>(rX 3 (.tmp 14) ⟨w.heap.size,18,none⟩ I I (LD.out V hV))) ?_;simp only[X])
 repeat(refine ak _ ?_;simp only[X])
 (refine aj _ I I (fun V hV=>(rX 67 (.tmp 16) ⟨w.heap.size,0,none⟩ I I (LA.out V hV))) ?_;simp only[X])
 simp only[sS];refine su 8 (some 18) 99 #[.agg M.toArray] (by kernel_rfl) I I (by kernel_rfl) bc (BA.out _) ?_;rintro _ w2 ⟨rfl,b2⟩;refine⟨_,I,rC hS hS.size b2,?_⟩;have hS:=rC hS hS.size b2;simp only[X];refine rS hS 2 [9,10] I (by kernel_rfl) (fun _ _ _ _ _ h=>h) I I ?_;repeat(refine ak _ ?_;simp only[X])
 simp only[sS];refine wpAnyH_done (by kernel_rfl) ?_ _;have HE:Hid (Gb p=if bt<n then 4 else 0):=J (by rw[HK.out];by_cases h:bt<n<;>simp[h,hn]);clear HK LD LA b2 B1;by_cases Z:bt<n;all_goals
  go_wp2_with fail;go_ret;exact rW.mk (by rw[HE.out];first|(rw[if_pos Z];rfl)|(rw[if_neg Y];rfl)) (rC H1 H1.size hS)
theorem KJ(p:sg×Int)(h:p.1.ip.length=16)(w:World):Calls prog 58 #[.agg (Ps p).toArray] w (rW (.bool (Qw p)) w):=by
 have hcl:=Df h;have AC:=J (fun W=>Xd p h W);have al:Qw p=(Gb p==0):=rfl;have HK:=J al;clear al;generalize Ps p=L at*;generalize Gb p=ck at*;have HB:Below w.heap.size w (w.alloc (.cells L.toArray 112)):=fZ;go_enter func58,ntmps58;go_wp2_with(refine rF (.load 112 (.tmp 1)) I ?_;go_must(refine rG I _ _ I w.heap.size 0 I (N.new w 112 L) 19 Y _ underlying112 I Mc L (uH Y) ?_));exact pB
theorem Xe(A:Option Addr)(c:Nat)(l:List (sg×Int))(m:Nat)(w:World)(hA:acy w A l)(E:l.length<=17592186044416)(hm:m<=100):
  Calls prog 57 #[.slice A l.length c,.int .i64 m,.func (.func 58) #[] #[]] w (wC 112 19 (fun _=>Md) (sL Qw l m) w):=by
 have amn:pfZ.length=19:=rfl;obtain⟨p,hp⟩:∃p,p=Qw:=gh;have MS:=J (fun a h W=>KJ a h W);rw[<-hp]at MS⊢;clear hp;go_enter func57,ntmps57;go_wp2_with fail;go_loopw[7,12] (fun kv iv wr=>∃k:Nat,k<=l.length/\iv= .int .i64 k/\acx wr w.heap.size kv ((l.take k).filter p)/\((l.take k).filter p).length<=m/\ao w wr) (fun _ iv _=>l.length-(intOf iv).toNat)
 case atStart=>exact⟨0,Nat.zero_le _,I,rJ.nil _ _ _ _ _,ar,Below.refl _ _⟩
 obtain⟨k,O,rfl,ho,hle,hB⟩:=hrel;obtain⟨Ak,ck,hv⟩:=ho.form;subst hv;by_cases aA:k<l.length
 case neg=>exact mG
 have h1:(k:Int)<l.length:=Y;obtain⟨b,off,rfl,Z,hr⟩:=hA Y;obtain⟨cs,hcs,hce,rB⟩:=hr k aA;have hcs:=rN hcs hB Z;have hcl:cs.length=19:=lT;have w1:∀v∈cs,v.oneCell'=true:=lZ;have MK:Hid (∀W,Calls prog 58 #[.agg cs.toArray] W (rW (.bool (p l[k])) W)):=kR;have HC:=J hce;have HO:=J ho;have HI:=J rB;clear hce rB hr ho hA;have W1:Below wr.heap.size wr (wr.alloc (.cells pfZ.toArray 112)):=fZ;by_cases aj8:((l.take k).filter p).length<m
 case neg=>
  have ag2:¬(((l.take k).filter p).length:Int)<m:=Y;go_wp2_with(first
   |(refine rF (.load 112 (.tmp 14)) rfl ?_;go_must(refine sr rfl 112 (.tmp 14) rfl b (off+k*19) rfl cs hcs _ underlying112 rfl bX ?_))
   |(refine rF (.store 112 (.tmp 9) (.tmp 15)) rfl (ab rfl wr.heap.size 0 cs (N.new wr 112 pfZ) bQ bX w1 ?_)))
  intro B B1 g1 _;have H1:=rE (rC hB hB.size W1) g1 aS hB.size;have K1:=rE W1 g1 W1.size (Nat.le_refl _);clear g1 B1 W1;go_wp2_with fail;go_ret;refine⟨_,I,?_,H1⟩;have e:((l.take k).filter p).length=m:=Y;rw[xz e];exact rJ.G (R':=Md) HO.out K1 (fun _ _ h=>h)
 have ag2:(((l.take k).filter p).length:Int)<m:=Y;go_wp2_with(first
  |(refine rF (.load 112 (.tmp 14)) rfl ?_;go_must(refine sr rfl 112 (.tmp 14) rfl b (off+k*19) rfl cs hcs _ underlying112 rfl bX ?_))
  |(refine rF (.store 112 (.tmp 9) (.tmp 15)) rfl (ab rfl wr.heap.size 0 cs (N.new wr 112 pfZ) bQ bX w1 ?_)))
 intro B B1 g1 _;have B1':=tH B1 Y;have H1:=rE (rC hB hB.size W1) g1 aS hB.size;clear B1;go_wp2_with(refine rF (.load 112 (.tmp 9)) I ?_;go_must(refine rG I _ _ I wr.heap.size 0 I B1' 19 Y _ underlying112 I Mc cs (uH Y) ?_));refine(MK.out _).mono ?_;rintro _ w2 ⟨rfl,b2⟩;have B2:=B1'.G b2 B1'.lt;have H2:=rC H1 H1.size b2;have K2:=rC (rE W1 g1 W1.size (Nat.le_refl _)) bS b2;have O2:=rJ.G (R':=Md) HO.out K2 (fun _ _ h=>h);have FS:=J (ux (p:=p) aA);have hlen:((l.take k).filter p).length+1<=200:=Y;clear MS MK hcs W1 g1 b2 B1' HO H1;cases hpk:p l[k]with
 |false=>exact mP
 |true=>
  rw[hpk]at FS;have HP:=J hpk;have K3:Below w2.heap.size w2 (w2.alloc (.cells cs.toArray 112)):=fZ;have O3:=rJ.G (R':=Md) O2 K3 (fun _ _ h=>h);have N3:=O2.ne (Nat.le_refl _);clear hpk;go_wp2_with(first
   |(refine rF (.load 112 (.tmp 9)) rfl ?_;go_must(refine rG rfl _ _ rfl wr.heap.size 0 rfl B2 19 Y _ underlying112 rfl Mc cs (uH Y) ?_))
   |(refine rF (.buildSlice 27 1 #[(0,.tmp 24)]) rfl ?_;go_must(refine uT rfl 27 112 _ 19 40 underlying27 ER K K (.tmp 24) rfl cs rfl hcl ?_))
   |(at_builtin;go_must(refine sJ _ rfl _ _ 27 rfl 112 _ 19 40 underlying27 ER (by kernel_rfl) K w.heap.size _ _ rfl O3 bU w2.heap.size cs l[k] rfl (N.new _ _ _) N3 hcl w1 ⟨HC.out,HI.out⟩ aL Y ?_)))
  exact mH
def Ii(w:World)(cs:List Value)(n:List (List UInt8)):Prop:=∃A c,cs=[.slice A n.length c]/\wA w A c n
abbrev Ub(w0 w:World)(Hh:Nat)(v:Value)(l:List (List (List UInt8))):Prop:=rJ w Hh 24 1 (Ii w0) v l
theorem xA{w':World}{l:List (List (List UInt8))}(h:Cb w A l)(Z:ao w w'):Cb w' A l:=by
 intro hp;obtain⟨b,off,U,F,h3⟩:=h hp;refine⟨b,off,U,Nat.lt_of_lt_of_le F Z.size,fun i hi=>?_⟩;obtain⟨Ai,ci,h4,h5⟩:=h3 i hi;exact⟨Ai,ci,(Z.cell (p:=⟨b,off+i,none⟩) F).trans h4,h5.G Z⟩
def xu(n:List (List UInt8)):Bool:=decide (0<n.length)&&(rR n==0)
theorem EU:(prog.info? 24).map (fun i=>(i.zero,i.size,i.bytes))=some (some rI,1,24):=by kernel_rfl
theorem GV(A:Option Addr)(c:Nat)(n:List (List UInt8))(hm:n.length<=281474976710656)(w:World)(h:zN w A n):Calls prog 56 #[.slice A n.length c] w (uQ (.bool (xu n)) w):=by
 have DC:=J (wK A c n w h hm);have al:xu n=(decide (0<n.length)&&(rR n==0)):=rfl;have HK:=J al;clear al h;generalize rR n=ck at*;go_enter func56,ntmps56;by_cases h0:0<n.length
 case neg=>have h0':decide (0<n.length)=false:=gL;have e:n.length=0:=Y;rw[e]at DC⊢;rw[h0']at HK;clear h0 h0' e;go_wp2_with fail;go_ret;exact uQ.mk bK I
 have h0':(0:Int)<n.length:=Y;have av3:decide (0<n.length)=true:=gL;rw[av3]at HK;clear av3;go_wp2_with fail;refine DC.out.mono ?_;rintro _ B ⟨rfl,rfl⟩;go_wp2_with fail;go_ret;exact uQ.mk bK I
theorem Qx(w0:World)(A:Option Addr)(c:Nat)(l:List (List (List UInt8)))(m:Nat)(w:World)(hA:wH w 1 (Ii w0) A l)(hw:ao w0 w)(E:l.length<=17592186044416)(hm:m<=100):
  Calls prog 55 #[.slice A l.length c,.int .i64 m,.func (.func 56) #[] #[]] w (wC 24 1 (fun _=>Ii w0) (sL xu l m) w):=by
 obtain⟨p,hp⟩:∃p,p=xu:=gh;have MS:=J (fun A c n W U F=>GV A c n W U F);rw[<-hp]at MS⊢;clear hp;go_enter func55,ntmps55;go_wp2_with fail;go_loopw[7,12] (fun kv iv wr=>∃k:Nat,k<=l.length/\iv= .int .i64 k/\Ub w0 wr w.heap.size kv ((l.take k).filter p)/\((l.take k).filter p).length<=m/\ao w wr) (fun _ iv _=>l.length-(intOf iv).toNat)
 case atStart=>exact⟨0,Nat.zero_le _,I,rJ.nil _ _ _ _ _,ar,Below.refl _ _⟩
 obtain⟨k,O,rfl,ho,hle,hB⟩:=hrel;obtain⟨Ak,ck,hv⟩:=ho.form;subst hv;by_cases aA:k<l.length
 case neg=>exact mG
 have h1:(k:Int)<l.length:=Y;obtain⟨b,off,rfl,Z,hr⟩:=hA Y;obtain⟨cs0,ahi,An,cn,rfl,hnm⟩:=hr k aA;have hBW:=rC hw hw.size hB;have ce:=(hB.cell (p:=⟨b,off+k,none⟩) Z).trans bY;clear ahi;have hln:=hnm.2.2.1;have MK:=J (MS.out An cn l[k] Y wr (hnm.G hBW).1);have HO:=J ho;have HI:=J hnm;clear hr ho hA MS hnm hBW hw;by_cases aj8:((l.take k).filter p).length<m
 case neg=>exact oH
 have ag2:(((l.take k).filter p).length:Int)<m:=Y;have FS:=J (ux (p:=p) aA);have hlen:((l.take k).filter p).length+1<=200:=Y;have NI:Hid (Ii w0 [.slice An l[k].length cn] l[k]):=J ⟨An,cn,I,HI.out⟩;generalize l[k].length=nl at*;go_wp2_with fail;refine MK.out.mono ?_;rintro _ w2 ⟨rfl,rfl⟩;clear MK;cases hpk:p l[k]with
 |false=>exact ot
 |true=>rw[hpk]at FS;have HP:=J hpk;have K3:Below wr.heap.size wr (wr.alloc (.cells #[.slice An nl cn] 24)):=fZ;have N3:=HO.out.ne (Nat.le_refl _);clear hpk;go_wp2_with(at_builtin;go_must(refine sJ _ I _ _ 26 I 24 _ 1 24 underlying26 EU (by kernel_rfl) K w.heap.size _ _ I (rJ.G (R':=Ii w0) HO.out K3 (fun _ _ h=>h)) aS wr.heap.size [.slice An nl cn] l[k] I (N.new _ _ _) N3 I aO NI.out aL Y ?_));intro v' w4 O4 g4;have H4:=(rC hB hB.size K3).grown g4 aS HO.out.base;clear g4 K3 N3;exact mL
theorem Cb.Ma{w0:World}{l:List (List (List UInt8))}(h:Cb w0 A l)(hw:ao w0 w):wH w 1 (Ii w0) A l:=by
 intro hp;obtain⟨b,off,U,F,h3⟩:=h hp;refine⟨b,off,U,Nat.lt_of_lt_of_le F hw.size,fun i hi=>?_⟩;obtain⟨Ai,ci,h4,h5⟩:=h3 i hi;refine⟨[.slice Ai l[i].length ci],fun j v hv=>?_,Ai,ci,I,h5⟩;match j,hv with
 |0,hv=>injection hv with hv;subst hv;simpa using(hw.cell (p:=⟨b,off+i,none⟩) F).trans h4
theorem Xf(w0:World)(A:Option Addr)(c:Nat)(l:List (List (List UInt8)))(m:Nat)(w:World)(hA:Cb w0 A l)(hw:ao w0 w)(E:l.length<=17592186044416)(hm:m<=100):
  Calls prog 55 #[.slice A l.length c,.int .i64 m,.func (.func 56) #[] #[]] w (wC 24 1 (fun _=>Ii w0) (sL xu l m) w):=Qx w0 A c l m w (hA.Ma hw) hw E hm
end Go.Proofs.YtakkipnmpmobbaaGreat
