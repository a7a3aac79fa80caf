/-
  Layer 23 (plan):held,Servers.
-/
import Derived.Test.YtakkipnmpmobbaaGreatICq
import Derived.OwnWalk
namespace Go.Proofs.YtakkipnmpmobbaaGreat
open _root_.Go.Proofs.Tryz
set_option maxHeartbeats 8000000
open Go.RowKit
set_option maxRecDepth 100000
set_option linter.unusedVariables false
set_option linter.unusedSimpArgs false
variable {w0 w':World} {P:Program} {o:Oper} {a:Act} {v v':Value} {Hh c:Nat} {A:Option Addr}
def afV(w0:World)(r:Rs)(w:World)(e:Ending)(w':World):Prop:=∃cs,e= .returned (.agg cs.toArray)/\Jw w0 w' cs r/\ao w w'
theorem Jw.len{w:World}{cs:List Value}{r:Rs}(h:Jw w0 w cs r):cs.length=10:=by obtain⟨_,_,_,rfl,_⟩:=h;rfl
theorem yc.len{w:World}{cs:List Value}{r:Rs}(h:yc w cs r):cs.length=10:=by obtain⟨_,_,_,_,_,_,rfl,_⟩:=h;rfl
theorem yc.G{w:World}{cs:List Value}{r:Rs}(h:yc w cs r)(Z:ao w w'):yc w' cs r:=by
 obtain⟨A1,c1,A2,c2,A3,c3,h0,U,F,h3,l⟩:=h;exact⟨A1,c1,A2,c2,A3,c3,h0,U.mono Z (fun _ _ h=>h),xA F Z,h3.mono Z (fun _ _ h=>h),l⟩
theorem Jw.G{w:World}{cs:List Value}{r:Rs}(h:Jw w0 w cs r)(Z:ao w w'):Jw w0 w' cs r:=by
 obtain⟨v1,v2,v3,h0,U,F,h3⟩:=h;exact⟨v1,v2,v3,h0,rJ.G U Z (fun _ _ h=>h),rJ.G F Z (fun _ _ h=>h),rJ.G h3 Z (fun _ _ h=>h)⟩
theorem Jw.fr{S:Nat->Prop}{w:World}{cs:List Value}{r:Rs}(h:Jw w0 w cs r)(Z:Fr S w w'):Jw w0 w' cs r:=by
 obtain⟨v1,v2,v3,h0,U,F,h3⟩:=h;have k:∀e:TypeId,¬KH e->∀{s n v xs},w.ownsRow 0 e s v n xs->w'.ownsRow 0 e s v n xs:=fun e he _ _ _ _ x=>Z.own x he
 exact⟨v1,v2,v3,h0,U.rM (fun _ x=>k _ bV x) (fun _ _ h=>h),F.rM (fun _ x=>k _ bV x) (fun _ _ h=>h),h3.rM (fun _ x=>k _ bV x) (fun _ _ h=>h)⟩
theorem Jw.is{w:World}{cs:List Value}{r:Rs}(h:Jw w0 w cs r)(hw:ao w0 w)(l1:r.sv.length<=17592186044416)(l2:r.se.length<=17592186044416)(l3:r.so.length<=17592186044416):yc w cs r:=by
 obtain⟨v1,v2,v3,h0,U,F,h3⟩:=h;obtain⟨A1,c1,rfl⟩:=U.form;obtain⟨A2,c2,rfl⟩:=F.form;obtain⟨A3,c3,rfl⟩:=h3.form;refine⟨A1,c1,A2,c2,A3,c3,h0,U.Ma (fun _ _ h=>h.len),?_,h3.Ma (fun _ _ h=>by rw[h.1];exact Df h.2),l1,l2,l3⟩;intro hp;obtain⟨b,off,k1,k2,k3⟩:=F.Ma (fun _ _ ⟨_,_,h,_⟩=>by rw[h];rfl) hp;refine⟨b,off,k1,k2,fun i hi=>?_⟩;obtain⟨cs,k4,A,c,rfl,k5⟩:=k3 i hi;exact⟨A,c,by have:=k4 0 _ I;simpa using this,k5.G hw⟩
theorem JC(A1 A2 A3:Option Addr)(n1 c1 n2 c2 n3 c3:Nat)(r:Rs)(W:World):(Instr.build 33 #[(0,.agg (zQ (.slice A1 n1 c1) (.slice A2 n2 c2) (.slice A3 n3 c3) r).toArray)]).run prog W= .ok (.agg (zQ (.slice A1 n1 c1) (.slice A2 n2 c2) (.slice A3 n3 c3) r++[rI,rI,rI]).toArray) W:=by kernel_rfl
theorem aaM(a b c d e f g h i j v1 v2 v3:Value)(W:World):(Instr.field 33 (.agg ([a,b,c,d,e,f,g,h,i,j]++[v1,v2,v3]).toArray) 0).run prog W= .ok (.agg [a,b,c,d,e,f,g,h,i,j].toArray) W:=by kernel_rfl
theorem Il(cs:List Value)(h:cs.length=10)(v1 v2 v3:Value)(W:World):(Instr.field 33 (.agg (cs++[v1,v2,v3]).toArray) 0).run prog W= .ok (.agg cs.toArray) W:=by
 match cs,h with
 |[a,b,c,d,e,f,g,h,i,j],_=>exact aaM ..
theorem Bl{ops:Array Oper}{rest:List Oper}{w:World}{hb:Exit->Act->World->Prop}(hgd:o.guard=none)(t:TypeId)(x:Operand)(f:Nat)(ho:o.op= .field t x f)(hx:a.eval x=v)(hr:(Instr.field t v f).run P w= .ok v' w)(h:wpList P ops hb rest (a.put o.dst v') w):wpList P ops hb (o::rest) a w:=by
 exact pa
theorem Bm(w0:World)(cs:List Value)(r:Rs)(w:World)(h:yc w0 cs r)(hw:ao w0 w):Calls prog 46 #[.agg cs.toArray] w (afV w0 (rT r) w):=by
 have E:=h.len;have HD:=J (fun W Z=>Hf w0 cs r W h (rC hw hw.size Z));have RB:Hid (∀W,(Instr.build 33 #[(0,.agg cs.toArray)]).run prog W= .ok (.agg (cs++[rI,rI,rI]).toArray) W):=gP;clear h hw;have HX:Below w.heap.size w ((w.alloc (.cells cs.toArray 29)).alloc (.cells (zQ rI rI rI ⟨[],[],[],0,0,0,false,false,false,false⟩).toArray 29)):=gF;have B1:=(N.new w 29 cs).alloc (.cells (zQ rI rI rI ⟨[],[],[],0,0,0,false,false,false,false⟩).toArray 29);have B2:=N.uE (w.alloc (.cells cs.toArray 29)) 29 (zQ rI rI rI ⟨[],[],[],0,0,0,false,false,false,false⟩) (w.heap.size+1) ar;have hz:(zQ rI rI rI ⟨[],[],[],0,0,0,false,false,false,false⟩).length=10:=rfl;have hg:w.heap.size<=w.heap.size+1:=Y;obtain⟨W0,hW⟩:∃W0,W0=(w.alloc (.cells cs.toArray 29)).alloc (.cells (zQ rI rI rI ⟨[],[],[],0,0,0,false,false,false,false⟩).toArray 29):=gh;have HW:=J hW;rw[<-hW]at HX B1 B2;clear hW;go_enter func46,ntmps46;go_wp2_with(first
  |(refine rF (.load 29 (.tmp 1)) rfl ?_;go_must(refine rG rfl _ _ rfl w.heap.size 0 rfl ((N.new w 29 cs).alloc _) 10 Y _ underlying29 rfl wE cs (uH Y) ?_))
  |(refine rF (.build 33 #[(0,.tmp 3)]) rfl ?_;go_must(refine sy rfl 33 _ rfl #[(0,.agg cs.toArray)] cY (RB.out _) ?_)))
 refine(HD.out _ (by rw[HW.out]at HX;exact HX)).mono ?_;rintro _ B ⟨cs1,v1,v2,v3,rfl,ho,b1⟩;have b1':ao W0 B:=by rw[HW.out];exact b1
 have B2':=B2.G b1' B2.lt;have H1:=rC HX HX.size b1';have hl1:=ho.len;have ho1:=J ho.one;have HO:=J ho;clear b1 b1' B1 B2 ho HX HW HD RB;generalize w.heap.size+1=g2 at*;go_wp2_with(first
  |(refine rF (.field 33 (.tmp 5) 0) rfl ?_;go_must(refine Bl rfl 33 (.tmp 5) 0 rfl rfl (Il cs1 hl1 v1 v2 v3 _) ?_))
  |(refine rF (.store 29 (.tmp 2) (.tmp 6)) rfl (ab rfl g2 0 cs1 B2' Y dg ho1.out ?_)))
 intro w2 B3 g3 _;have B3':=tH B3 Y;have H2:=rE H1 g3 H1.size hg;go_wp2_with fail;refine tx I g2 I B3' _ underlying29 I dg I ?_;refine⟨cs1,I,?_,H2⟩;obtain⟨u1,u2,u3,h0,U,F,h3⟩:=HO.out;exact⟨u1,u2,u3,h0,U.sD g3 B2' K,F.sD g3 B2' K,h3.sD g3 B2' K⟩
def zq(l:List sg):List Value:=(l.map sg.cells).flatten
theorem JD(a b:List sg):zq (a++b)=zq a++zq b:=by simp[zq]
theorem zr:∀(l:List sg),(∀a∈l,a.ip.length=16)->(zq l).length=l.length*18
 |[],_=>rfl
 |a::l,h=>by
  have U:=zr l (fun x hx=>h x (List.mem_cons_of_mem _ hx));have F:=a.rY (h a (List.mem_cons_self ..));show(a.cells++zq l).length=_;rw[List.length_append,U,F,List.length_cons];omega
theorem Rc(l:List sg):∀v∈zq l,v.oneCell'=true:=by
 intro v hv;obtain⟨c,hc,hv⟩:=List.mem_flatten.1 hv;obtain⟨a,_,rfl⟩:=List.mem_map.1 hc;exact a.tm v hv
theorem JE:∀{css:List (List Value)} {l:List sg},wO xH css l->css.flatten=zq l/\∀a∈l,a.ip.length=16
 |[],[],_=>⟨I,ar⟩
 |cs::css,a::l,h=>by
  obtain⟨U,F⟩:=JE h.2;obtain⟨h3,h4⟩:=h.1;refine⟨?_,?_⟩
  ·show cs++css.flatten=a.cells++zq l;rw[U,h3]
  ·
   intro x hx;rcases List.mem_cons.1 hx with rfl|hx
   ·exact h4
   ·exact F x hx
theorem VF:∀(l:List sg),(∀a∈l,a.ip.length=16)->wO xH (l.map sg.cells) l
 |[],_=>trivial
 |a::l,h=>⟨⟨I,h a (List.mem_cons_self ..)⟩,VF l (fun x hx=>h x (List.mem_cons_of_mem _ hx))⟩
theorem uG.ip{w:World}{l:List sg}(h:uG w Hh v l):∀a∈l,a.ip.length=16:=by obtain⟨css,_,F⟩:=h;exact(JE F).2
theorem uG.own{w:World}{l:List sg}(h:uG w Hh v l):w.ownsRow Hh 67 18 v l.length (zq l):=by obtain⟨css,U,F⟩:=h;rw[(JE F).1]at U;exact U
theorem uG.mk{w:World}{l:List sg}(h:w.ownsRow Hh 67 18 v l.length (zq l))(hi:∀a∈l,a.ip.length=16):uG w Hh v l:=⟨l.map sg.cells,h,VF l hi⟩
theorem uG.piece{w:World}{l:List sg}(h:uG w Hh (.slice A l.length c) l)(k n:Nat)(O:k+n<=l.length)(E:0<l.length):∃g,A=some ⟨g,0,none⟩/\g<w.heap.size/\w.rangeAt g (0+k*18) (zq ((l.drop k).take n)):=by
 have hi:=h.ip;have ho:=h.own;obtain⟨g,L,hA,Z,ht,_⟩:=wU ho E (zr l hi);refine⟨g,hA,Z.lt,?_⟩;have e:l=l.take k++((l.drop k).take n++(l.drop k).drop n):=by rw[List.take_append_drop,List.take_append_drop]
 have U:(zq (l.take k)).length=k*18:=by rw[zr _ (fun a ha=>hi a (List.mem_of_mem_take ha))];simp;omega
 have F:(zq ((l.drop k).take n)).length=n*18:=by rw[zr _ (fun a ha=>hi a (List.mem_of_mem_drop (List.mem_of_mem_take ha)))];simp;omega
 have ajw:(L.drop (k*18)).take (n*18)=zq ((l.drop k).take n):=by
  have e2:(L.take (l.length*18)).drop (k*18)=(L.drop (k*18)).take (l.length*18-k*18):=List.drop_take ..;have e3:((L.take (l.length*18)).drop (k*18)).take (n*18)=zq ((l.drop k).take n):=by
   rw[ht]
   conv=>lhs;rw[e,JD,JD]
   rw[<-U,List.drop_left,<-F,List.take_left]
  rw[e2,List.take_take,Nat.min_eq_left (by have:=Nat.mul_le_mul_right 18 O;rw[Nat.add_mul]at this;omega)]at e3;exact e3
 rw[<-ajw,Nat.zero_add];refine Z.range _ _ ?_;have hLl:l.length*18<=L.length:=by have:=congrArg List.length ht;rw[zr l hi,List.length_take]at this;omega
 have:=Nat.mul_le_mul_right 18 O;rw[Nat.add_mul]at this;omega
theorem acY{w:World}{e:TypeId}{s:Nat}{n:Nat}{xs:List Value}(h:w.ownsRow Hh e s (.slice A n c) n xs):n<=c:=by
 rcases h.2 with⟨h,h0⟩|⟨g,cap,cur,hv,_,_,hc,_⟩
 ·injection h with _ _ h;omega
 ·injection hv with _ _ h;omega
def CJ(r:Rs)(turn:Int):Nat:=if r.ro then(IntKind.u64.wrap turn% (rT r).sv.length).toNat else 0
def xj(r:Rs)(turn:Int):List sg:=(rT r).sv.drop (CJ r turn)++(rT r).sv.take (CJ r turn)
theorem Fb(r:Rs):0<(rT r).sv.length/\(rT r).sv.length<=3:=by
 unfold rT;simp only;split
 ·exact⟨ar,ar⟩
 ·rename_i h;refine⟨List.length_pos_iff.2 h,?_⟩;unfold sL;simp;omega
theorem VG(r:Rs)(turn:Int):CJ r turn<(rT r).sv.length:=by
 have h:=(Fb r).1;unfold CJ;split
 ·have U:=Int.emod_lt_of_pos (IntKind.u64.wrap turn) (show(0:Int)<(rT r).sv.length by omega);have F:=Int.emod_nonneg (IntKind.u64.wrap turn) (show((rT r).sv.length:Int)≠0 by omega);omega
 ·exact h
theorem afW:∃i,prog.info? 67=some i/\i.zero=some (.agg sg.zero.cells.toArray)/\i.size=18/\i.bytes=32:=info_parts vg
def aeP(l:List sg)(w:World)(e:Ending)(w':World):Prop:=∃v,e= .returned v/\uG w' 0 v l/\ao w w'
theorem Re(w0:World)(cs:List Value)(r:Rs)(turn:Int)(w:World)(h:yc w0 cs r)(hw:ao w0 w):Calls prog 80 #[.agg cs.toArray,.int .i64 turn] w (aeP (xj r turn) w):=by
 have E:=h.len;have HD:=J (fun W Z=>Bm w0 cs r W h (rC hw hw.size Z));obtain⟨hn0,hn3⟩:=Fb r;have hat:=VG r turn;have HT:Hid (CJ r turn=if r.ro then(IntKind.u64.wrap turn% (rT r).sv.length).toNat else 0):=jO;have HS:Hid (xj r turn=(rT r).sv.drop (CJ r turn)++(rT r).sv.take (CJ r turn)):=jO;have hro:(rT r).ro=r.ro:=rfl;have HRO:=J hro;clear h hw hro;generalize CJ r turn=rU at*;have HB:Below w.heap.size w (w.alloc (.cells cs.toArray 29)):=fZ;go_enter func80,ntmps80;go_wp2_with(refine rF (.load 29 (.tmp 2)) I ?_;go_must(refine rG I _ _ I w.heap.size 0 I (N.new w 29 cs) 10 Y _ underlying29 I wE cs (uH Y) ?_));refine(HD.out _ HB).mono ?_;rintro _ B ⟨cs1,rfl,ho,b1⟩;have B1:=(N.new w 29 cs).G b1 (N.new _ _ _).lt;have H1:=rC HB HB.size b1;have hl1:=ho.len;have ho1:=J ho.one;have HO:=J ho;clear b1 ho HB HD;go_wp2_with(refine rF (.store 29 (.tmp 2) (.tmp 9)) I (ab I w.heap.size 0 cs1 B1 Y dg ho1.out ?_));intro w2 B3 g3 sw;clear sw;have B2:=tH B3 Y;have H2:=rE H1 g3 H1.size (Nat.le_refl _);obtain⟨v1,v2,v3,hcs,p1,p2,p3⟩:=HO.out;replace p1:=p1.sD g3 B1 K;obtain⟨A,c,hv⟩:=p1.form;rw[hv]at p1 hcs;have d0:=B2.rD 0 (u:=.slice A (rT r).sv.length c) dh;have d6:=B2.rD 6 (u:=.bool (rT r).ro) dh;rw[HRO.out]at d6;clear hcs hv p2 p3 HO B3 g3 B1 H1 ho1 B2;generalize(rT r).sv=S at*;have hwn:IntKind.u64.wrap (S.length:Int)=S.length:=io;have DV:=J (Jl turn S.length Y Y);have au1:¬(S.length:Int)=0:=Y;have aFw:(0:Int)<S.length:=Y;have hn1:decide (0<S.length)=true:=by simpa using hn0
 go_upto_region 4 with fail;go_cut[18] (fun v wx=>v= .bool r.ro/\wx=w2)
 case first=>
  cases hro:r.ro with
  |true=>exact qo
  |false=>exact qo
 obtain⟨rfl,rfl⟩:=hcut;go_upto_if 18 with fail;go_cut[6] (fun v wx=>v= .int .i64 rU/\wx=wc)
 case first=>
  cases hro:r.ro with
  |true=>
   rw[hro]at HT d6;clear hro HRO;go_wp2_with fail;go_meet
   case rel=>refine⟨?_,I⟩;rw[DV.out];have U:=Int.emod_nonneg (IntKind.u64.wrap turn) (show(S.length:Int)≠0 by omega);have F:=HT.out;simp only[if_true]at F;rw[F,Int.toNat_of_nonneg U]
  |false=>
   rw[hro]at HT d6;clear hro HRO;go_wp2_with fail;go_meet
   case rel=>have F:=HT.out;simp only[Bool.false_eq_true,if_false]at F;exact⟨by rw[F];rfl,I⟩
 case rest=>
  obtain⟨rfl,rfl⟩:=hcut;clear d6 HT DV hwn hn1;obtain⟨ai,ai1,ai2,ai3,ai4⟩:=afW;go_wp2_with(refine rF (.makeSlice 25 (.const (.int .i64 0)) (.tmp 25)) I ?_;go_must(refine wpList_make_own wc I _ _ 25 I wc.heap.size 67 ai _ 18 underlying25 ai1 ai2 ai3 .i64 .i64 (S.length:Int) S.length I I I (by rw[ai4];omega) aL (Nat.le_refl _) ?_));intro w3 o3 g3;have K3:ao wc w3:=⟨g3.os,g3.tape,g3.output,g3.size,fun i hi=>g3.block i hi ar⟩;have p3:=rJ.G (R':=xH) p1 K3 (fun _ _ h=>h);have e0:w3.cell? ⟨w.heap.size,0,none⟩=some (.slice A S.length c):=by rw[<-d0];exact K3.cell (p:=⟨w.heap.size,0,none⟩) (NG d0)
  have H3:=rC H2 H2.size K3;obtain⟨gs,hA,hgs,hr1⟩:=uG.piece p1 rU (S.length-rU) Y Y;obtain⟨_,hA2,_,hr2⟩:=uG.piece p1 0 rU Y Y;rw[hA]at hA2;injection hA2 with hA2;injection hA2 with hA2;subst hA2;subst hA;have akJ:=K3.size;have aKJ:w.heap.size<wc.heap.size:=NG d0;replace hr1:=rN hr1 K3 hgs;replace hr2:=rN hr2 K3 hgs;rw[Nat.zero_add]at hr1;rw[Nat.zero_mul,Nat.add_zero]at hr2;have rB:=uG.ip p3;have aii:=acY (uG.own p3);have hca:¬c=rU:=Y;have hac:rU<=c:=Y;have aMk:(rU:Int)<=c:=Y;have hwc:w.heap.size<=wc.heap.size:=H2.size;have l1:(zq ((S.drop rU).take (S.length-rU))).length=(S.length-rU)*18:=by rw[zr _ (fun a ha=>rB a (List.mem_of_mem_drop (List.mem_of_mem_take ha)))];simp
  have l2:(zq ((S.drop 0).take rU)).length=rU*18:=by rw[zr _ (fun a ha=>rB a (List.mem_of_mem_drop (List.mem_of_mem_take ha)))];simp;omega
  have aAI:S.length-rU+rU=S.length:=Y;have FIN:Hid (zq ((S.drop rU).take (S.length-rU))++zq ((S.drop 0).take rU)=zq (xj r turn)/\(xj r turn).length=S.length/\∀a∈xj r turn,a.ip.length=16):=J (by
   rw[HS.out];refine⟨?_,aB,?_⟩
   ·rw[<-JD,List.drop_zero,List.take_of_length_le ar]
   ·
    intro a ha;rcases List.mem_append.1 ha with h|h
    ·exact rB a (List.mem_of_mem_drop h)
    ·
     exact rB a (List.mem_of_mem_take h))
  have o1:=Rc ((S.drop rU).take (S.length-rU));have o2:=Rc ((S.drop 0).take rU);clear K3 g3 d0 p1 ai1 ai2 ai3 ai4 rB aii;generalize zq ((S.drop rU).take (S.length-rU))=N1 at*;generalize zq ((S.drop 0).take rU)=N2 at*;go_wp2_with(at_builtin;go_must(refine uR w3 I (.tmp 27) (.tmp 31) 25 I 67 _ 18 32 underlying25 vg (by kernel_rfl) K wc.heap.size _ 0 [] I o3 akJ (some ⟨gs,rU*18,none⟩) (S.length-rU) (c-rU) N1 (by simp[Act.eval,hca]) (fun _=>⟨gs,rU*18,I,hr1⟩) l1 o1 aL Y _ I ?_));intro A4 c4 w4 o4 g4;have g4':w3.grownBy w4 (some wc.heap.size):=g4;have aAN:w4.rangeAt gs 0 N2:=fun j v hv=>by rw[<-hr2 j v hv];exact AZ g4' ⟨gs,_,none⟩ aB aB
  have e0':w4.cell? ⟨w.heap.size,0,none⟩=some (.slice (some ⟨gs,0,none⟩) S.length c):=by rw[<-e0];exact AZ g4' ⟨w.heap.size,0,none⟩ aB aB
  have H4:=rE H3 g4' H3.size hwc;have auE:=g4'.size;clear g4 g4' e0 hr1 hr2 o3 H3 hca;go_wp2_with(at_builtin;go_must(refine uR w4 I (.tmp 33) (.tmp 37) 25 I 67 _ 18 32 underlying25 vg (by kernel_rfl) K wc.heap.size _ (S.length-rU) N1 (by simp[Act.eval]) o4 (Nat.le_trans akJ auE) (some ⟨gs,0,none⟩) rU c N2 (by simp[Act.eval]) (fun _=>⟨gs,0,I,aAN⟩) l2 o2 aL Y S.length aAI.symm ?_));intro A5 c5 w5 o5 g5;have H5:=(H4.grown g5 (Nat.le_trans hwc (Nat.le_trans akJ auE)) (fun k O=>Nat.le_trans hwc (yw o4 k O)));clear g5;go_wp2_with fail;go_ret;obtain⟨f1,f2,f3⟩:=FIN.out;refine⟨_,I,uG.mk ?_ f3,H5⟩;rw[f2,<-f1];exact xi o5
def XG(cs:List Value)(a:sg):Prop:=∃r:Int,cs=a.cells++[.int .i64 r]/\a.ip.length=16
theorem XG.len{cs:List Value}{a:sg}(h:XG cs a):cs.length=19:=by obtain⟨r,rfl,h⟩:=h;simp[a.rY h]
abbrev JF(w:World)(Hh:Nat)(v:Value)(l:List sg):Prop:=rJ w Hh 145 19 XG v l
def agN:List Value:=sg.zero.cells++[.int .i64 0]
theorem Rf:(prog.info? 145).map (fun i=>(i.zero,i.size,i.bytes))=some (some (.agg agN.toArray),19,40):=by kernel_rfl
theorem Us(fam az r:Int)(b0 b1 b2 b3 b4 b5 b6 b7 b8 b9 b10 b11 b12 b13 b14 b15:UInt8)(W:World):
  (Instr.build 145 #[(0,.agg (sg.cells ⟨fam,[b0,b1,b2,b3,b4,b5,b6,b7,b8,b9,b10,b11,b12,b13,b14,b15],az⟩).toArray),(1,.int .i64 r)]).run prog W= .ok (.agg (sg.cells ⟨fam,[b0,b1,b2,b3,b4,b5,b6,b7,b8,b9,b10,b11,b12,b13,b14,b15],az⟩++[Value.int .i64 r]).toArray) W:=by
 kernel_rfl
theorem aaN(a:sg)(r:Int)(h:a.ip.length=16)(W:World):(Instr.build 145 #[(0,.agg a.cells.toArray),(1,.int .i64 r)]).run prog W= .ok (.agg (a.cells++[Value.int .i64 r]).toArray) W:=by
 obtain⟨fam,ip,az⟩:=a;have h':ip.length=16:=h;clear h;match ip,h' with
 |[b0,b1,b2,b3,b4,b5,b6,b7,b8,b9,b10,b11,b12,b13,b14,b15],_=>exact Us fam az r b0 b1 b2 b3 b4 b5 b6 b7 b8 b9 b10 b11 b12 b13 b14 b15 W
theorem acZ(n:Int)(a b c d e g h i j:Value)(W:World):(Instr.field 29 (.agg [a,b,c,d,e,.int .i64 n,g,h,i,j].toArray) 5).run prog W= .ok (.int .i64 n) W:=by kernel_rfl
theorem ac0(n:Int)(a b c d f g h i j:Value)(W:World):(Instr.field 29 (.agg [a,b,c,d,.int .i64 n,f,g,h,i,j].toArray) 4).run prog W= .ok (.int .i64 n) W:=by kernel_rfl
def xW(l:List sg):Nat->List sg
 |0=>[]
 |k+1=>xW l k++l
theorem CM(l:List sg):∀k,(xW l k).length=k*l.length
 |0=>by simp[xW]
 |k+1=>by rw[xW,List.length_append,CM l k,Nat.add_mul,Nat.one_mul]
def uy(r:Rs)(turn:Int):List sg:=xW (xj r turn) (rT r).rU.toNat
theorem Hg(r:Rs)(turn:Int):(xj r turn).length=(rT r).sv.length:=by
 have:=VG r turn;unfold xj;simp;omega
theorem aaO(r:Rs):1<=(rT r).rU/\(rT r).rU<=5:=by
 show 1<=min (max r.rU 1) 5/\min (max r.rU 1) 5<=5;omega
theorem Ok(r:Rs):1<=(rT r).tmo/\(rT r).tmo<=30:=by
 show 1<=min (max r.tmo 1) 30/\min (max r.tmo 1) 30<=30;omega
def ac1(l:List sg)(w:World)(e:Ending)(w':World):Prop:=∃v,e= .returned v/\JF w' 0 v l/\ao w w'
theorem MA(w0:World)(cs:List Value)(r:Rs)(turn:Int)(w:World)(h:yc w0 cs r)(hw:ao w0 w):Calls prog 47 #[.agg cs.toArray,.int .i64 turn] w (ac1 (uy r turn) w):=by
 have E:=h.len;have HD:=J (fun W Z=>Bm w0 cs r W h (rC hw hw.size Z));have SD:=J (fun W Z=>Re w0 cs r turn W h (rC hw hw.size Z));have HT:Hid (uy r turn=xW (xj r turn) (rT r).rU.toNat):=jO;have hsl:=Hg r turn;have hs3:=(Fb r).2;obtain⟨ha1,ha2⟩:=aaO r;obtain⟨na,hna⟩:∃na:Nat,(rT r).rU=na:=⟨(rT r).rU.toNat,Y⟩;rw[hna]at HT ha1 ha2;rw[Int.toNat_natCast]at HT;rw[<-hsl]at hs3;have HNA:=J hna;clear h hw hsl hna;generalize xj r turn=S at*;have HB:Below w.heap.size w (w.alloc (.cells cs.toArray 29)):=fZ;have B0:=N.new w 29 cs;go_enter func47,ntmps47;go_wp2_with(refine rF (.load 29 (.tmp 2)) I ?_;go_must(refine rG I _ _ I w.heap.size 0 I B0 10 Y _ underlying29 I wE cs (uH Y) ?_));refine(SD.out _ HB).mono ?_;rintro _ B ⟨vS,rfl,oS,b1⟩;replace B0:=B0.G b1 B0.lt;have H1:=rC HB HB.size b1;clear b1 HB SD;go_wp2_with(refine rF (.load 29 (.tmp 2)) I ?_;go_must(refine rG I _ _ I w.heap.size 0 I B0 10 Y _ underlying29 I wE cs (uH Y) ?_));refine(HD.out _ H1).mono ?_;rintro _ w2 ⟨cs1,rfl,ho,b2⟩;have H2:=rC H1 H1.size b2;replace oS:=rJ.G (R':=xH) oS b2 (fun _ _ h=>h);have F5:Hid (∀W,(Instr.field 29 (.agg cs1.toArray) 5).run prog W= .ok (.int .i64 na) W):=J (fun W=>by
  obtain⟨v1,v2,v3,rfl,_⟩:=ho;rw[<-HNA.out];exact acZ ..)
 clear b2 ho H1 HD B0 HNA;obtain⟨A,c,hv⟩:=oS.form;subst hv;go_wp2_with(refine rF (.field 29 (.tmp 14) 5) I ?_;go_must(refine Bl I 29 (.tmp 14) 5 I I (F5.out _) ?_));go_loopw[6,16] (fun kv iv wr=>∃k:Nat,k<=na/\iv= .int .i64 k/\JF wr w.heap.size kv (xW S k)/\uG wr 0 (.slice A S.length c) S/\ao w wr) (fun _ iv _=>na-(intOf iv).toNat)
 case atStart=>exact⟨0,Nat.zero_le _,I,rJ.nil _ _ _ _ _,oS,H2⟩
 clear oS H2;obtain⟨k,O,rfl,ho,oS,hB⟩:=hrel;by_cases aA:k<na
 case neg=>have h1:¬(k:Int)<na:=Y;go_wp2_with fail;go_ret;refine⟨_,I,?_,hB⟩;rw[HT.out,show na=k by omega];exact rJ.zero ho
 have h1:(k:Int)<na:=Y;obtain⟨Ak,ck,hv⟩:=ho.form;subst hv;have hb3:k*S.length<=15:=by have U:k*S.length<=4*3:=Nat.mul_le_mul Y hs3;omega
 have hrl:(xW S k).length<=15:=by rw[CM];exact hb3
 have HR:Hid (xW S (k+1)=xW S k++S):=jO;obtain⟨wo,hwo⟩:∃wo:World,wr=wo:=gh;subst hwo;generalize xW S k=R at*;go_wp2_with fail;go_loopw[6,21] (fun kv iv wx=>∃j:Nat,j<=S.length/\iv= .int .i64 j/\JF wx w.heap.size kv (R++S.take j)/\uG wx 0 (.slice A S.length c) S/\ao w wx) (fun _ iv _=>S.length-(intOf iv).toNat)
 case atStart=>exact⟨0,Nat.zero_le _,I,by simpa using ho,oS,hB⟩
 clear ho oS hB;obtain⟨j,hj,rfl,ho,oS,hB⟩:=hrel;by_cases hjl:j<S.length
 case neg=>
  have akQ:¬(j:Int)<S.length:=Y;rw[List.take_of_length_le Y]at ho;go_wp2_with fail;go_roundw
  case rel=>exact⟨k+1,Y,fQ,by rw[HR.out];exact ho,oS,hB⟩
  case measure=>simp[intOf];omega
 have akQ:(j:Int)<S.length:=Y;have hle:(R++S.take j).length+1<=100:=aB;obtain⟨hb,hQ⟩:=aq (R++S.take j);rw[hQ.out]at ho hle;obtain⟨Aj,cj,hv⟩:=ho.form;subst hv;obtain⟨gs,hA,hgs,hr⟩:=oS.rU (fun _ _ h=>h.len) Y;obtain⟨cx,hcx,hce,rB⟩:=hr j hjl;have hcl:cx.length=18:=xH.len ⟨hce,rB⟩;have w1:∀v∈cx,v.oneCell'=true:=jq;have RB:Hid (∀W,(Instr.build 145 #[(0,.agg cx.toArray),(1,.int .i64 k)]).run prog W= .ok (.agg (cx++[Value.int .i64 k]).toArray) W):=J (fun W=>by rw[hce];exact aaN _ _ rB W);have TI:Hid (XG (cx++[Value.int .i64 k]) S[j]):=J ⟨k,by rw[hce],rB⟩;have HS:Hid (S.take (j+1)=S.take j++[S[j]]):=J (List.take_succ_eq_append_getElem hjl);have htl:(cx++[Value.int .i64 k]).length=19:=ko;have hto:∀v∈cx++[Value.int .i64 k],v.oneCell'=true:=by
  intro v hv;rcases List.mem_append.1 hv with h|h
  ·exact w1 v h
  ·simp at h;subst h;rfl
 have HO:=J ho;have HOS:=J oS;rw[Nat.zero_add]at hcx;subst hA;have amn:(sg.zero.cells).length=18:=sg.zero.rY I;have W1:Below wr.heap.size wr (wr.alloc (.cells sg.zero.cells.toArray 67)):=fZ;clear hce rB hr ho oS;obtain⟨tc,htc⟩:∃tc,cx++[Value.int .i64 k]=tc:=gh;rw[htc]at RB TI htl hto;clear htc;go_wp2_with(first
  |(refine rF (.load 67 (.tmp 23)) rfl ?_;go_must(refine sr rfl 67 (.tmp 23) rfl gs (j*18) rfl cx hcx _ underlying67 rfl bL ?_))
  |(refine rF (.store 67 (.tmp 9) (.tmp 24)) rfl (ab rfl wr.heap.size 0 cx (N.new wr 67 sg.zero.cells) Y bL w1 ?_)))
 intro w3 B3 g3 sw;clear sw;have B3':=tH B3 Y;have K3:=rE W1 g3 W1.size (Nat.le_refl _);clear B3 g3 W1 hcx;go_wp2_with(first
  |(refine rF (.load 67 (.tmp 9)) rfl ?_;go_must(refine rG rfl _ _ rfl wr.heap.size 0 rfl B3' 18 Y _ underlying67 rfl uq cx (uH Y) ?_))
  |(refine rF (.build 145 #[(0,.tmp 26),(1,.tmp 27)]) rfl ?_;go_must(refine sy rfl 145 _ rfl #[(0,.agg cx.toArray),(1,.int .i64 k)] cY (RB.out _) ?_))
  |(refine rF (.buildSlice 107 1 #[(0,.tmp 28)]) rfl ?_;go_must(refine vQ rfl 107 145 _ 19 40 underlying107 Rf K K (.tmp 28) rfl tc rfl htl ?_)))
 intro w4 B4 K4;have K5:=rC K3 K3.size K4;have O4:=rJ.G (R':=XG) HO.out K5 (fun _ _ h=>h);have N4:=HO.out.ne K3.size;have S4:=rJ.G (R':=xH) HOS.out K5 (fun _ _ h=>h);have H4:=rC hB hB.size K5;have arf:=K4.size;clear HO HOS K3 K4 K5 B3' hB;go_wp2_with(at_builtin;go_must(refine sJ _ I _ _ 107 I 145 _ 19 40 underlying107 Rf (by kernel_rfl) K w.heap.size _ _ I O4 H4.size w3.heap.size tc S[j] I B4 N4 htl hto TI.out aL Y ?_));intro v5 w5 O5 g5;have hbs:=O4.base;have S5:uG w5 0 (.slice (some ⟨gs,0,none⟩) S.length c) S:=by obtain⟨_,o4,_⟩:=O4;exact S4.rM (fun _ x=>zD x o4 K g5) (fun _ _ x=>x)
 have H5:=H4.grown g5 H4.size hbs;clear g5 O4 S4 H4 B4 N4;go_wp2_with fail;go_roundw
 case rel=>exact⟨j+1,Y,fQ,by rw[HS.out,<-List.append_assoc,hQ.out];exact O5,S5,H5⟩
 case measure=>simp[intOf];omega
def uD(r:Rs):Nat:=3*(uy r 0).length
def sm(r:Rs):Nat:=(rT r).tmo.toNat*uD r
theorem AJ(r:Rs)(turn:Int):(uy r turn).length=(rT r).rU.toNat*(rT r).sv.length:=by unfold uy;rw[CM,Hg]
theorem AM(r:Rs)(turn:Int):1<=(uy r turn).length/\(uy r turn).length<=15:=by
 rw[AJ];obtain⟨U,F⟩:=Fb r;obtain⟨h3,h4⟩:=aaO r;exact⟨Nat.mul_pos Y U,Nat.le_trans (Nat.mul_le_mul (show(rT r).rU.toNat<=5 by omega) F) K⟩
theorem Rg(w0:World)(cs:List Value)(r:Rs)(w:World)(h:yc w0 cs r)(hw:ao w0 w):Calls prog 24 #[.agg cs.toArray] w (rW (.int .i64 (uD r)) w):=by
 have E:=h.len;have HD:=J (fun W Z=>MA w0 cs r 0 W h (rC hw hw.size Z));have hle:=AM r 0;have HM:Hid (uD r=3*(uy r 0).length):=jO;clear h hw;generalize uy r 0=T at*;have HB:Below w.heap.size w (w.alloc (.cells cs.toArray 29)):=fZ;go_enter func24,ntmps24;go_wp2_with(refine rF (.load 29 (.tmp 1)) I ?_;go_must(refine rG I _ _ I w.heap.size 0 I (N.new w 29 cs) 10 Y _ underlying29 I wE cs (uH Y) ?_));refine(HD.out _ HB).mono ?_;rintro _ B ⟨v,rfl,o,b1⟩;obtain⟨A,c,hv⟩:=o.form;subst hv;go_wp2_with fail;go_ret;exact rW.mk (by rw[HM.out];rfl) (rC HB HB.size b1)
theorem AO{w:World}(t:TypeId)(x:Operand)(f:Nat)(ho:o.op= .field t x f)(hx:a.eval x=v)(hr:(Instr.field t v f).run P w= .ok v' w):(execOp a.eval o).run P w= .ok (.value v') w:=by
 unfold execOp;simp only[ho,hx,Sem.run_bind,hr,Result.andThen_ok,Sem.run_pure]
theorem XH(w0:World)(cs:List Value)(r:Rs)(w:World)(h:yc w0 cs r)(hw:ao w0 w):Calls prog 23 #[.agg cs.toArray] w (rW (.int .i64 (sm r)) w):=by
 have E:=h.len;have HD:=J (fun W Z=>Bm w0 cs r W h (rC hw hw.size Z));have MD:=J (fun W Z=>Rg w0 cs r W h (rC hw hw.size Z));obtain⟨t1,t2⟩:=Ok r;have hml:uD r<=45:=by have:=(AM r 0).2;unfold uD;omega
 obtain⟨nt,hnt⟩:∃nt:Nat,(rT r).tmo=nt:=⟨(rT r).tmo.toNat,Y⟩;have HM:Hid (sm r=nt*uD r):=J (by unfold sm;rw[hnt,Int.toNat_natCast]);have HNT:=J hnt;rw[hnt]at t2;clear h hw hnt t1;generalize uD r=M at*;have HB:Below w.heap.size w (w.alloc (.cells cs.toArray 29)):=fZ;have B0:=N.new w 29 cs;obtain⟨B,hw1⟩:∃B,w.alloc (.cells cs.toArray 29)=B:=gh;rw[hw1]at HB B0;go_enter func23,ntmps23;go_wp2_with fail;have hmul:(nt:Int)*M<=1350:=by
  have:nt*M<=30*45:=Nat.mul_le_mul Y hml
  exact_mod_cast this
 have aFy:0<=(nt:Int)*M:=Int.mul_nonneg Y Y;clear hw1;refine wp_region_held_drew (S:=fun V=>ao B V) (by kernel_rfl) (Below.refl _ _).drew (fun hS=>?_);refine rS hS 2 [0,3] I (by kernel_rfl) (fun _ _ _ _ _ h=>h) I I ?_
 (refine aj _ I I (fun V hV=>(rX 29 (.tmp 1) ⟨w.heap.size,0,none⟩ I I ((B0.G hV B0.lt).tW 29 0 10 Y _ underlying29 I wE cs (uH Y)))) ?_;simp only[X])
 (refine aj _ I I (fun V hV=>(rX 29 (.tmp 1) ⟨w.heap.size,0,none⟩ I I ((B0.G hV B0.lt).tW 29 0 10 Y _ underlying29 I wE cs (uH Y)))) ?_;simp only[X])
 simp only[sS];refine su 1 (some 4) 46 #[.agg cs.toArray] (by kernel_rfl) I I (by kernel_rfl) bc (HD.out _ (rC HB HB.size hS)) ?_;rintro _ w2 ⟨cs1,rfl,ho,b2⟩;have hS:=rC hS hS.size b2;refine⟨_,I,hS,?_⟩;have F4:Hid (∀W,(Instr.field 29 (.agg cs1.toArray) 4).run prog W= .ok (.int .i64 nt) W):=J (fun W=>by
  obtain⟨v1,v2,v3,rfl,_⟩:=ho;rw[<-HNT.out];exact ac0 ..)
 clear ho HNT;simp only[X];refine rS hS 1 [2] I (by kernel_rfl) (fun _ _ _ _ _ h=>h) I I ?_
 (refine aj (.int .i64 nt) I I (fun V hV=>(AO 29 (.tmp 4) 4 I I (F4.out V))) ?_;simp only[X])
 simp only[sS];refine su 4 (some 7) 24 #[.agg cs.toArray] (by kernel_rfl) I I (by kernel_rfl) bc (MD.out _ (rC HB HB.size hS)) ?_;rintro _ w3 ⟨rfl,b3⟩;have hS:=rC hS hS.size b3;refine⟨_,I,hS,?_⟩;simp only[X];refine rS hS 2 [5,6] I (by kernel_rfl) (fun _ _ _ _ _ h=>h) I I ?_;repeat(refine ak _ ?_;simp only[X])
 simp only[sS];refine wpAnyH_done (by kernel_rfl) ?_ _;go_wp2_with fail;go_ret;refine rW.mk ?_ (rC HB HB.size hS);refine wv ?_;rw[HM.out];rw[IntWalk.i64_in _ Y];simp
end Go.Proofs.YtakkipnmpmobbaaGreat
