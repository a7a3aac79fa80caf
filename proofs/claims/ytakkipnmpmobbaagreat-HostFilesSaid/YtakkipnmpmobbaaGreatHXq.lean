/-
  The reference's layer 24:Message. ask.Build.
-/
import Derived.Test.YtakkipnmpmobbaaGreatHVq
import Derived.Test.YtakkipnmpmobbaaGreatHQq
namespace Go.Proofs.YtakkipnmpmobbaaGreat
open _root_.Go.Proofs.Tryz
set_option maxHeartbeats 8000000
open Go.RowKit
set_option maxRecDepth 100000
set_option linter.unusedVariables false
set_option linter.unusedSimpArgs false
variable {w w':World} {v:Value} {n l:List (List UInt8)} {t:TypeId} {cs L:List Value} {p:List UInt8} {lo k:Nat} {o:Oper} {a:Act}
theorem Gh(A:Option Addr)(c:Nat)(q:Qn)(id:Int)(afh:Bool)(w:World)(hA:wA w A c q.name)(hn:q.name.length<=100000):
  Calls prog 107 #[.agg #[.slice A q.name.length c,.int .i64 q.Q,.int .i64 q.cl],.int .i64 id,.bool afh] w (rW (.tuple #[.string (bs (tM (ug q id afh) false).1),.int .i64 (tM (ug q id afh) false).2]) w):=by
 have kb:Below w.heap.size w (w.alloc (.cells #[.slice A q.name.length c,.int .i64 q.Q,.int .i64 q.cl] 160)):=fZ;have MS:=J (Ja A c q id afh _ (hA.G kb) hn);have U:(ug q id afh).qs.length<=700:=bq;have F:(ug q id afh).Em.length<=400:=by cases afh<;>simp[ug,tq.Em]
 clear hA hn;generalize ug q id afh=M at*;generalize q.Q=Q,q.cl=cl,q.name.length=nl at*;go_enter func107,ntmps107;go_wp2_with fail;refine MS.out.mono ?_;rintro _ B ⟨cs,Aq,Aa,Au,Ae,cq,ca,cu,ce,rfl,b1,hM⟩;have EN:=J (QB cs M false Aq Aa Au Ae cq ca cu ce B (hM B (GP.refl _ _)) U F);have b2:=rC kb kb.size b1;generalize(tM M false).1=o1 at*;generalize(tM M false).2=o2 at*;clear hM b1 MS;go_wp2_with fail;refine EN.out.mono ?_;rintro _ w2 ⟨rfl,b3⟩;have b4:=rC b2 b2.size b3;clear EN;go_wp2_with fail;go_ret2;exact rW.mk I b4
structure Ou where
 kind:Int
 to_:sg
 port:Int
 data:List UInt8
deriving DecidableEq
structure Dl where
 y:Qy
 oct:List UInt8
 st:Int
 op:Bool
 ty:List UInt8
 xZ:tq
def QS(y:Qy):List UInt8:=(tM (ug y.q y.id false) false).1
def Hu(y:Qy):Int:=(tM (ug y.q y.id false) false).2
def yM(y:Qy):Dl×List Ou:=if Hu y=0 then(⟨y,rP 2 (QS y).length++QS y,0,false,[],tq.zero⟩,[⟨2,y.sv,y.port,[]⟩])else(⟨y,[],2,false,[],tq.zero⟩,[])
def ul(y:Qy):List (List UInt8)->Option tq
 |[]=>none
 |s::l=>if(vz y (vZ s)).2 then some (vz y (vZ s)).1 else ul y l
theorem D8(y:Qy)(a b:List (List UInt8)):ul y (a++b)=match ul y a with
  |some m=>some m
  |none=>ul y b:=by
 induction a with
 |nil=>rfl
 |cons s a ih=>
  show(if _ then _ else ul y (a++b))=match(if _ then _ else ul y a)with|some m=>some m|none=>ul y b
  split
  ·rfl
  ·exact ih
def te(d:Dl)(e:Ev):Dl×List Ou:=
 if d.st≠0\/e.port≠d.y.port then(d,[])
 else if e.kind=3 then(if d.op then(d,[])else({d with op:=true},[⟨3,d.y.sv,d.y.port,d.oct⟩]))
 else if e.kind=4 then(if d.op then(match ul d.y (uc (d.ty++e.data))with
   |some m=>({d with ty:=d.ty++e.data,xZ:=m,st:=1},[⟨4,d.y.sv,d.y.port,[]⟩])
   |none=>({d with ty:=d.ty++e.data},[]))else(d,[]))
 else if e.kind=5 then({d with st:=2},[])else(d,[])
def wg(d:Dl):Dl×List Ou:=if d.st≠0 then(d,[])else({d with st:=2},[⟨4,d.y.sv,d.y.port,[]⟩])
def Dl.ok(d:Dl):Prop:=d.st=0->ul d.y (uc d.ty)=none
theorem acP(y:Qy):(yM y).1.ok:=by
 unfold yM;split
 ·intro _;show ul y (uc [])=none;rw[(tR [] cV).1];rfl
 ·intro h;cases h
theorem aaw(d:Dl)(e:Ev)(h:d.ok):(te d e).1.ok:=by
 unfold te;split
 ·exact h
 ·
  split
  ·split<;>exact h
  ·
   split
   ·
    split
    ·
     split
     ·intro h;cases h
     ·rename_i hn;intro _;exact hn
    ·exact h
   ·
    split
    ·intro h;cases h
    ·exact h
theorem acQ(d:Dl)(e:Ev):(te d e).1.y=d.y:=by
 unfold te
 (repeat' split)<;>rfl
theorem QT(d:Dl)(h:d.ok)(h0:d.st=0)(s:List UInt8):ul d.y (uc (d.ty++s))=ul d.y (uc (wD d.ty++s))/\wD (d.ty++s)=wD (wD d.ty++s):=by
 obtain⟨U,F⟩:=Uk d.ty.length d.ty s (Nat.le_refl _);refine⟨?_,F⟩;rw[U,D8,h h0]
def Vy(o:Ou):List Value:=.int .i64 o.kind::(o.to_.cells++[.int .i64 o.port,.string (bs o.data)])
theorem Ij{o:Ou}(h:o.to_.ip.length=16):(Vy o).length=21:=by simp[Vy,o.to_.rY h]
theorem acR{o:Ou}:∀v∈Vy o,v.oneCell'=true:=by
 intro v hv;rcases List.mem_cons.1 hv with rfl|hv
 ·rfl
 rcases List.mem_append.1 hv with hv|hv
 ·exact o.to_.tm v hv
 ·simp only[List.mem_cons,List.not_mem_nil,or_false]at hv;rcases hv with rfl|rfl<;>rfl
def agJ(w:World)(A:Option Addr)(l:List Ou):Prop:=(∀o∈l,o.to_.ip.length=16)/\(0<l.length->∃b off,A=some ⟨b,off,none⟩/\b<w.heap.size/\∀i (hi:i<l.length),w.rangeAt b (off+i*21) (Vy l[i]))
def Mq(w:World)(v:Value)(n:List (List UInt8)):Prop:=tw w v n/\n.length<=100000/\∀l∈n,l.length<=140737488355328
theorem Mq.rM(h:Mq w v n)(k:rZ w w'):Mq w' v n:=⟨k _ _ h.1,h.2⟩
theorem Mq.form(h:Mq w v n):∃A c,v= .slice A n.length c/\wA w A c n:=by
 obtain⟨A,c,U,F,h3⟩:=h.1.form;exact⟨A,c,U,F,h3,by have:=h.2.1;omega,h.2.2⟩
theorem sA.Ht{g:Nat}{m:tq}(h:sA w cs m)(hg:w.grownBy w' (some g))(Z:N w g t L)(U:t≠160)(F:t≠201)(h3:t≠9):sA w' cs m:=by
 obtain⟨vq,va,vu,ve,k1,k2,k3,k4,k5,l⟩:=h;exact⟨vq,va,vu,ve,k1,k2.sD hg Z U h3,k3.sD hg Z F h3,k4.sD hg Z F h3,k5.sD hg Z F h3,l⟩
theorem aax{g n:Nat}{M:List Value}(h:N w g t (L++M.drop n))(hM:M.length<=n):N w g t L:=by
 exact pN
def Fa(vn:Value)(d:Dl):List Value:=yf vn d.y++[.string (bs d.oct),.int .i64 d.st,.bool d.op]
section
variable {vn:Value} {d:Dl} (h:d.y.sv.ip.length=16) {post:List Value} {a b c e:Value}
include h
theorem zK:(Fa vn d).length=26:=by simp[Fa,xV h]
theorem aay(i:Nat)(hi:i<26):(JB (Fa vn d) post a b c e)[i]?=(Fa vn d)[i]?:=by unfold JB;rw[List.getElem?_append_left (by rw[zK h];exact hi)]
theorem QU(k:Nat)(O:k<3):(JB (Fa vn d) post a b c e)[23+k]?=[Value.string (bs d.oct),.int .i64 d.st,.bool d.op][k]?:=by
 rw[aay h _ Y];unfold Fa;rw[List.getElem?_append_right cW,xV h,Nat.add_sub_cancel_left]
theorem afU(i:Nat)(hi:i<23):(JB (Fa vn d) post a b c e)[i]?=(yf vn d.y)[i]?:=by
 rw[aay h _ Y];unfold Fa;rw[List.getElem?_append_left (by rw[xV h];exact hi)]
theorem Vz:(JB (Fa vn d) post a b c e)[18]?=some (.int .i64 d.y.port):=by rw[afU h 18 Y];exact zP h 0
theorem agK:((JB (Fa vn d) post a b c e).drop 0).take 23=yf vn d.y:=by
 rw[List.drop_zero];unfold JB Fa;rw[List.append_assoc];exact List.take_left' (xV h)
theorem ad9:((JB (Fa vn d) post a b c e).drop 0).take 18=d.y.sv.cells:=by
 rw[List.drop_zero];unfold JB Fa yf;rw[List.append_assoc,List.append_assoc];exact List.take_left' (d.y.sv.rY h)
theorem Oi:(JB (Fa vn d) post a b c e).length=30+post.length:=by simp[JB,zK h];omega
theorem VA:(JB (Fa vn d) post a b c e).drop 30=post:=by
 unfold JB;rw[show(30:Nat)=(Fa vn d).length+4 by rw[zK h],List.drop_append];simp
theorem aeL(sub:List Value)(hs:sub.length=post.length):(JB (Fa vn d) post a b c e).take 30++sub++(JB (Fa vn d) post a b c e).drop (30+sub.length)=JB (Fa vn d) sub a b c e:=by
 rw[List.drop_of_length_le (by rw[Oi h];omega),List.append_nil];have e1:(JB (Fa vn d) post a b c e).take 30=Fa vn d++[a,b,c,e]:=by unfold JB;rw[show(30:Nat)=(Fa vn d).length+4 by rw[zK h],List.take_append];simp;exact List.take_of_length_le Y
 rw[e1];simp[JB]
theorem aeM(k:Nat)(O:k<3)(x:Value):(JB (Fa vn d) post a b c e).set (23+k) x=JB (yf vn d.y++([Value.string (bs d.oct),.int .i64 d.st,.bool d.op].set k x)) post a b c e:=by
 unfold JB;rw[List.set_append_left _ _ (by rw[zK h];omega)];unfold Fa;rw[List.set_append_right _ _ cW,xV h,Nat.add_sub_cancel_left]
end
def wP(w:World)(g:Nat)(d:Dl)(p:List UInt8):Prop:=∃vn ds,ub w g (Fa vn d) ds p/\d.y.sv.ip.length=16/\Mq w vn d.y.q.name/\sA w ds d.xZ
def wQ(w:World)(g:Nat)(d:Dl):Prop:=∃p,wP w g d p/\(d.st=0->p=wD d.ty)/\d.ok
theorem wP.G{g:Nat}{d:Dl}(h:wP w g d p)(Z:ao w w'):wP w' g d p:=by
 obtain⟨vn,ds,U,F,h3,h4⟩:=h;exact⟨vn,ds,U.G Z,F,h3.rM (rZ.G Z),h4.G Z⟩
theorem wQ.G{g:Nat}{d:Dl}(h:wQ w g d)(Z:ao w w'):wQ w' g d:=by
 obtain⟨p,U,F⟩:=h;exact⟨p,U.G Z,F⟩
theorem wP.open_{g:Nat}{d:Dl}(h:wP w g d p):∃vn ds a b c e,N w g 243 (JB (Fa vn d) ds a b c e)/\d.y.sv.ip.length=16/\Mq w vn d.y.q.name/\sA w ds d.xZ/\ub w g (Fa vn d) ds p:=by
 obtain⟨vn,ds,U,F,h3,h4⟩:=h;have h1':=U;obtain⟨last,ts,b0,b1,hpl,Z,_⟩:=h1';exact⟨vn,ds,_,_,_,_,Z,F,h3,h4,U⟩
theorem Mq.Un{g:Nat}(h:Mq w v n)(hg:w.grownBy w' (some g))(Z:N w g 243 L):Mq w' v n:=h.rM (rZ.sD hg Z K)
theorem sA.Un{g:Nat}{m:tq}(h:sA w cs m)(hg:w.grownBy w' (some g))(Z:N w g 243 L):sA w' cs m:=h.Ht hg Z K K K
theorem wP.sD{g:Nat}{d:Dl}(h:wP w g d p):∃vn L ds,N w g 243 L/\L.length=44/\d.y.sv.ip.length=16/\Mq w vn d.y.q.name/\(L.drop 0).take 23=yf vn d.y/\(L.drop 0).take 18=d.y.sv.cells/\L[18]?=some (.int .i64 d.y.port)/\L[23]?=some (.string (bs d.oct))/\L[24]?=some (.int .i64 d.st)/\L[25]?=some (.bool d.op)/\(L.drop 30).take 14=ds/\sA w ds d.xZ/\
  ∀w' ds' m,w.grownBy w' (some g)->N w' g 243 (L.take 30++ds'++L.drop (30+ds'.length))->sA w ds' m->wP w' g {d with xZ:=m} p:=by
 obtain⟨vn,ds,U,rB,hN,hM⟩:=h;obtain⟨last,ts,b0,b1,hpl,Z,hc,r⟩:=U;have hdl:=hM.len;refine⟨vn,_,ds,Z,by rw[Oi rB,hdl],rB,hN,agK rB,ad9 rB,Vz rB,QU rB 0 Y,QU rB 1 Y,QU rB 2 Y,?_,hM,?_⟩
 ·rw[VA rB,List.take_of_length_le Y]
 ·intro w' ds' m hg hb' hM';rw[aeL rB ds' (by rw[hM'.len,hdl])]at hb';exact⟨vn,ds',⟨last,ts,b0,b1,zK rB,hb',tV.grown Z hg _ _ hc,r⟩,rB,hN.Un hg Z,hM'.Un hg Z⟩
theorem wP.set{g:Nat}{d d':Dl}(h:wP w g d p)(k:Nat)(O:k<3)(x:Value)(hy:d'.y=d.y)(hm:d'.xZ=d.xZ)(hx:[Value.string (bs d.oct),.int .i64 d.st,.bool d.op].set k x=[Value.string (bs d'.oct),.int .i64 d'.st,.bool d'.op]):wP (w.setCell ⟨g,23+k,none⟩ x) g d' p:=by
 obtain⟨vn,ds,U,F,h3,h4⟩:=h;obtain⟨last,ts,b0,b1,hpl,Z,hc,r⟩:=U;have hg:w.grownBy (w.setCell ⟨g,23+k,none⟩ x) (some g):=jt;have hb2:=Z.set (23+k) x;rw[aeM F k O x,hx,<-hy]at hb2;refine⟨vn,ds,⟨last,ts,b0,b1,zK (by rw[hy];exact F),hb2,tV.grown Z hg _ _ hc,r⟩,by rw[hy];exact F,by rw[hy];exact h3.Un hg Z,by rw[hm];exact h4.Un hg Z⟩
def OuI(cs:List Value)(o:Ou):Prop:=cs=Vy o/\o.to_.ip.length=16
theorem OuI.len(cs:List Value)(o:Ou)(h:OuI cs o):cs.length=21:=by rw[h.1];exact Ij h.2
def tf(lo:Nat)(w:World)(v:Value)(l:List Ou):Prop:=rJ w lo 106 21 OuI v l
theorem VB:∀{css:List (List Value)} {l:List Ou},wO OuI css l->∀o∈l,o.to_.ip.length=16
 |[],[],_,o,ho=>by cases ho
 |_::_,_::_,h,o,ho=>by
  rcases List.mem_cons.1 ho with rfl|ho
  ·exact h.1.2
  ·exact VB h.2 o ho
theorem tf.nil(lo:Nat)(w:World):tf lo w (.slice none 0 0) []:=⟨[],World.ownsRow_nil _ _ _ _,trivial⟩
theorem tf.G{l:List Ou}(h:tf lo w v l)(Z:ao w w'):tf lo w' v l:=rJ.rM h (fun _ x=>sT x Z) (fun _ _ x=>x)
theorem tf.mono{lo':Nat}{l:List Ou}(h:tf lo w v l)(E:lo'<=lo):tf lo' w v l:=by
 obtain⟨css,U,F⟩:=h;exact⟨css,⟨U.1,U.2.imp id fun⟨g,c,cur,hv,hg,r⟩=>⟨g,c,cur,hv,Nat.le_trans E hg,r⟩⟩,F⟩
theorem tf.grown{g:Nat}{l:List Ou}(h:tf lo w v l)(hg:w.grownBy w' (some g))(E:g<lo):tf lo w' v l:=by
 obtain⟨css,U,F⟩:=h;refine⟨css,U.kept hg (.inr ?_),F⟩;intro e;have:=yw U g e;omega
theorem tf.form{l:List Ou}(h:tf lo w v l):∃A c,v= .slice A l.length c/\agJ w A l/\∀b,A=some b->lo<=b.block:=by
 obtain⟨A,c,rfl⟩:=rJ.form h;refine⟨A,c,I,⟨?_,fun hp=>?_⟩,fun b Z=>?_⟩
 ·obtain⟨css,_,F⟩:=h;exact VB F
 ·obtain⟨g,U,F,h3⟩:=rJ.rU OuI.len h hp;refine⟨g,0,U,F,fun i hi=>?_⟩;obtain⟨cs,h4,h5,_⟩:=h3 i hi;rw[<-h5];exact h4
 ·obtain⟨css,U,_⟩:=h;exact yw U b.block (by rw[Z];rfl)
def Ik(g:Nat)(r:Dl×List Ou)(w:World)(e:Ending)(w':World):Prop:=∃v,e= .returned v/\tf w.heap.size w' v r.2/\wQ w' g r.1/\w.grownBy w' (some g)
def aaz(m:tq)(w:World)(e:Ending)(w':World):Prop:=∃ds,e= .returned (.agg ds.toArray)/\sA w' ds m/\ao w w'
theorem Uo(g:Nat)(d:Dl)(w:World)(h:wQ w g d):Calls prog 146 #[.pointer (some ⟨g,0,none⟩)] w (uQ (.int .i64 d.st) w):=by
 obtain⟨p,h,_⟩:=h;obtain⟨vn,ds,a,b,c,e,Z,rB,_⟩:=h.open_;have c24:=Z.rD 24 (QU rB 1 Y);clear h Z;go_enter func146,ntmps146;go_wp2;exact mY
theorem aaA(g:Nat)(d:Dl)(w:World)(h:wQ w g d):Calls prog 148 #[.pointer (some ⟨g,0,none⟩)] w (aaz d.xZ w):=by
 obtain⟨p,h,_⟩:=h;obtain⟨vn,ds,a,b,c,e,Z,rB,_,hM,_⟩:=h.open_;have E:=Oi (vn:=vn) (post:=ds) (a:=a) (b:=b) (c:=c) (e:=e) rB;have hp:=VA (vn:=vn) (post:=ds) (a:=a) (b:=b) (c:=c) (e:=e) rB;generalize JB (Fa vn d) ds a b c e=L at*;have hdl:=hM.len;have hd1:=J hM.one;have C:=Z.alloc (.cells sV.toArray 169);have B2:=N.new w 169 sV;have HB:Below w.heap.size w (w.alloc (.cells sV.toArray 169)):=fZ;have hM2:=hM.G HB;have HP:Hid ((L.drop 30).take 14=ds):=J (by rw[hp,List.take_of_length_le Y]);clear h hp Z hM;go_enter func148,ntmps148;go_wp2_with(first
  |(refine rF (.load 169 (.tmp 8)) rfl ?_;go_must(refine rG rfl _ _ rfl g 30 rfl C 14 Y _ underlying169 rfl tn ds HP.out ?_))
  |(refine rF (.store 169 (.tmp 2) (.tmp 9)) rfl (ab rfl w.heap.size 0 ds B2 cR cQ hd1.out ?_)))
 intro w8 B8 g8 _;replace B8:N w8 w.heap.size 169 ds:=aax B8 cR;have HB8:=rE HB g8 HB.size (Nat.le_refl _);have hM8:=hM2.Ht g8 B2 K K K;clear g8 HB B2 hM2 C;go_wp2_with fail;refine tx I w.heap.size I B8 _ underlying169 I cQ I ?_;exact rl
theorem aaB{P:Program}(t:TypeId)(parts:Array (Nat×Operand))(ho:o.op= .build t parts)(uY:Array (Nat×Value))(hv:parts.map (fun(i,x)=>(i,a.eval x))=uY)(hr:(Instr.build t uY).run P w= .ok v w):(execOp a.eval o).run P w= .ok (.value v) w:=by
 exact qg
theorem Xv(kind fam az port:Int)(b0 b1 b2 b3 b4 b5 b6 b7 b8 b9 b10 b11 b12 b13 b14 b15:UInt8)(data:List UInt8)(W:World):
  (Instr.build 106 #[(0,.int .i64 kind),(1,.agg (sg.cells ⟨fam,[b0,b1,b2,b3,b4,b5,b6,b7,b8,b9,b10,b11,b12,b13,b14,b15],az⟩).toArray),(2,.int .i64 port),(3,.string (bs data))]).run prog W= .ok (.agg (Vy ⟨kind,⟨fam,[b0,b1,b2,b3,b4,b5,b6,b7,b8,b9,b10,b11,b12,b13,b14,b15],az⟩,port,data⟩).toArray) W:=by
 kernel_rfl
theorem VC(kind:Int)(to_:sg)(port:Int)(data:List UInt8)(h:to_.ip.length=16)(W:World):(Instr.build 106 #[(0,.int .i64 kind),(1,.agg to_.cells.toArray),(2,.int .i64 port),(3,.string (bs data))]).run prog W= .ok (.agg (Vy ⟨kind,to_,port,data⟩).toArray) W:=by
 obtain⟨fam,ip,az⟩:=to_;have h':ip.length=16:=h;clear h;match ip,h' with
 |[b0,b1,b2,b3,b4,b5,b6,b7,b8,b9,b10,b11,b12,b13,b14,b15],_=>exact Xv kind fam az port b0 b1 b2 b3 b4 b5 b6 b7 b8 b9 b10 b11 b12 b13 b14 b15 data W
def ouZ:List Value:=Vy ⟨0,sg.zero,0,[]⟩
theorem VD:(prog.info? 106).map (fun i=>(i.zero,i.size,i.bytes))=some (some (.agg ouZ.toArray),21,64):=by kernel_rfl
theorem QW(w:World)(cs:List Value)(E:cs.length=21):(Instr.buildSlice 43 1 #[(0,.agg cs.toArray)]).run prog w= .ok (.slice (some ⟨w.heap.size,0,none⟩) 1 1) (w.alloc (.cells cs.toArray 106)):=by
 obtain⟨i,hi,hz,adR,hby⟩:=info_parts VD;refine run_buildSlice w 43 106 1 _ cs.toArray i _ underlying43 hi hz bJ bJ ?_;rw[adR];have:=EK 21 ((Array.range (1*21)).map ((Value.agg ouZ.toArray).cells[· % (Value.agg ouZ.toArray).cells.size]!)).toList cs E ar;exact pz
theorem Mr{v':Value}(x:Operand)(ho:o.op= .buildSlice 43 1 #[(0,x)])(hx:a.eval x=v)(hr:(Instr.buildSlice 43 1 #[(0,v)]).run prog w= .ok v' w'):(execOp a.eval o).run prog w= .ok (.value v') w':=by
 exact nZ
theorem QX(w:World)(o:Ou)(h:o.to_.ip.length=16):tf w.heap.size (w.alloc (.cells (Vy o).toArray 106)) (.slice (some ⟨w.heap.size,0,none⟩) 1 1) [o]:=by
 have E:=Ij h;refine⟨[Vy o],⟨by simp[E],.inr ⟨w.heap.size,1,(Vy o).toArray,I,Nat.le_refl _,N.new w 106 (Vy o),Nat.le_refl _,by simp[maxLen],by simp[E],?_⟩⟩,⟨I,h⟩,trivial⟩;exact pf
def aaC(o:Ou)(w:World)(e:Ending)(w':World):Prop:=∃v,e= .returned v/\tf w.heap.size w' v [o]/\ao w w'
theorem acS(f:FuncId)(hf:f=150)(g:Nat)(kind:Int)(data:List UInt8)(L:List Value)(to_:sg)(port:Int)(w:World)(Z:N w g 243 L)(E:23<=L.length)(rB:to_.ip.length=16)(ha:(L.drop 0).take 18=to_.cells)(hp:L[18]?=some (.int .i64 port)):
  Calls prog f #[.pointer (some ⟨g,0,none⟩),.int .i64 kind,.string (bs data)] w (aaC ⟨kind,to_,port,data⟩ w):=by
 subst hf;have RB:=J (fun W=>VC kind to_ port data rB W);have HL:=Ij (o:=⟨kind,to_,port,data⟩) rB;have ON:=J (fun W=>QX W ⟨kind,to_,port,data⟩ rB);have HA:=J ha;clear rB ha;generalize Vy ⟨kind,to_,port,data⟩=oc at*;generalize to_.cells=tc at*;go_enter func150,ntmps150;go_wp2_with fail;refine wp_region_held_drew (S:=fun V=>ao w V) (by kernel_rfl) (Below.refl _ _).drew (fun hS=>?_)
 (refine ah 0 (some 7) I I (by kernel_rfl) (fun W hW=>rfl) hS ?_;simp only[X])
 (refine ah 1 (some 8) I I (by kernel_rfl) (fun W hW=>rfl) hS ?_;simp only[X])
 refine ah 2 (some 9) (v:=.pointer (some ⟨g,0,none⟩)) I I (by kernel_rfl) (fun W hW=>by kernel_rfl) hS ?_;simp only[X];refine ah 3 (some 10) (v:=.pointer (some ⟨g,0,none⟩)) I I (by kernel_rfl) (fun W hW=>rfl) hS ?_;simp only[X];refine ah 4 (some 11) (v:=.pointer (some ⟨g,0,none⟩)) I I (by kernel_rfl) (fun W hW=>rfl) hS ?_;simp only[X];refine uW 5 (some 12) 67 (.tmp 11) ⟨g,0,none⟩ I I I I (by kernel_rfl) (by kernel_rfl) (by kernel_rfl) (fun _ _ _ h=>h) (by kernel_rfl) (fun V hV=>(Z.G hV Z.lt).tW 67 0 18 Y _ underlying67 I EY _ HA.out) hS ?_;simp only[X]
 (refine ah 6 (some 13) I I (by kernel_rfl) (fun W hW=>rfl) hS ?_;simp only[X])
 refine ah 7 (some 14) (v:=.pointer (some ⟨g,0,none⟩)) I I (by kernel_rfl) (fun W hW=>by kernel_rfl) hS ?_;simp only[X];refine ah 8 (some 15) (v:=.pointer (some ⟨g,0,none⟩)) I I (by kernel_rfl) (fun W hW=>rfl) hS ?_;simp only[X];refine ah 9 (some 16) (v:=.pointer (some ⟨g,18,none⟩)) I I (by kernel_rfl) (fun W hW=>rfl) hS ?_;simp only[X];refine uW 10 (some 17) 3 (.tmp 16) ⟨g,18,none⟩ I I I I (by kernel_rfl) (by kernel_rfl) (by kernel_rfl) (fun _ _ _ h=>h) (by kernel_rfl) (fun V hV=>rQ underlying3 I ((Z.G hV Z.lt).rD 18 hp)) hS ?_;simp only[X]
 (refine ah 11 (some 18) I I (by kernel_rfl) (fun W hW=>rfl) hS ?_;simp only[X])
 refine ah 12 (some 19) (v:=.agg oc.toArray) I I (by kernel_rfl) (fun W hW=>aaB 106 _ I #[(0,.int .i64 kind),(1,.agg tc.toArray),(2,.int .i64 port),(3,.string (bs data))] (by kernel_rfl) (RB.out W)) hS ?_;simp only[X];refine rV 13 (by kernel_rfl) ?_;refine sx 13 (some 20) I I (by kernel_rfl) (Mr (.tmp 19) I I (QW _ oc HL)) ?_;have OO:=ON.out w.drew;have hS2:Below w.heap.size w (w.drew.alloc (.cells oc.toArray 106)):=hS.alloc hS.size _;refine⟨hS2,?_⟩;clear hS;have hS:=hS2;clear hS2;simp only[X]
 (refine ah 14 (some 6) I I (by kernel_rfl) (fun W hW=>rfl) hS ?_;simp only[X])
 refine wpAnyH_done (by kernel_rfl) ?_ _;go_wp2_with fail;go_ret;exact⟨_,I,OO,hS⟩
theorem wP.out{g:Nat}{d:Dl}(h:wP w g d p)(kind:Int)(data:List UInt8):
  Calls prog 150 #[.pointer (some ⟨g,0,none⟩),.int .i64 kind,.string (bs data)] w (aaC ⟨kind,d.y.sv,d.y.port,data⟩ w):=by
 obtain⟨vn,ds,a,b,c,e,Z,rB,_,hM,_⟩:=h.open_;exact acS _ I g kind data _ d.y.sv d.y.port w Z (by rw[Oi rB];omega) rB (ad9 rB) (Vz rB)
theorem aaD(g:Nat)(d:Dl)(w:World)(h:wQ w g d):Calls prog 143 #[.pointer (some ⟨g,0,none⟩)] w (Ik g (wg d) w):=by
 have h':=h;obtain⟨p,hJ,hp,hok⟩:=h;obtain⟨vn,ds,a,b,c,e,Z,rB,_⟩:=hJ.open_;have c24:=Z.rD 24 (QU rB 1 Y);have f24:=Z.frozen 24;have hgl:=Z.lt;by_cases hs:d.st=0
 case neg=>
  have e1:wg d=(d,[]):=by unfold wg;rw[if_pos hs]
  rw[e1];have hs':(d.st !=0)=true:=lI;have H:=J h';clear h' hJ hp hok Z rB hs e1;generalize d.st=st at*;go_enter func143,ntmps143;go_wp2_with fail;go_ret;exact⟨_,I,tf.nil _ _,H.out,World.grownBy.refl _ _⟩
 have e1:wg d=({d with st:=2},[⟨4,d.y.sv,d.y.port,[]⟩]):=by unfold wg;rw[if_neg (by rw[hs];decide)]
 rw[e1];have J2:wP (w.setCell ⟨g,24,none⟩ (.int .i64 2)) g {d with st:=2} p:=hJ.set 1 Y (.int .i64 2) I I I;have G2:w.grownBy (w.setCell ⟨g,24,none⟩ (.int .i64 2)) (some g):=jt;have OC:=J (J2.out 4 []);have HJ:=J J2;rw[hs]at c24;clear h' hJ hp hok Z rB hs e1 J2;go_enter func143,ntmps143;go_wp2_with fail;refine OC.out.mono ?_;rintro _ w2 ⟨v,rfl,hO,b2⟩;go_wp2_with fail;go_ret;exact⟨_,I,hO.mono aH,⟨p,HJ.out.G b2,fun h=>cX,fun h=>cX⟩,tO G2 b2⟩
theorem Jv{y:Qy}(O:k<l.length)(h:ul y (l.take k)=none)(hf:(vz y (vZ l[k])).2=false):ul y (l.take (k+1))=none:=by
 exact pk
theorem Hv{y:Qy}(O:k<l.length)(h:ul y (l.take k)=none)(hf:(vz y (vZ l[k])).2=true):ul y l=some (vz y (vZ l[k])).1:=by
 have e1:ul y (l.take (k+1))=some (vz y (vZ l[k])).1:=by exact pk
 have e2:=D8 y (l.take (k+1)) (l.drop (k+1));rw[List.take_append_drop,e1]at e2;exact e2
theorem aaE(y:Qy):(yM y).2.length<=1:=by unfold yM;split<;>simp
theorem Ms(d:Dl)(e:Ev):(te d e).2.length<=1:=by unfold te;(repeat' split)<;>simp
theorem Mt(d:Dl):(wg d).2.length<=1:=by unfold wg;split<;>simp
theorem aeN(y:Qy):(yM y).1.y=y:=by unfold yM;split<;>rfl
theorem QY(d:Dl)(e:Ev):(te d e).1.ty.length<=d.ty.length+e.data.length:=by
 unfold te
 (repeat' split)<;>simp
def xs(n:List (List UInt8))(k:Nat):List (List UInt8):=(n.take k).map (· ++[120])++n.drop k
theorem Xw(q:Qn)(id:Int)(afh:Bool):(tM (ug q id afh) false).2≠0\/((tM (ug q id afh) false).2=0/\(tM (ug q id afh) false).1.length<=65535/\vZ (tM (ug q id afh) false).1= .ok (ug q id afh)):=by
 have hw:∀r∈(ug q id afh).Em,r.wf:=by
  intro r hr;cases afh with
  |false=>simp[ug,tq.Em]at hr
  |true=>
   have:r=NU:=by simpa[ug,tq.Em]using hr
   subst this;exact⟨I,I⟩
 rcases Ue _ hw with⟨U,F,h3,h4,h5,h6⟩|⟨U,_⟩|⟨U,_⟩
 ·exact .inr ⟨U,h4,h5⟩
 ·exact .inl U
 ·exact .inl U
theorem sA.c0{m:tq}(h:sA w cs m):cs[0]?=some (.int .i64 m.hd.id)/\cs[1]?=some (.bool m.hd.qr):=by obtain⟨vq,va,vu,ve,rfl,_⟩:=h;exact⟨I,I⟩
def dl0(y:Qy):Dl:=⟨y,[],0,false,[],tq.zero⟩
def dlZ(vn:Value)(y:Qy):List Value:=JB (Fa vn (dl0 y)) sV (.pointer none) (.int .i64 0) (.int .u8 0) (.int .u8 0)
theorem Xx(fam az port id:Int)(q:Qn)(b0 b1 b2 b3 b4 b5 b6 b7 b8 b9 b10 b11 b12 b13 b14 b15:UInt8)(vn:Value)(W:World):
  (Instr.build 243 #[(0,.agg (yf vn ⟨⟨fam,[b0,b1,b2,b3,b4,b5,b6,b7,b8,b9,b10,b11,b12,b13,b14,b15],az⟩,port,id,q⟩).toArray)]).run prog W= .ok (.agg (dlZ vn ⟨⟨fam,[b0,b1,b2,b3,b4,b5,b6,b7,b8,b9,b10,b11,b12,b13,b14,b15],az⟩,port,id,q⟩).toArray) W:=by
 kernel_rfl
theorem acT(vn:Value)(y:Qy)(h:y.sv.ip.length=16)(W:World):(Instr.build 243 #[(0,.agg (yf vn y).toArray)]).run prog W= .ok (.agg (dlZ vn y).toArray) W:=by
 obtain⟨⟨fam,ip,az⟩,port,id,q⟩:=y;have h':ip.length=16:=h;clear h;match ip,h' with
 |[b0,b1,b2,b3,b4,b5,b6,b7,b8,b9,b10,b11,b12,b13,b14,b15],_=>exact Xx fam az port id q b0 b1 b2 b3 b4 b5 b6 b7 b8 b9 b10 b11 b12 b13 b14 b15 vn W
theorem Xy(vn vm:Value)(y:Qy)(h:y.sv.ip.length=16):(yf vn y).set 20 vm=yf vm y:=by
 unfold yf;rw[List.set_append_right _ _ cO,y.sv.rY h];rfl
def aaF(y:Qy)(w:World)(e:Ending)(w':World):Prop:=∃g v,e= .returned (.tuple #[.pointer (some ⟨g,0,none⟩),v])/\wQ w' g (yM y).1/\tf (g+1) w' v (yM y).2/\ao w w'/\w.heap.size<=g
theorem GZ:uc []=[]/\wD []=[]:=tR [] cV
theorem aaG(cs:List Value)(y:Qy)(A:Option Addr)(c:Nat)(w:World)(h:QN w cs y A c)(hn:y.q.name.length<=100000):
  Calls prog 129 #[.agg cs.toArray] w (aaF y w):=by
 have rB:=h.ip;have hcl:cs.length=23:=by rw[h.hcs];exact xV rB
 have L20:cs[20]?=some (.slice A y.q.name.length c):=by rw[h.hcs];exact zP rB 2
 have auF:∀vm,cs.set 20 vm=yf vm y:=fun vm=>by rw[h.hcs];exact Xy _ _ _ rB
 have B1:=N.new w 163 cs;have HB1:Below w.heap.size w (w.alloc (.cells cs.toArray 163)):=fZ;have CL:=J (yn A c y.q.name _ (h.nm.G HB1) hn);have hll:Hid (∀l∈y.q.name,l.length<=140737488355328):=J h.nm.2.2.2;have a20:=B1.rD 20 L20;have awX:=J auF;have hnl:y.q.name.length<=17592186044416:=Y;obtain⟨R,hR⟩:=aq (yM y);unfold aaF;rw[hR.out];clear h L20 auF;go_enter func129,ntmps129;go_wp2_with fail;refine CL.out.mono ?_;rintro _ B ⟨A1,c1,rfl,anh,b1⟩;have C1:=B1.G b1 B1.lt;have HB2:=rC HB1 HB1.size b1;clear CL B1 HB1 b1 a20;go_wp2_with(refine rF (.store 24 (.tmp 12) (.tmp 10)) I (af I w.heap.size 20 (.slice A1 y.q.name.length c1) C1 (by rw[hcl];decide) wS ?_));intro w2 C2 g2 zs;clear zs;rw[awX.out]at C2;have al5:=tY anh g2 C1 K;have HB3:=rE HB2 g2 HB2.size (Nat.le_refl _);have hT2:tw w2 (.slice A1 y.q.name.length c1) y.q.name:=xi al5;have N2:=ZD al5 hnl hll.out;have hN2:Mq w2 (.slice A1 y.q.name.length c1) y.q.name:=⟨hT2,hn,hll.out⟩;have RB:=J (fun W=>acT (.slice A1 y.q.name.length c1) y rB W);have hql:=xV (vn:=.slice A1 y.q.name.length c1) rB;have q19:(yf (.slice A1 y.q.name.length c1) y)[19]?=some (.int .i64 y.id):=zP rB 1;have Q3:=J (afS (vn:=.slice A1 y.q.name.length c1) rB);have a19:=fun o=>(C2.alloc o).rD 19 q19
 have HLL:Hid (∀W,N W w2.heap.size 243 (dlZ (.slice A1 y.q.name.length c1) y)->Mq W (.slice A1 y.q.name.length c1) y.q.name->wP W w2.heap.size (dl0 y) []):=J (fun W Z hN=>
  ⟨_,sV,⟨none,[],0,0,zK (d:=dl0 y) rB,Z,I,I,ar,ar⟩,rB,hN,sA.zero _⟩)
 have BU:=J (fun W (Z:ao w2 W)=>Gh A1 c1 y.q y.id false W (N2.G Z) hn);have AP:Hid (Hu y=0->(QS y).length<=65535):=J (fun h0=>by
  rcases Xw y.q y.id false with h|⟨_,h,_⟩
  ·exact absurd h0 h
  ·
   exact h)
 clear awX anh g2 C1 HB2 al5 hT2 N2 q19 hll hnl;generalize yf (.slice A1 y.q.name.length c1) y=qs at*;obtain⟨LL,hLL⟩:=aq (dlZ (.slice A1 y.q.name.length c1) y);rw[hLL.out]at RB HLL;unfold qC at Q3;go_wp2_with(first
  |(refine rF (.load 163 (.tmp 1)) rfl ?_;go_must(refine rG rfl _ _ rfl w.heap.size 0 rfl C2 23 Y _ underlying163 rfl D7 qs (uH Y) ?_))
  |(refine rF (.build 243 #[(0,.tmp 13)]) rfl ?_;go_must(refine sy rfl 243 _ rfl #[(0,.agg qs.toArray)] cY (RB.out _) ?_))
  |(refine rF (.load 160 (.tmp 17)) rfl ?_;go_must(refine rG rfl _ _ rfl w.heap.size 20 rfl (C2.alloc _) 3 Y _ underlying160 rfl xS _ Q3.out ?_)))
 have kn:Below w2.heap.size w2 (w2.alloc (.cells LL.toArray 243)):=fZ;have D1:=N.new w2 243 LL;refine(BU.out _ kn).mono ?_;rintro _ w3 ⟨rfl,b3⟩;have k3:=rC kn kn.size b3;have J3:=HLL.out w3 (D1.G b3 D1.lt) (hN2.rM (rZ.G k3));have HB4:=rC HB3 HB3.size k3;have hg:w.heap.size<=w2.heap.size:=HB3.size;clear RB HLL BU kn D1 b3 k3 hN2 HB3 C2 a19 Q3 hLL;generalize w2.heap.size=g at*;obtain⟨vn,L,_,hbk,hL,_,_,_,_,_,c23,c24,_⟩:=J3.sD;have a23:=hbk.rD 23 c23;have a24:=hbk.rD 24 c24;have f23:=hbk.frozen 23;have f24:=hbk.frozen 24;have hgl:=hbk.lt;clear c23 c24 hL;by_cases he:Hu y=0
 case neg=>have HR2:Hid (R=(⟨y,[],2,false,[],tq.zero⟩,[])):=J (by rw[<-hR.out];unfold yM;rw[if_neg he]);have he1:(Hu y==0)=false:=iu;have he2:(Hu y !=0)=true:=iu;have J4:wP (w3.setCell ⟨g,24,none⟩ (.int .i64 2)) g ⟨y,[],2,false,[],tq.zero⟩ []:=J3.set 1 Y (.int .i64 2) I I I;have H5:Below w.heap.size w (w3.setCell ⟨g,24,none⟩ (.int .i64 2)):=rE HB4 (sd (World.grownBy.refl _ _) 24 (.int .i64 2)) HB4.size hg;have HJ:=J J4;clear he hR J4 J3 AP hbk;unfold Hu at*;generalize(tM (ug y.q y.id false) false).1=o1 at*;generalize(tM (ug y.q y.id false) false).2=o2 at*;go_wp2_with fail;go_ret2;rw[HR2.out];exact⟨g,_,I,⟨[],HJ.out,fun h=>cX,fun h=>cX⟩,tf.nil _ _,H5,hg⟩
 have HR2:Hid (R=(⟨y,rP 2 (QS y).length++QS y,0,false,[],tq.zero⟩,[⟨2,y.sv,y.port,[]⟩])):=J (by rw[<-hR.out];unfold yM;rw[if_pos he]);have E:=AP.out he;clear AP hR hbk;unfold Hu at he;unfold QS at HR2 E;generalize(tM (ug y.q y.id false) false).1=o1 at*;rw[he];clear he;go_wp2_with fail;refine(Oh o1 _ E).mono ?_;rintro _ w4 ⟨rfl,b4⟩;have J4:=J3.G b4;have HB5:=rC HB4 HB4.size b4;have J5:wP (w4.setCell ⟨g,23,none⟩ (.string (bs (rP 2 o1.length++o1)))) g ⟨y,rP 2 o1.length++o1,0,false,[],tq.zero⟩ []:=J4.set 0 Y (.string (bs (rP 2 o1.length++o1))) I I I;have H5:Below w.heap.size w (w4.setCell ⟨g,23,none⟩ (.string (bs (rP 2 o1.length++o1)))):=rE HB5 (sd (World.grownBy.refl _ _) 23 _) HB5.size hg;obtain⟨_,L4,_,hb4,_,_,_,_,_,_,c23,_⟩:=J4.sD;have e23:=hb4.rD 23 c23;have aNa:=hb4.frozen 23;have aBx:=hb4.lt;have OC:=J (J5.out 2 []);have HJ:=J J5;clear J3 J4 J5 HB4 b4 hb4 c23 a23 a24 f23 f24 hgl;generalize rP 2 o1.length++o1=o2 at*;go_wp2_with fail;refine OC.out.mono ?_;rintro _ w5 ⟨v,rfl,hO,b5⟩;have H6:=rC H5 H5.size b5;go_wp2_with fail;go_ret2;rw[HR2.out];exact⟨g,_,I,⟨[],HJ.out.G b5,fun _=>GZ.2.symm,fun _=>by show ul y (uc [])=none;rw[GZ.1];rfl⟩,hO.mono (by have:g+1<=w4.heap.size:=aBx;simpa[World.setCell]using this),H6,hg⟩
theorem Up:∀(n:Nat) (s:List UInt8),s.length<=n->∀t∈uc s,t.length<=s.length:=by
 intro n;induction n with
 |zero=>intro s hs t ht;have:s=[]:=gE;subst this;rw[(tR [] cV).1]at ht;cases ht
 |succ n ih=>
  intro s hs t ht;cases hw:uh s with
  |false=>rw[(tR s hw).1]at ht;cases ht
  |true=>
   have hr:=zk s hw;rw[(vT s hw).1]at ht;rcases List.mem_cons.1 ht with rfl|ht
   ·unfold KK;simp;omega
   ·have:=ih (yC s) Y t ht;omega
def Gi(d:Dl)(s:List UInt8):Dl×List Ou:=match ul d.y (uc (d.ty++s))with
 |some m=>({d with ty:=d.ty++s,xZ:=m,st:=1},[⟨4,d.y.sv,d.y.port,[]⟩])
 |none=>({d with ty:=d.ty++s},[])
theorem aeO:(prog.info? 163).map (·.size)=some 23:=by kernel_rfl
theorem Xz(g:Nat)(d:Dl)(s:List UInt8)(w:World)(h:wQ w g d)(hst:d.st=0)(Z:d.ty.length+s.length<=8796093022208):
  Calls prog 158 #[.pointer (some ⟨g,0,none⟩),.string (bs s)] w (Ik g (Gi d s) w):=by
 obtain⟨p,hJ,hp,hok⟩:=h;have hp:=hp hst;have hpl:p.length<=d.ty.length:=by rw[hp];exact aar d.ty.length d.ty (Nat.le_refl _)
 obtain⟨HF,HR⟩:=QT d hok hst s;rw[<-hp]at HF HR;obtain⟨R,hR⟩:=aq (Gi d s);rw[hR.out];have FD:Hid (Calls prog 165 #[.pointer (some ⟨g,26,none⟩),.string (bs s)] w (fun e w'=>∃v,e= .returned v/\tw w' v (uc (p++s))/\wP w' g d (wD (p++s))/\w.grownBy w' (some g))):=J (by
  obtain⟨vn,ds,hJA,rB,hN,hM⟩:=hJ;refine(aav g _ ds p s w hJA Y).mono ?_;rintro e w' ⟨v,he,hT,hJ1,g1⟩;obtain⟨_,_,_,_,_,hbk,_⟩:=hJA;exact⟨v,he,hT,⟨vn,ds,hJ1,rB,hN.Un g1 hbk,hM.Un g1 hbk⟩,g1⟩)
 have HLm:Hid (∀t∈uc (p++s),t.length<=maxLen):=J (fun t ht=>Nat.le_trans (Up _ _ (Nat.le_refl _) t ht) (by simp[maxLen];omega));have hnl:(uc (p++s)).length<=8796093022208:=by have:=Xs (p++s).length (p++s) (Nat.le_refl _);simp at this;omega
 have HB:Hid (Gi d s=match ul d.y (uc (p++s))with
  |some m=>({d with ty:=d.ty++s,xZ:=m,st:=1},[⟨4,d.y.sv,d.y.port,[]⟩])
  |none=>({d with ty:=d.ty++s},[])):=J (by unfold Gi;rw[HF])
 have HF':=J HF;have HR':=J HR;have HST:=J hst;clear hJ hp hok hpl HF HR Z hst;generalize uc (p++s)=l at*;generalize wD (p++s)=q at*;go_enter func158,ntmps158;go_wp2_with fail;refine FD.out.mono ?_;rintro _ B ⟨v,rfl,hT,hJ1,g1⟩;obtain⟨A,c,hv,-,-⟩:=hT.form;subst hv;clear FD;go_wp2_with fail;go_loopw[15] (fun iv wr=>∃k:Nat,k<=l.length/\iv= .int .i64 k/\ul d.y (l.take k)=none/\wP wr g d q/\tw wr (.slice A l.length c) l/\w.grownBy wr (some g)) (fun iv _=>l.length-(intOf iv).toNat)
 case atStart=>exact⟨0,Nat.zero_le _,I,I,hJ1,hT,g1⟩
 clear hJ1 hT g1;obtain⟨k,O,rfl,hno,hJ,hT,hg⟩:=hrel;have HN:=J hno;clear hno;by_cases aA:k<l.length
 case pos=>
  have h1:(k:Int)<l.length:=Y;obtain⟨A',c',hA,hTx,hc⟩:=hT.form;injection hA with hA1 hA2 hA3;subst hA1 hA3;obtain⟨ba,oa,hA,la,xa⟩:=hTx Y;subst hA;have cs1:=xa k aA;obtain⟨vn,L,ds,hbk,hL,rB,hNm,hq,ha,c18,c23,c24,c25,hpo,hM,ao8⟩:=hJ.sD;obtain⟨An,cn,hvn,hNR⟩:=hNm.form;subst hvn;have FR:=J (Mo (yf (.slice An d.y.q.name.length cn) d.y) d.y An cn l[k] wr ⟨I,rB,hNR⟩ (HLm.out _ (List.getElem_mem aA)));have HQ:=J hq;have HJ:=J hJ;have HT:=J hT;have HY:Hid ((vz d.y (vZ l[k])).2=true->ul d.y l=some (vz d.y (vZ l[k])).1):=J (fun hf=>Hv aA HN.out hf);have HNO:Hid ((vz d.y (vZ l[k])).2=false->ul d.y (l.take (k+1))=none):=J (fun hf=>Jv aA HN.out hf);clear hJ hT hNm hNR hq ha c18 c23 c24 c25 hpo hM ao8 xa hTx rB hc HN;generalize vz d.y (vZ l[k])=ahk at*;generalize l[k]=t at*;generalize yf (.slice An d.y.q.name.length cn) d.y=qs at*;go_wp2_with(refine rF (.load 163 (.tmp 22)) I ?_;go_must(refine rG I _ _ I g 0 I hbk 23 Y _ underlying163 I aeO qs HQ.out ?_));refine FR.out.mono ?_;rintro _ w2 ⟨ds2,rfl,hM2,b2⟩;have hdl:=hM2.len;have hd1:=J hM2.one;have J2:=HJ.out.G b2;have T2:=HT.out.G b2;have g2:=tO hg b2;clear FR hbk HJ HT hg b2 cs1 HQ;go_wp2_with(refine rF (.store 169 (.tmp 7) (.tmp 26)) I (ab I w2.heap.size 0 ds2 (N.uE _ _ sV _ I) cP cQ hd1.out ?_));intro w3 B3 g3 _;replace B3:N w3 w2.heap.size 169 ds2:=aax B3 cR;have k3:ao w2 w3:=jm;have J3:=J2.G k3;have T3:=T2.G k3;have G3:=tO g2 k3;have M3:=hM2.G k3;clear g3 k3 J2 T2 g2 hM2;cases hf:ahk.2 with
  |false=>
   have hn:=HNO.out hf;have HN:=J hn;clear hn HNO HY hf M3 B3;go_wp2_with fail;go_roundw
   case rel=>exact⟨k+1,Y,fQ,HN.out,J3,T3,G3⟩
   case measure=>simp[intOf];omega
  |true=>
   have hy:=HY.out hf;have hR2:R=({d with ty:=d.ty++s,xZ:=ahk.1,st:=1},[⟨4,d.y.sv,d.y.port,[]⟩]):=by rw[<-hR.out,HB.out,hy]
   have HR2:=J hR2;clear hy hR2 HNO HY hf T3 HB hR;obtain⟨vn,L3,ds3,hb3,hL3,rB,hNm,hq,ha,c18,c23,c24,c25,hpo,hM,ao8⟩:=J3.sD;have HP:=J ao8;clear ao8 hNm hq ha c18 c23 c24 c25 hpo hM;go_wp2_with(first
    |(refine rF (.load 169 (.tmp 7)) rfl ?_;go_must(refine rG rfl _ _ rfl w2.heap.size 0 rfl B3 14 Y _ underlying169 rfl tn ds2 (uH Y) ?_))
    |(refine rF (.store 169 (.tmp 32) (.tmp 30)) rfl (ab rfl g 30 ds2 hb3 (by rw[hdl,hL3];omega) cQ hd1.out ?_)))
   intro w4 B4 g4 _;have J4:=HP.out w4 ds2 ahk.1 g4 (by rw[hdl,List.append_assoc];exact B4) M3;have G4:=rO G3 g4 (.inl I);obtain⟨vn4,L4,_,hb4,hL4,_,_,_,_,_,_,c24,_⟩:=J4.sD;have d24:=hb4.rD 24 c24;have f24:=hb4.frozen 24;have hgl:=hb4.lt;have J5:wP (w4.setCell ⟨g,24,none⟩ (.int .i64 1)) g {d with xZ:=ahk.1,st:=1} q:=J4.set 1 Y (.int .i64 1) I I I;have G5:w.grownBy (w4.setCell ⟨g,24,none⟩ (.int .i64 1)) (some g):=rO G4 (sd (World.grownBy.refl _ _) _ _) (.inl I);have OC:=J (J5.out 4 []);have HJ5:=J J5;clear HP B4 g4 M3 B3 hb3 G3 J3 hb4 J4 G4 c24 J5;go_wp2_with fail;refine OC.out.mono ?_;rintro _ w5 ⟨v,rfl,hO,b5⟩;go_wp2_with fail;go_ret;rw[HR2.out];obtain⟨vn6,ds6,k1,k2,k3,k4⟩:=HJ5.out.G b5;exact⟨_,I,hO.mono G5.size,⟨q,⟨vn6,ds6,k1,k2,k3,k4⟩,fun h=>cX,fun h=>cX⟩,tO G5 b5⟩
 obtain rfl:k=l.length:=Y;have h1:¬(l.length:Int)<l.length:=Y;have hn:=HN.out;rw[List.take_of_length_le (Nat.le_refl _)]at hn;have hR2:R=({d with ty:=d.ty++s},[]):=by rw[<-hR.out,HB.out,hn]
 have HR2:=J hR2;have HOK:=J hn;clear hR2 hn hT;go_wp2_with fail;go_ret;rw[HR2.out];obtain⟨vn6,ds6,k1,k2,k3,k4⟩:=hJ;exact⟨_,I,tf.nil _ _,⟨q,⟨vn6,ds6,k1,k2,k3,k4⟩,fun _=>HR'.out.symm,fun _=>by rw[show ul d.y (uc (d.ty++s))=ul d.y l from HF'.out];exact HOK.out⟩,hg⟩
theorem aaH(g:Nat)(d:Dl)(e:Ev)(w:World)(h:wQ w g d)(rB:e.fr.ip.length=16)(Z:d.ty.length+e.data.length<=8796093022208):
  Calls prog 145 #[.pointer (some ⟨g,0,none⟩),.agg (vA e).toArray] w (Ik g (te d e) w):=by
 have hel:=yX rB;have E0:(vA e)[0]?=some (.int .i64 e.kind):=rfl;have E20:(vA e)[20]?=some (.int .i64 e.port):=Gg rB 1;have E21:(vA e)[21]?=some (.string (bs e.data)):=Gg rB 2;have HX:Below w.heap.size w (w.alloc (.cells (vA e).toArray 69)):=fZ;have h2:=N.new w 69 (vA e);obtain⟨p,hJ,hp,hok⟩:=h;have HK:=J (And.intro hp hok);obtain⟨vn,L,ds,hbk,hL,_,_,_,_,c18,_,c24,_⟩:=(hJ.G HX).sD;replace c18:=hbk.rD 18 c18;replace c24:=hbk.rD 24 c24;have d20:=h2.rD 20 E20;obtain⟨R,hR⟩:=aq (te d e);rw[hR.out];have BY:=J (fun W (hD:wQ W g d) hs=>Xz g d e.data W hD hs Z);clear hp hok hbk hL rB Z E20;generalize hes:vA e=es at*;clear hes;by_cases hs:d.st=0
 case neg=>have HR2:Hid (R=(d,[])):=J (by rw[<-hR.out];unfold te;rw[if_pos (.inl hs)]);have hs':(d.st !=0)=true:=lI;clear hs BY hR;exact oy
 rw[hs]at c24;by_cases hpo:e.port=d.y.port
 case neg=>
  have HR2:Hid (R=(d,[])):=J (by rw[<-hR.out];unfold te;rw[if_pos (.inr hpo)]);have aK7:(e.port !=d.y.port)=true:=by simpa using hpo
  clear hpo BY hR;exact oy
 have H0:Hid (¬(d.st≠0\/e.port≠d.y.port)):=J (by rw[hs,hpo];simp);have HS:=J hs;rw[hpo]at d20;clear hs hpo;by_cases hk3:e.kind=3
 case pos=>
  rw[hk3]at E0;cases hop:d.op with
  |true=>have HR2:Hid (R=(d,[])):=J (by rw[<-hR.out];unfold te;rw[if_neg H0.out,if_pos hk3,if_pos hop]);clear hk3 BY hR;exact mU
  |false=>have HR2:Hid (R=({d with op:=true},[⟨3,d.y.sv,d.y.port,d.oct⟩])):=J (by rw[<-hR.out];unfold te;rw[if_neg H0.out,if_pos hk3,if_neg (by rw[hop];decide)]);clear hk3 BY hR;go_enter func145,ntmps145;go_wp2_with fail;go_quiet(fail);obtain⟨W,hW⟩:∃W,W=(w.alloc (.cells es.toArray 69)).drewN nq:=gh;rw[<-hW];have HW:ao w W:=iE;have EW:N W w.heap.size 69 es:=jx;have JW:=hJ.G HW;clear hW c18 c24 d20 h2 hJ HX;obtain⟨vn,L,ds,hbk,hL,_,_,_,_,_,c23,c24,c25,_⟩:=JW.sD;have a23:=hbk.rD 23 c23;have a24:=hbk.rD 24 c24;have a25:=hbk.rD 25 c25;have f24:=hbk.frozen 24;have f25:=hbk.frozen 25;have hgl:=hbk.lt;have d0:=EW.rD 0 E0;have d21:=EW.rD 21 E21;clear c23 c24 c25 EW hbk hL;rw[hop]at a25;have J6:wP (W.setCell ⟨g,25,none⟩ (.bool true)) g {d with op:=true} p:=JW.set 2 Y (.bool true) I I I;have G6:w.grownBy (W.setCell ⟨g,25,none⟩ (.bool true)) (some g):=iX;have OC:=J (J6.out 3 d.oct);have HJ:=J J6;clear hop J6 JW;go_wp2_with fail;refine OC.out.mono ?_;rintro _ w5 ⟨v,rfl,hO,b5⟩;go_wp2_with fail;go_ret;rw[HR2.out];exact⟨_,I,hO.mono G6.size,⟨p,HJ.out.G b5,HK.out⟩,tO G6 b5⟩
 have ary:(e.kind==3)=false:=by simpa using hk3
 by_cases hk4:e.kind=4
 case pos=>
  rw[hk4]at E0;cases hop:d.op with
  |true=>have HR2:Hid (R=Gi d e.data):=J (by rw[<-hR.out];unfold te Gi;rw[if_neg H0.out,if_neg hk3,if_pos hk4,if_pos hop];all_goals rfl);clear hk3 hk4 ary hR;go_enter func145,ntmps145;go_wp2_with fail;go_quiet(fail);obtain⟨W,hW⟩:∃W,W=(w.alloc (.cells es.toArray 69)).drewN nq:=gh;rw[<-hW];have HW:ao w W:=iE;have EW:N W w.heap.size 69 es:=jx;have JW:=hJ.G HW;clear hW c18 c24 d20 h2 hJ HX;obtain⟨vn,L,ds,hbk,hL,_,_,_,_,_,c23,c24,c25,_⟩:=JW.sD;have a23:=hbk.rD 23 c23;have a24:=hbk.rD 24 c24;have a25:=hbk.rD 25 c25;have f24:=hbk.frozen 24;have f25:=hbk.frozen 25;have hgl:=hbk.lt;have d0:=EW.rD 0 E0;have d21:=EW.rD 21 E21;clear c23 c24 c25 EW hbk hL;rw[hop]at a25;have BC:=J (BY.out W ⟨p,JW,HK.out⟩ HS.out);clear hop BY JW;generalize e.data=dt at*;go_wp2_with fail;refine BC.out.mono ?_;rintro _ w5 ⟨v,rfl,hO,hD,g5⟩;go_wp2_with fail;go_ret;rw[HR2.out];exact⟨_,I,hO.mono HW.size,hD,rO (r5 HW _) g5 (.inl I)⟩
  |false=>have HR2:Hid (R=(d,[])):=J (by rw[<-hR.out];unfold te;rw[if_neg H0.out,if_neg hk3,if_pos hk4,if_neg (by rw[hop];decide)]);clear hk3 hk4 ary BY hR;exact mU
 have aBk:(e.kind==4)=false:=by simpa using hk4
 by_cases hk5:e.kind=5
 case pos=>have HR2:Hid (R=({d with st:=2},[])):=J (by rw[<-hR.out];unfold te;rw[if_neg H0.out,if_neg hk3,if_neg hk4,if_pos hk5]);rw[hk5]at E0;clear hk3 hk4 hk5 ary aBk BY hR;go_enter func145,ntmps145;go_wp2_with fail;go_quiet(fail);obtain⟨W,hW⟩:∃W,W=(w.alloc (.cells es.toArray 69)).drewN nq:=gh;rw[<-hW];have HW:ao w W:=iE;have EW:N W w.heap.size 69 es:=jx;have JW:=hJ.G HW;clear hW c18 c24 d20 h2 hJ HX;obtain⟨vn,L,ds,hbk,hL,_,_,_,_,_,c23,c24,c25,_⟩:=JW.sD;have a23:=hbk.rD 23 c23;have a24:=hbk.rD 24 c24;have a25:=hbk.rD 25 c25;have f24:=hbk.frozen 24;have f25:=hbk.frozen 25;have hgl:=hbk.lt;have d0:=EW.rD 0 E0;have d21:=EW.rD 21 E21;clear c23 c24 c25 EW hbk hL;have J6:wP (W.setCell ⟨g,24,none⟩ (.int .i64 2)) g {d with st:=2} p:=JW.set 1 Y (.int .i64 2) I I I;have G6:w.grownBy (W.setCell ⟨g,24,none⟩ (.int .i64 2)) (some g):=iX;have HJ:=J J6;clear J6 JW;go_wp2_with fail;go_ret;rw[HR2.out];exact⟨_,I,tf.nil _ _,⟨p,HJ.out,fun h=>cX,fun h=>cX⟩,G6⟩
 have HR2:Hid (R=(d,[])):=J (by rw[<-hR.out];unfold te;rw[if_neg H0.out,if_neg hk3,if_neg hk4,if_neg hk5]);have aLC:(e.kind==5)=false:=by simpa using hk5
 clear hk3 hk4 hk5 BY hR;generalize e.kind=kd at*;go_enter func145,ntmps145;go_wp2_with fail;go_quiet(fail);obtain⟨W,hW⟩:∃W,W=(w.alloc (.cells es.toArray 69)).drewN nq:=gh;rw[<-hW];have HW:ao w W:=iE;have EW:N W w.heap.size 69 es:=jx;have JW:=hJ.G HW;clear hW c18 c24 d20 h2 hJ HX;obtain⟨vn,L,ds,hbk,hL,_,_,_,_,_,c23,c24,c25,_⟩:=JW.sD;have a23:=hbk.rD 23 c23;have a24:=hbk.rD 24 c24;have a25:=hbk.rD 25 c25;have f24:=hbk.frozen 24;have f25:=hbk.frozen 25;have hgl:=hbk.lt;have d0:=EW.rD 0 E0;have d21:=EW.rD 21 E21;clear c23 c24 c25 EW hbk hL;go_wp2_with fail;go_ret;rw[HR2.out];exact⟨_,I,tf.nil _ _,⟨p,JW,HK.out⟩,r5 HW _⟩
end Go.Proofs.YtakkipnmpmobbaaGreat
