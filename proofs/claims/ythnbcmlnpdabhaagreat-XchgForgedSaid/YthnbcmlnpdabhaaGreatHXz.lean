/-
  The reference's layer 24:Message. ask.Build.
-/
import Derived.Test.YthnbcmlnpdabhaaGreatHVz
import Derived.Test.YthnbcmlnpdabhaaGreatHQz
namespace Go.Proofs.YthnbcmlnpdabhaaGreat
open _root_.Go.Proofs.Tryz
set_option maxHeartbeats 8000000
open Go.RowKit
set_option maxRecDepth 100000
set_option linter.unusedVariables false
set_option linter.unusedSimpArgs false
variable {w w':World} {v:Value} {n l:List (List UInt8)} {t:TypeId} {cs L:List Value} {p:List UInt8} {lo k:Nat} {o:Oper} {a:Act}
def Un(m:vo)(w:World)(e:Ending)(w':World):Prop:=∃cs Aq Aa Au Ae cq ca cu ce,e= .returned (.agg cs.toArray)/\al w w'/\yZ w' cs m Aq Aa Au Ae cq ca cu ce
theorem Uo(A:Option Addr)(c:Nat)(q:Qn)(id:Int)(w:World)(hA:xj w A c q.name):
  Calls prog 125 #[.agg #[.slice A q.name.length c,.int .i64 q.E,.int .i64 q.N],.int .i64 id,.bool true] w (Un (vw q id true) w):=by
 have AI:=Y (fun(w':World) (b:al w w') (gq gr:Nat) hq hr=> @Y5 w' 0 gq gr A c q id true hq hr (hA.G b));clear hA;generalize vw q id true=h2 at*;generalize q.E=E,q.N=N,q.name.length=nl at*;have B6:=Z.vP (w.alloc (.cells #[.slice A nl c,.int .i64 E,.int .i64 N] 28)) 50 uw (w.heap.size+1) ap;go_enter func125,ntmps125;go_wp2_with(refine tO (.store 50 (.tmp 6) (.tmp 20)) J (ab J (w.heap.size+1) 0 (yh (JO id) (.slice (some ⟨w.heap.size+1+1,0,none⟩) 1 1) tS tS (.slice (some ⟨w.heap.size+1+1+1+1,0,none⟩) 1 1)) (((B6.alloc _).alloc _).alloc _) bS ux (zI _ J J J J) ?_));intro w5 B5 g5 s5;have kk:∀o1 o2 o3 o4 o5,Below w.heap.size w (((((w.alloc o1).alloc o2).alloc o3).alloc o4).alloc o5):=fun o1 o2 o3 o4 o5=>(((((Below.refl _ _).alloc (Nat.le_refl _) _).alloc ap _).alloc az _).alloc az _).alloc az _
 have b5:=tN (kk _ _ _ _ _) g5 az I;have Bq:Z w5 (w.heap.size+1+1) 28 [.slice A nl c,.int .i64 E,.int .i64 N]:=Z.grown (((Z.vP _ 28 [.slice A nl c,.int .i64 E,.int .i64 N] _ ap).alloc _).alloc _) g5 ap;have Br:Z w5 (w.heap.size+1+1+1+1) 119 QH:=Z.grown (Z.vP _ 119 QH _ ap) g5 az;clear kk g5 B6;go_wp2_with fail;refine wQ J (w.heap.size+1) J B5 _ underlying50 J ux J ?_;exact⟨_,_,_,_,_,_,_,_,_,J,b5,AI.out w5 b5 _ _ Bq (fun _=>Br)⟩
theorem IM(A:Option Addr)(c:Nat)(q:Qn)(id:Int)(aaI:Bool)(w:World)(hA:xj w A c q.name)(hn:q.name.length<=100000):
  Calls prog 74 #[.agg #[.slice A q.name.length c,.int .i64 q.E,.int .i64 q.N],.int .i64 id,.bool aaI] w (uf (.tuple #[.string (bs (vg (vw q id aaI) false).1),.int .i64 (vg (vw q id aaI) false).2]) w):=by
 have kb:Below w.heap.size w (w.alloc (.cells #[.slice A q.name.length c,.int .i64 q.E,.int .i64 q.N] 28)):=gj;have MS:=Y (KY A c q id aaI _ (hA.G kb) hn);have U:(vw q id aaI).qs.length<=700:=bL;have X:(vw q id aaI).BD.length<=400:=mz;clear hA hn;generalize vw q id aaI=h2 at*;generalize q.E=E,q.N=N,q.name.length=nl at*;go_enter func74,ntmps74;go_wp2_with fail;refine MS.out.mono ?_;rintro _ w1 ⟨cs,Aq,Aa,Au,Ae,cq,ca,cu,ce,rfl,b1,hM⟩;have EN:=Y (Rj cs h2 false Aq Aa Au Ae cq ca cu ce w1 (hM w1 (Jp.refl _ _)) U X);exact pT
structure Ou where
 kind:Int
 to_:uV
 port:Int
 data:List UInt8
deriving DecidableEq
structure Dl where
 y:Qy
 oct:List UInt8
 st:Int
 op:Bool
 aA:List UInt8
 xP:vo
def CR(y:Qy):List UInt8:=(vg (vw y.q y.id false) false).1
def Gf(y:Qy):Int:=(vg (vw y.q y.id false) false).2
def yW(y:Qy):Dl×List Ou:=if Gf y=0 then(⟨y,tT 2 (CR y).length++CR y,0,false,[],vo.zero⟩,[⟨2,y.sv,y.port,[]⟩])else(⟨y,[],2,false,[],vo.zero⟩,[])
def v9(y:Qy):List (List UInt8)->Option vo
 |[]=>none
 |s::l=>if(wH y (xo s)).2 then some (wH y (xo s)).1 else v9 y l
theorem GI(y:Qy)(a b:List (List UInt8)):v9 y (a++b)=match v9 y a with
  |some m=>some m
  |none=>v9 y b:=by
 induction a with
 |nil=>rfl
 |cons s a ih=>
  show(if _ then _ else v9 y (a++b))=match(if _ then _ else v9 y a)with|some m=>some m|none=>v9 y b
  split
  ·rfl
  ·exact ih
def uW(d:Dl)(e:Ev):Dl×List Ou:=
 if d.st≠0\/e.port≠d.y.port then(d,[])
 else if e.kind=3 then(if d.op then(d,[])else({d with op:=true},[⟨3,d.y.sv,d.y.port,d.oct⟩]))
 else if e.kind=4 then(if d.op then(match v9 d.y (vF (d.aA++e.data))with
   |some m=>({d with aA:=d.aA++e.data,xP:=m,st:=1},[⟨4,d.y.sv,d.y.port,[]⟩])
   |none=>({d with aA:=d.aA++e.data},[]))else(d,[]))
 else if e.kind=5 then({d with st:=2},[])else(d,[])
def xB(d:Dl):Dl×List Ou:=if d.st≠0 then(d,[])else({d with st:=2},[⟨4,d.y.sv,d.y.port,[]⟩])
def Dl.ok(d:Dl):Prop:=d.st=0->v9 d.y (vF d.aA)=none
theorem VA(y:Qy):(yW y).1.ok:=by
 unfold yW;split
 ·intro _;show v9 y (vF [])=none;rw[(vX [] dV).1];rfl
 ·intro h;cases h
theorem RJ(d:Dl)(e:Ev)(h:d.ok):(uW d e).1.ok:=by
 unfold uW;split
 ·exact h
 ·
  split
  ·split<;>exact h
  ·
   split
   ·
    split
    ·
     split
     ·intro h;cases h
     ·rename_i hn;intro _;exact hn
    ·exact h
   ·exact tf
theorem VB(d:Dl)(e:Ev):(uW d e).1.y=d.y:=by
 unfold uW
 (repeat' split)<;>rfl
theorem RK(d:Dl)(h:d.ok)(h0:d.st=0)(s:List UInt8):v9 d.y (vF (d.aA++s))=v9 d.y (vF (yb d.aA++s))/\yb (d.aA++s)=yb (yb d.aA++s):=by
 obtain⟨U,X⟩:=Uj d.aA.length d.aA s (Nat.le_refl _);refine⟨?_,X⟩;rw[U,GI,h h0]
def Ft(o:Ou):List Value:=.int .i64 o.kind::(o.to_.cells++[.int .i64 o.port,.string (bs o.data)])
theorem Cy{o:Ou}(h:o.to_.ip.length=16):(Ft o).length=21:=by simp[Ft,o.to_.ur h]
theorem adi{o:Ou}(h:o.to_.ip.length=16):((Ft o).drop 1).take 18=o.to_.cells:=by
 show(o.to_.cells++_).take 18=_;exact List.take_left' (o.to_.ur h)
theorem Up{o:Ou}(h:o.to_.ip.length=16)(k:Nat):(Ft o)[19+k]?=[Value.int .i64 o.port,.string (bs o.data)][k]?:=by
 unfold Ft;rw[show 19+k=(18+k)+1 by omega,List.getElem?_cons_succ,List.getElem?_append_right (by rw[o.to_.ur h];omega),o.to_.ur h,Nat.add_sub_cancel_left]
theorem aby{o:Ou}:∀v∈Ft o,v.oneCell'=true:=by
 intro v hv;rcases List.mem_cons.1 hv with rfl|hv
 ·rfl
 rcases List.mem_append.1 hv with hv|hv
 ·exact o.to_.xg v hv
 ·simp only[List.mem_cons,List.not_mem_nil,or_false]at hv;rcases hv with rfl|rfl<;>rfl
def adj(w:World)(A:Option Addr)(l:List Ou):Prop:=(∀o∈l,o.to_.ip.length=16)/\(0<l.length->∃b off,A=some ⟨b,off,none⟩/\b<w.heap.size/\∀i (hi:i<l.length),w.rangeAt b (off+i*21) (Ft l[i]))
theorem Xb : (prog.fieldsOf 97).toList = [{ name := "Kind", type := 3, offset := 0, embedded := false, tag := "", pkgPath := "", byteOffset := 0 }, { name := "To", type := 24, offset := 1, embedded := false, tag := "", pkgPath := "", byteOffset := 8 }, { name := "Port", type := 3, offset := 19, embedded := false, tag := "", pkgPath := "", byteOffset := 40 }, { name := "Data", type := 9, offset := 20, embedded := false, tag := "", pkgPath := "", byteOffset := 48 }] := by kernel_rfl
theorem ZP(a b:uV)(ha:a.ip.length=16)(F:b.ip.length=16)(w:World):(Op.equalIn 9999 24 (.agg a.cells.toArray) (.agg b.cells.toArray)).run prog w= .ok (decide (a=b)) w:=by
 rw[run_equalIn_struct w 9998 24 _ _ aK (by kernel_rfl),Ky];have p0:∀(x:uV) (w:World),(part 3 x.cells.toArray 0).run prog w= .ok (.int .i64 x.fam) w:=ko;have p1:∀(x:uV),x.ip.length=16->∀(w:World),(part 22 x.cells.toArray 1).run prog w= .ok (.agg (vl x.ip).toArray) w:=fun x hx w=>by
  exact qM
 have p2:∀(x:uV),x.ip.length=16->∀(w:World),(part 3 x.cells.toArray 17).run prog w= .ok (.int .i64 x.cl) w:=jH;have e0:(Op.equalIn 9998 3 (.int .i64 a.fam) (.int .i64 b.fam)).run prog w= .ok (a.fam==b.fam) w:=mM;have e1:(Op.equalIn 9998 22 (.agg (vl a.ip).toArray) (.agg (vl b.ip).toArray)).run prog w= .ok (decide (a.ip=b.ip)) w:=by rw[He,He,yP w 9996 _ 5 16 .u8 underlying22 underlying5 U0 _ _ (by simpa using ha) aL,Ca]
 have e2:(Op.equalIn 9998 3 (.int .i64 a.cl) (.int .i64 b.cl)).run prog w= .ok (a.cl==b.cl) w:=mM;exact pA
theorem ZQ(w:World):(sizeOf 24).run prog w= .ok 18 w:=by kernel_rfl
theorem ZR{o:Ou}(h:o.to_.ip.length=16):(Ft o).toArray.extract 1 19=o.to_.cells.toArray:=by
 apply Array.toList_inj.1;have X:=adi h;simpa using X
theorem ZT(a b:Ou)(ha:a.to_.ip.length=16)(F:b.to_.ip.length=16)(w:World):(Op.equalIn 10000 97 (.agg (Ft a).toArray) (.agg (Ft b).toArray)).run prog w= .ok (decide (a=b)) w:=by
 rw[run_equalIn_struct w 9999 97 _ _ (by unfold Program.fieldsOf;rw[underlying97]) (by kernel_rfl),Xb];have p0:∀(x:Ou) (w:World),(part 3 (Ft x).toArray 0).run prog w= .ok (.int .i64 x.kind) w:=fun x w=>by simp[part,isAgg,run_underlying underlying3,Ft]
 have p1:∀(x:Ou),x.to_.ip.length=16->∀(w:World),(part 24 (Ft x).toArray 1).run prog w= .ok (.agg x.to_.cells.toArray) w:=fun x hx w=>by
  simp only[part,isAgg,Sem.run_bind,run_underlying underlying24,Result.andThen_ok,Sem.run_pure,if_true,ZQ,Sem.run_ite];rw[show 1+18=19 from J,ZR hx]
 have p2:∀(x:Ou),x.to_.ip.length=16->∀(w:World),(part 3 (Ft x).toArray 19).run prog w= .ok (.int .i64 x.port) w:=fun x hx w=>by
  have:=Up hx 0;simp[part,isAgg,run_underlying underlying3]at this⊢;simp[this]
 have p3:∀(x:Ou),x.to_.ip.length=16->∀(w:World),(part 9 (Ft x).toArray 20).run prog w= .ok (.string (bs x.data)) w:=fun x hx w=>by
  have:=Up hx 1;simp[part,isAgg,run_underlying underlying9]at this⊢;simp[this]
 have e0:(Op.equalIn 9999 3 (.int .i64 a.kind) (.int .i64 b.kind)).run prog w= .ok (a.kind==b.kind) w:=gP;have e1:=ZP a.to_ b.to_ ha F w;have e2:(Op.equalIn 9999 3 (.int .i64 a.port) (.int .i64 b.port)).run prog w= .ok (a.port==b.port) w:=gP;have e3:(Op.equalIn 9999 9 (.string (bs a.data)) (.string (bs b.data))).run prog w= .ok (a.data==b.data) w:=by rw[run_equalIn_string w 9998 _ _ _ underlying9,MW,MW]
 simp only[Op.eqFields,ne_eq,String.reduceEq,not_false_eq_true,if_true,Sem.run_bind,p0,p1 a ha,p1 b F,p2 a ha,p2 b F,p3 a ha,p3 b F,e0,e1,e2,e3,Result.andThen_ok,Sem.run_ite,Sem.run_pure];obtain⟨k1,t1,q1,d1⟩:=a;obtain⟨k2,t2,q2,d2⟩:=b;simp only[Ou.mk.injEq];by_cases U:k1=k2<;>by_cases X:t1=t2<;>by_cases h3:q1=q2<;>by_cases h4:d1=d2<;>simp[U,X,h3,h4]
def Tc(w:World)(v:Value)(n:List (List UInt8)):Prop:=wh w v n/\n.length<=100000/\∀l∈n,l.length<=140737488355328
theorem Tc.ue(h:Tc w v n)(k:ug w w'):Tc w' v n:=⟨k _ _ h.1,h.2⟩
theorem Tc.form(h:Tc w v n):∃A c,v= .slice A n.length c/\xj w A c n:=by
 obtain⟨A,c,U,X,h3⟩:=h.1.form;exact⟨A,c,U,X,h3,by have:=h.2.1;omega,h.2.2⟩
theorem uA.Lj{g:Nat}{m:vo}(h:uA w cs m)(hg:w.grownBy w' (some g))(F:Z w g t L)(U:t≠28)(X:t≠119)(h3:t≠9):uA w' cs m:=by
 obtain⟨vq,va,vu,ve,k1,k2,k3,k4,k5,l⟩:=h;exact⟨vq,va,vu,ve,k1,k2.uG hg F U h3,k3.uG hg F X h3,k4.uG hg F X h3,k5.uG hg F X h3,l⟩
theorem GJ{g n:Nat}{h2:List Value}(h:Z w g t (L++h2.drop n))(hM:h2.length<=n):Z w g t L:=by
 exact rn
def Ie(vn:Value)(d:Dl):List Value:=xX vn d.y++[.string (bs d.oct),.int .i64 d.st,.bool d.op]
section
variable {vn:Value} {d:Dl} (h:d.y.sv.ip.length=16) {post:List Value} {a b c e:Value}
include h
theorem Cz:(Ie vn d).length=26:=by simp[Ie,xi h]
theorem ZU(i:Nat)(hi:i<26):(JB (Ie vn d) post a b c e)[i]?=(Ie vn d)[i]?:=by unfold JB;rw[List.getElem?_append_left (by rw[Cz h];exact hi)]
theorem RU(k:Nat)(O:k<3):(JB (Ie vn d) post a b c e)[23+k]?=[Value.string (bs d.oct),.int .i64 d.st,.bool d.op][k]?:=by
 rw[ZU h _ I];unfold Ie;rw[List.getElem?_append_right dW,xi h,Nat.add_sub_cancel_left]
theorem aep(i:Nat)(hi:i<23):(JB (Ie vn d) post a b c e)[i]?=(xX vn d.y)[i]?:=by
 rw[ZU h _ I];unfold Ie;rw[List.getElem?_append_left dX]
theorem VC:(JB (Ie vn d) post a b c e)[18]?=some (.int .i64 d.y.port):=by rw[aep h 18 I];exact zj h 0
theorem aeW:((JB (Ie vn d) post a b c e).drop 0).take 23=xX vn d.y:=by
 rw[List.drop_zero];unfold JB Ie;rw[List.append_assoc];exact List.take_left' (xi h)
theorem acw:((JB (Ie vn d) post a b c e).drop 0).take 18=d.y.sv.cells:=by
 rw[List.drop_zero];unfold JB Ie xX;rw[List.append_assoc,List.append_assoc];exact List.take_left' (d.y.sv.ur h)
theorem PD:(JB (Ie vn d) post a b c e).length=30+post.length:=by simp[JB,Cz h];omega
theorem VD:(JB (Ie vn d) post a b c e).drop 30=post:=by
 unfold JB;rw[show(30:Nat)=(Ie vn d).length+4 by rw[Cz h],List.drop_append];simp
theorem adk(sub:List Value)(hs:sub.length=post.length):(JB (Ie vn d) post a b c e).take 30++sub++(JB (Ie vn d) post a b c e).drop (30+sub.length)=JB (Ie vn d) sub a b c e:=by
 rw[List.drop_of_length_le (by rw[PD h];omega),List.append_nil];have e1:(JB (Ie vn d) post a b c e).take 30=Ie vn d++[a,b,c,e]:=by unfold JB;rw[show(30:Nat)=(Ie vn d).length+4 by rw[Cz h],List.take_append];simp;exact List.take_of_length_le I
 rw[e1];simp[JB]
theorem adl(k:Nat)(O:k<3)(x:Value):(JB (Ie vn d) post a b c e).set (23+k) x=JB (xX vn d.y++([Value.string (bs d.oct),.int .i64 d.st,.bool d.op].set k x)) post a b c e:=by
 unfold JB;rw[List.set_append_left _ _ (by rw[Cz h];omega)];unfold Ie;rw[List.set_append_right _ _ dW,xi h,Nat.add_sub_cancel_left]
end
def yL(w:World)(g:Nat)(d:Dl)(p:List UInt8):Prop:=∃vn ds,wI w g (Ie vn d) ds p/\d.y.sv.ip.length=16/\Tc w vn d.y.q.name/\uA w ds d.xP
def yM(w:World)(g:Nat)(d:Dl):Prop:=∃p,yL w g d p/\(d.st=0->p=yb d.aA)/\d.ok
theorem yL.G{g:Nat}{d:Dl}(h:yL w g d p)(F:al w w'):yL w' g d p:=by
 obtain⟨vn,ds,U,X,h3,h4⟩:=h;exact⟨vn,ds,U.G F,X,h3.ue (ug.G F),h4.G F⟩
theorem yM.G{g:Nat}{d:Dl}(h:yM w g d)(F:al w w'):yM w' g d:=by
 obtain⟨p,U,X⟩:=h;exact⟨p,U.G F,X⟩
theorem yL.open_{g:Nat}{d:Dl}(h:yL w g d p):∃vn ds a b c e,Z w g 152 (JB (Ie vn d) ds a b c e)/\d.y.sv.ip.length=16/\Tc w vn d.y.q.name/\uA w ds d.xP/\wI w g (Ie vn d) ds p:=by
 obtain⟨vn,ds,U,X,h3,h4⟩:=h;have h1':=U;obtain⟨last,ts,b0,b1,hpl,F,_⟩:=h1';exact⟨vn,ds,_,_,_,_,F,X,h3,h4,U⟩
theorem Tc.RX{g:Nat}(h:Tc w v n)(hg:w.grownBy w' (some g))(F:Z w g 152 L):Tc w' v n:=h.ue (ug.uG hg F ax)
theorem uA.RX{g:Nat}{m:vo}(h:uA w cs m)(hg:w.grownBy w' (some g))(F:Z w g 152 L):uA w' cs m:=h.Lj hg F ax ax ax
theorem yL.uG{g:Nat}{d:Dl}(h:yL w g d p):∃vn L ds,Z w g 152 L/\L.length=44/\d.y.sv.ip.length=16/\Tc w vn d.y.q.name/\(L.drop 0).take 23=xX vn d.y/\(L.drop 0).take 18=d.y.sv.cells/\L[18]?=some (.int .i64 d.y.port)/\L[23]?=some (.string (bs d.oct))/\L[24]?=some (.int .i64 d.st)/\L[25]?=some (.bool d.op)/\(L.drop 30).take 14=ds/\uA w ds d.xP/\
  ∀w' ds' m,w.grownBy w' (some g)->Z w' g 152 (L.take 30++ds'++L.drop (30+ds'.length))->uA w ds' m->yL w' g {d with xP:=m} p:=by
 obtain⟨vn,ds,U,ty,hN,hM⟩:=h;obtain⟨last,ts,b0,b1,hpl,F,hc,r⟩:=U;have hdl:=hM.len;refine⟨vn,_,ds,F,by rw[PD ty,hdl],ty,hN,aeW ty,acw ty,VC ty,RU ty 0 I,RU ty 1 I,RU ty 2 I,?_,hM,?_⟩
 ·rw[VD ty,List.take_of_length_le I]
 ·intro w' ds' m hg hb' hM';rw[adk ty ds' (by rw[hM'.len,hdl])]at hb';exact⟨vn,ds',⟨last,ts,b0,b1,Cz ty,hb',wu.grown F hg _ _ hc,r⟩,ty,hN.RX hg F,hM'.RX hg F⟩
theorem yL.set{g:Nat}{d d':Dl}(h:yL w g d p)(k:Nat)(O:k<3)(x:Value)(hy:d'.y=d.y)(hm:d'.xP=d.xP)(hx:[Value.string (bs d.oct),.int .i64 d.st,.bool d.op].set k x=[Value.string (bs d'.oct),.int .i64 d'.st,.bool d'.op]):yL (w.setCell ⟨g,23+k,none⟩ x) g d' p:=by
 obtain⟨vn,ds,U,X,h3,h4⟩:=h;obtain⟨last,ts,b0,b1,hpl,F,hc,r⟩:=U;have hg:w.grownBy (w.setCell ⟨g,23+k,none⟩ x) (some g):=ig;have hb2:=F.set (23+k) x;rw[adl X k O x,hx,<-hy]at hb2;refine⟨vn,ds,⟨last,ts,b0,b1,Cz (by rw[hy];exact X),hb2,wu.grown F hg _ _ hc,r⟩,by rw[hy];exact X,by rw[hy];exact h3.RX hg F,by rw[hm];exact h4.RX hg F⟩
def OuI(cs:List Value)(o:Ou):Prop:=cs=Ft o/\o.to_.ip.length=16
theorem OuI.len(cs:List Value)(o:Ou)(h:OuI cs o):cs.length=21:=by rw[h.1];exact Cy h.2
def vI(lo:Nat)(w:World)(v:Value)(l:List Ou):Prop:=uy w lo 97 21 OuI v l
theorem VE:∀{css:List (List Value)} {l:List Ou},Bh OuI css l->∀o∈l,o.to_.ip.length=16
 |[],[],_,o,ho=>by cases ho
 |_::_,_::_,h,o,ho=>by
  rcases List.mem_cons.1 ho with rfl|ho
  ·exact h.1.2
  ·exact VE h.2 o ho
theorem vI.nil(lo:Nat)(w:World):vI lo w (.slice none 0 0) []:=⟨[],World.ownsRow_nil _ _ _ _,trivial⟩
theorem vI.G{l:List Ou}(h:vI lo w v l)(F:al w w'):vI lo w' v l:=uy.ue h (fun _ x=>vQ x F) (fun _ _ x=>x)
theorem vI.mono{lo':Nat}{l:List Ou}(h:vI lo w v l)(hl:lo'<=lo):vI lo' w v l:=by
 obtain⟨css,U,X⟩:=h;exact⟨css,⟨U.1,U.2.imp id fun⟨g,c,cur,hv,hg,r⟩=>⟨g,c,cur,hv,Nat.le_trans hl hg,r⟩⟩,X⟩
theorem vI.grown{g:Nat}{l:List Ou}(h:vI lo w v l)(hg:w.grownBy w' (some g))(hl:g<lo):vI lo w' v l:=by
 obtain⟨css,U,X⟩:=h;refine⟨css,U.kept hg (.inr ?_),X⟩;intro e;have:=yI U g e;omega
theorem vI.form{l:List Ou}(h:vI lo w v l):∃A c,v= .slice A l.length c/\adj w A l/\∀b,A=some b->lo<=b.block:=by
 obtain⟨A,c,rfl⟩:=uy.form h;refine⟨A,c,J,⟨?_,fun hp=>?_⟩,fun b F=>?_⟩
 ·obtain⟨css,_,X⟩:=h;exact VE X
 ·obtain⟨g,U,X,h3⟩:=uy.ud OuI.len h hp;refine⟨g,0,U,X,fun i hi=>?_⟩;obtain⟨cs,h4,h5,_⟩:=h3 i hi;rw[<-h5];exact h4
 ·obtain⟨css,U,_⟩:=h;exact yI U b.block (by rw[F];rfl)
def Kb(g:Nat)(r:Dl×List Ou)(w:World)(e:Ending)(w':World):Prop:=∃v,e= .returned v/\vI w.heap.size w' v r.2/\yM w' g r.1/\w.grownBy w' (some g)
def ZV(m:vo)(w:World)(e:Ending)(w':World):Prop:=∃ds,e= .returned (.agg ds.toArray)/\uA w' ds m/\al w w'
theorem Uq(g:Nat)(d:Dl)(w:World)(h:yM w g d):Calls prog 17 #[.pointer (some ⟨g,0,none⟩)] w (yi (.int .i64 d.st) w):=by
 obtain⟨p,h,_⟩:=h;obtain⟨vn,ds,a,b,c,e,F,ty,_⟩:=h.open_;have c24:=F.K 24 (RU ty 1 I);clear h F;go_enter func17,ntmps17;go_wp2;exact o7
theorem ZW(g:Nat)(d:Dl)(w:World)(h:yM w g d):Calls prog 22 #[.pointer (some ⟨g,0,none⟩)] w (ZV d.xP w):=by
 obtain⟨p,h,_⟩:=h;obtain⟨vn,ds,a,b,c,e,F,ty,_,hM,_⟩:=h.open_;have hl:=PD (vn:=vn) (post:=ds) (a:=a) (b:=b) (c:=c) (e:=e) ty;have hp:=VD (vn:=vn) (post:=ds) (a:=a) (b:=b) (c:=c) (e:=e) ty;generalize JB (Ie vn d) ds a b c e=L at*;have hdl:=hM.len;have hd1:=Y hM.one;have C:=F.alloc (.cells uw.toArray 50);have B2:=Z.new w 50 uw;have HB:Below w.heap.size w (w.alloc (.cells uw.toArray 50)):=gj;have hM2:=hM.G HB;have HP:Hid ((L.drop 30).take 14=ds):=Y (by rw[hp,List.take_of_length_le I]);clear h hp F hM;go_enter func22,ntmps22;go_wp2_with(first
  |(refine tO (.load 50 (.tmp 8)) rfl ?_;go_must(refine tP rfl _ _ rfl g 30 rfl C 14 I _ underlying50 rfl ux ds HP.out ?_))
  |(refine tO (.store 50 (.tmp 2) (.tmp 9)) rfl (ab rfl w.heap.size 0 ds B2 dK dJ hd1.out ?_)))
 intro w8 B8 g8 _;replace B8:Z w8 w.heap.size 50 ds:=GJ B8 dK;have HB8:=tN HB g8 HB.size (Nat.le_refl _);have hM8:=hM2.Lj g8 B2 ax ax ax;clear g8 HB B2 hM2 C;go_wp2_with fail;refine wQ J w.heap.size J B8 _ underlying50 J dJ J ?_;exact⟨ds,J,hM8,HB8⟩
theorem Ly{P:Program}(t:TypeId)(parts:Array (Nat×Operand))(ho:o.op= .build t parts)(vJ:Array (Nat×Value))(hv:parts.map (fun(i,x)=>(i,a.eval x))=vJ)(hr:(Instr.build t vJ).run P w= .ok v w):(execOp a.eval o).run P w= .ok (.value v) w:=by
 exact sE
theorem Xd(kind fam cl port:Int)(b0 b1 b2 b3 b4 b5 b6 b7 b8 b9 b10 b11 b12 b13 b14 b15:UInt8)(data:List UInt8)(W:World):
  (Instr.build 97 #[(0,.int .i64 kind),(1,.agg (uV.cells ⟨fam,[b0,b1,b2,b3,b4,b5,b6,b7,b8,b9,b10,b11,b12,b13,b14,b15],cl⟩).toArray),(2,.int .i64 port),(3,.string (bs data))]).run prog W= .ok (.agg (Ft ⟨kind,⟨fam,[b0,b1,b2,b3,b4,b5,b6,b7,b8,b9,b10,b11,b12,b13,b14,b15],cl⟩,port,data⟩).toArray) W:=by
 kernel_rfl
theorem Kc(kind:Int)(to_:uV)(port:Int)(data:List UInt8)(h:to_.ip.length=16)(W:World):(Instr.build 97 #[(0,.int .i64 kind),(1,.agg to_.cells.toArray),(2,.int .i64 port),(3,.string (bs data))]).run prog W= .ok (.agg (Ft ⟨kind,to_,port,data⟩).toArray) W:=by
 obtain⟨fam,ip,cl⟩:=to_;have h':ip.length=16:=h;clear h;match ip,h' with
 |[b0,b1,b2,b3,b4,b5,b6,b7,b8,b9,b10,b11,b12,b13,b14,b15],_=>exact Xd kind fam cl port b0 b1 b2 b3 b4 b5 b6 b7 b8 b9 b10 b11 b12 b13 b14 b15 data W
def ouZ:List Value:=Ft ⟨0,uV.zero,0,[]⟩
theorem Kd:(prog.info? 97).map (fun i=>(i.zero,i.size,i.bytes))=some (some (.agg ouZ.toArray),21,64):=by kernel_rfl
theorem LC(w:World)(cs:List Value)(hl:cs.length=21):(Instr.buildSlice 34 1 #[(0,.agg cs.toArray)]).run prog w= .ok (.slice (some ⟨w.heap.size,0,none⟩) 1 1) (w.alloc (.cells cs.toArray 97)):=by
 obtain⟨i,hi,hz,adT,hby⟩:=info_parts Kd;refine run_buildSlice w 34 97 1 _ cs.toArray i _ underlying34 hi hz cK cK ?_;rw[adT];have:=Hw 21 ((Array.range (1*21)).map ((Value.agg ouZ.toArray).cells[· % (Value.agg ouZ.toArray).cells.size]!)).toList cs hl ap;exact rP
theorem IQ{v':Value}(x:Operand)(ho:o.op= .buildSlice 34 1 #[(0,x)])(hx:a.eval x=v)(hr:(Instr.buildSlice 34 1 #[(0,v)]).run prog w= .ok v' w'):(execOp a.eval o).run prog w= .ok (.value v') w':=by
 exact pY
theorem Ig(w:World)(o:Ou)(h:o.to_.ip.length=16):vI w.heap.size (w.alloc (.cells (Ft o).toArray 97)) (.slice (some ⟨w.heap.size,0,none⟩) 1 1) [o]:=by
 have hl:=Cy h;refine⟨[Ft o],⟨by simp[hl],.inr ⟨w.heap.size,1,(Ft o).toArray,J,Nat.le_refl _,Z.new w 97 (Ft o),Nat.le_refl _,by simp[maxLen],by simp[hl],?_⟩⟩,⟨J,h⟩,trivial⟩;exact pX
def PE(o:Ou)(w:World)(e:Ending)(w':World):Prop:=∃v,e= .returned v/\vI w.heap.size w' v [o]/\al w w'
theorem abz(f:FuncId)(hf:f=76)(g:Nat)(kind:Int)(data:List UInt8)(L:List Value)(to_:uV)(port:Int)(w:World)(F:Z w g 152 L)(hl:23<=L.length)(ty:to_.ip.length=16)(ha:(L.drop 0).take 18=to_.cells)(hp:L[18]?=some (.int .i64 port)):
  Calls prog f #[.pointer (some ⟨g,0,none⟩),.int .i64 kind,.string (bs data)] w (PE ⟨kind,to_,port,data⟩ w):=by
 subst hf;have RB:=Y (fun W=>Kc kind to_ port data ty W);have HL:=Cy (o:=⟨kind,to_,port,data⟩) ty;have ON:=Y (fun W=>Ig W ⟨kind,to_,port,data⟩ ty);have HA:=Y ha;clear ty ha;generalize Ft ⟨kind,to_,port,data⟩=oc at*;generalize to_.cells=tc at*;go_enter func76,ntmps76;go_wp2_with fail;refine wp_region_held_drew (S:=fun V=>al w V) (by kernel_rfl) (Below.refl _ _).drew (fun M=>?_)
 (refine ag 0 (some 7) J J (by kernel_rfl) (fun W hW=>rfl) M ?_;simp only[z])
 (refine ag 1 (some 8) J J (by kernel_rfl) (fun W hW=>rfl) M ?_;simp only[z])
 refine ag 2 (some 9) (v:=.pointer (some ⟨g,0,none⟩)) J J (by kernel_rfl) (fun W hW=>by kernel_rfl) M ?_;simp only[z];refine ag 3 (some 10) (v:=.pointer (some ⟨g,0,none⟩)) J J (by kernel_rfl) (fun W hW=>rfl) M ?_;simp only[z];refine ag 4 (some 11) (v:=.pointer (some ⟨g,0,none⟩)) J J (by kernel_rfl) (fun W hW=>rfl) M ?_;simp only[z];refine uZ 5 (some 12) 24 (.tmp 11) ⟨g,0,none⟩ J J J J (by kernel_rfl) (by kernel_rfl) (by kernel_rfl) (fun _ _ _ h=>h) (by kernel_rfl) (fun V hV=>(F.G hV F.lt).wk 24 0 18 I _ underlying24 J xJ _ HA.out) M ?_;simp only[z]
 (refine ag 6 (some 13) J J (by kernel_rfl) (fun W hW=>rfl) M ?_;simp only[z])
 refine ag 7 (some 14) (v:=.pointer (some ⟨g,0,none⟩)) J J (by kernel_rfl) (fun W hW=>by kernel_rfl) M ?_;simp only[z];refine ag 8 (some 15) (v:=.pointer (some ⟨g,0,none⟩)) J J (by kernel_rfl) (fun W hW=>rfl) M ?_;simp only[z];refine ag 9 (some 16) (v:=.pointer (some ⟨g,18,none⟩)) J J (by kernel_rfl) (fun W hW=>rfl) M ?_;simp only[z];refine uZ 10 (some 17) 3 (.tmp 16) ⟨g,18,none⟩ J J J J (by kernel_rfl) (by kernel_rfl) (by kernel_rfl) (fun _ _ _ h=>h) (by kernel_rfl) (fun V hV=>tV underlying3 J ((F.G hV F.lt).K 18 hp)) M ?_;simp only[z]
 (refine ag 11 (some 18) J J (by kernel_rfl) (fun W hW=>rfl) M ?_;simp only[z])
 refine ag 12 (some 19) (v:=.agg oc.toArray) J J (by kernel_rfl) (fun W hW=>Ly 97 _ J #[(0,.int .i64 kind),(1,.agg tc.toArray),(2,.int .i64 port),(3,.string (bs data))] (by kernel_rfl) (RB.out W)) M ?_;simp only[z];refine um 13 (by kernel_rfl) ?_;refine uM 13 (some 20) J J (by kernel_rfl) (IQ (.tmp 19) J J (LC _ oc HL)) ?_;have OO:=ON.out w.drew;have hS2:Below w.heap.size w (w.drew.alloc (.cells oc.toArray 97)):=ol;refine⟨hS2,?_⟩;clear M;have M:=hS2;clear hS2;simp only[z]
 (refine ag 14 (some 6) J J (by kernel_rfl) (fun W hW=>rfl) M ?_;simp only[z])
 refine wpAnyH_done (by kernel_rfl) ?_ _;exact tG
theorem yL.out{g:Nat}{d:Dl}(h:yL w g d p)(kind:Int)(data:List UInt8):
  Calls prog 76 #[.pointer (some ⟨g,0,none⟩),.int .i64 kind,.string (bs data)] w (PE ⟨kind,d.y.sv,d.y.port,data⟩ w):=by
 obtain⟨vn,ds,a,b,c,e,F,ty,_,hM,_⟩:=h.open_;exact abz _ J g kind data _ d.y.sv d.y.port w F (by rw[PD ty];omega) ty (acw ty) (VC ty)
theorem ZX(g:Nat)(d:Dl)(w:World)(h:yM w g d):Calls prog 28 #[.pointer (some ⟨g,0,none⟩)] w (Kb g (xB d) w):=by
 have h':=h;obtain⟨p,hJ,hp,hok⟩:=h;obtain⟨vn,ds,a,b,c,e,F,ty,_⟩:=hJ.open_;have c24:=F.K 24 (RU ty 1 I);have f24:=F.frozen 24;by_cases hs:d.st=0
 case neg=>have e1:xB d=(d,[]):=nD;rw[e1];have hs':(d.st !=0)=true:=ki;have H:=Y h';clear h' hJ hp hok F ty hs e1;generalize d.st=st at*;go_enter func28,ntmps28;exact sA
 have e1:xB d=({d with st:=2},[⟨4,d.y.sv,d.y.port,[]⟩]):=kZ;rw[e1];have J2:yL (w.setCell ⟨g,24,none⟩ (.int .i64 2)) g {d with st:=2} p:=hJ.set 1 I (.int .i64 2) J J J;have G2:w.grownBy (w.setCell ⟨g,24,none⟩ (.int .i64 2)) (some g):=ig;have OC:=Y (J2.out 4 []);have HJ:=Y J2;rw[hs]at c24;clear h' hJ hp hok F ty hs e1 J2;go_enter func28,ntmps28;go_wp2_with fail;refine OC.out.mono ?_;rintro _ w2 ⟨v,rfl,hO,b2⟩;go_wp2_with fail;go_ret;exact⟨_,J,hO.mono aG,⟨p,HJ.out.G b2,fun h=>dY,fun h=>dY⟩,vk G2 b2⟩
theorem LF{y:Qy}(O:k<l.length)(h:v9 y (l.take k)=none)(hf:(wH y (xo l[k])).2=false):v9 y (l.take (k+1))=none:=by
 exact rJ
theorem JR{y:Qy}(O:k<l.length)(h:v9 y (l.take k)=none)(hf:(wH y (xo l[k])).2=true):v9 y l=some (wH y (xo l[k])).1:=by
 have e1:v9 y (l.take (k+1))=some (wH y (xo l[k])).1:=by exact rJ
 have e2:=GI y (l.take (k+1)) (l.drop (k+1));rw[List.take_append_drop,e1]at e2;exact e2
theorem ZY(y:Qy):(yW y).2.length<=1:=by unfold yW;split<;>simp
theorem IU(d:Dl)(e:Ev):(uW d e).2.length<=1:=by unfold uW;(repeat' split)<;>simp
theorem IV(d:Dl):(xB d).2.length<=1:=by unfold xB;split<;>simp
theorem adm(y:Qy):(yW y).1.y=y:=by unfold yW;split<;>rfl
theorem Sf(d:Dl)(e:Ev):(uW d e).1.aA.length<=d.aA.length+e.data.length:=by
 unfold uW
 (repeat' split)<;>simp
def xs(n:List (List UInt8))(k:Nat):List (List UInt8):=(n.take k).map (· ++[120])++n.drop k
theorem Xe(A:Option Addr)(c:Nat)(q:Qn)(id:Int)(w:World)(hA:xj w A c q.name):
  Calls prog 125 #[.agg #[.slice A q.name.length c,.int .i64 q.E,.int .i64 q.N],.int .i64 id,.bool false] w (Un (vw q id false) w):=by
 have AI:=Y (fun(w':World) (b:al w w') (gq:Nat) hq=> @Y5 w' 0 gq 0 A c q id false hq (fun h=>by cases h) (hA.G b));clear hA;generalize vw q id false=h2 at*;generalize q.E=E,q.N=N,q.name.length=nl at*;have B6:=Z.vP (w.alloc (.cells #[.slice A nl c,.int .i64 E,.int .i64 N] 28)) 50 uw (w.heap.size+1) ap;go_enter func125,ntmps125;go_wp2_with(refine tO (.store 50 (.tmp 6) (.tmp 20)) J (ab J (w.heap.size+1) 0 (yh (JO id) (.slice (some ⟨w.heap.size+1+1,0,none⟩) 1 1) tS tS tS) ((B6.alloc _).alloc _) (by rw[yJ,zP];omega) dZ (zI _ J J J J) ?_));intro w5 B5 g5 s5;have kk:∀o1 o2 o3 o4,Below w.heap.size w ((((w.alloc o1).alloc o2).alloc o3).alloc o4):=hU;have b5:=tN (kk _ _ _ _) g5 az I;have Bq:Z w5 (w.heap.size+1+1) 28 [.slice A nl c,.int .i64 E,.int .i64 N]:=Z.grown ((Z.vP _ 28 [.slice A nl c,.int .i64 E,.int .i64 N] _ ap).alloc _) g5 ap;clear kk g5 B6;go_wp2_with fail;refine wQ J (w.heap.size+1) J B5 _ underlying50 J ux J ?_;exact⟨_,_,_,_,_,_,_,_,_,J,b5,AI.out w5 b5 _ Bq⟩
theorem Ur(A:Option Addr)(c:Nat)(q:Qn)(id:Int)(aaI:Bool)(w:World)(hA:xj w A c q.name):
  Calls prog 125 #[.agg #[.slice A q.name.length c,.int .i64 q.E,.int .i64 q.N],.int .i64 id,.bool aaI] w (Un (vw q id aaI) w):=by
 cases aaI
 ·exact Xe A c q id w hA
 ·exact Uo A c q id w hA
theorem Bj(A:Option Addr)(c:Nat)(q:Qn)(id:Int)(aaI:Bool)(w:World)(hA:xj w A c q.name):
  Calls prog 82 #[.agg #[.slice A q.name.length c,.int .i64 q.E,.int .i64 q.N],.int .i64 id,.bool aaI] w (uf (.tuple #[.string (bs (vg (vw q id aaI) false).1),.int .i64 (vg (vw q id aaI) false).2]) w):=by
 have kb:Below w.heap.size w (w.alloc (.cells #[.slice A q.name.length c,.int .i64 q.E,.int .i64 q.N] 28)):=gj;have MS:=Y (Ur A c q id aaI _ (hA.G kb));have U:(vw q id aaI).qs.length<=100:=bL;have X:(vw q id aaI).BD.length<=200:=mz;clear hA;generalize vw q id aaI=h2 at*;generalize q.E=E,q.N=N,q.name.length=nl at*;go_enter func82,ntmps82;go_wp2_with fail;refine MS.out.mono ?_;rintro _ w1 ⟨cs,Aq,Aa,Au,Ae,cq,ca,cu,ce,rfl,b1,hM⟩;have EN:=Y (Lo cs h2 false Aq Aa Au Ae cq ca cu ce w1 hM U X);exact pT
theorem Og(q:Qn)(id:Int)(aaI:Bool):(vg (vw q id aaI) false).2≠0\/((vg (vw q id aaI) false).2=0/\(vg (vw q id aaI) false).1.length<=65535/\xo (vg (vw q id aaI) false).1= .ok (vw q id aaI)):=by
 have hw:∀r∈(vw q id aaI).BD,r.wf:=by
  intro r hr;cases aaI with
  |false=>simp[vw,vo.BD]at hr
  |true=>
   have:r=Pd:=by simpa[vw,vo.BD]using hr
   subst this;exact⟨J,J⟩
 rcases Ud _ hw with⟨U,X,h3,h4,h5,h6⟩|⟨U,_⟩|⟨U,_⟩
 ·exact .inr ⟨U,h4,h5⟩
 ·exact .inl U
 ·exact .inl U
def dl0(y:Qy):Dl:=⟨y,[],0,false,[],vo.zero⟩
def dlZ(vn:Value)(y:Qy):List Value:=JB (Ie vn (dl0 y)) uw (.pointer none) (.int .i64 0) (.int .u8 0) (.int .u8 0)
theorem Xf(fam cl port id:Int)(q:Qn)(b0 b1 b2 b3 b4 b5 b6 b7 b8 b9 b10 b11 b12 b13 b14 b15:UInt8)(vn:Value)(W:World):
  (Instr.build 152 #[(0,.agg (xX vn ⟨⟨fam,[b0,b1,b2,b3,b4,b5,b6,b7,b8,b9,b10,b11,b12,b13,b14,b15],cl⟩,port,id,q⟩).toArray)]).run prog W= .ok (.agg (dlZ vn ⟨⟨fam,[b0,b1,b2,b3,b4,b5,b6,b7,b8,b9,b10,b11,b12,b13,b14,b15],cl⟩,port,id,q⟩).toArray) W:=by
 kernel_rfl
theorem abA(vn:Value)(y:Qy)(h:y.sv.ip.length=16)(W:World):(Instr.build 152 #[(0,.agg (xX vn y).toArray)]).run prog W= .ok (.agg (dlZ vn y).toArray) W:=by
 obtain⟨⟨fam,ip,cl⟩,port,id,q⟩:=y;have h':ip.length=16:=h;clear h;match ip,h' with
 |[b0,b1,b2,b3,b4,b5,b6,b7,b8,b9,b10,b11,b12,b13,b14,b15],_=>exact Xf fam cl port id q b0 b1 b2 b3 b4 b5 b6 b7 b8 b9 b10 b11 b12 b13 b14 b15 vn W
theorem Xg(vn vm:Value)(y:Qy)(h:y.sv.ip.length=16):(xX vn y).set 20 vm=xX vm y:=by
 unfold xX;rw[List.set_append_right _ _ dH,y.sv.ur h];rfl
def ZZ(y:Qy)(w:World)(e:Ending)(w':World):Prop:=∃g v,e= .returned (.tuple #[.pointer (some ⟨g,0,none⟩),v])/\yM w' g (yW y).1/\vI (g+1) w' v (yW y).2/\al w w'/\w.heap.size<=g
theorem Jy:vF []=[]/\yb []=[]:=vX [] dV
theorem Z0(cs:List Value)(y:Qy)(A:Option Addr)(c:Nat)(w:World)(h:Ib w cs y A c)(hn:y.q.name.length<=100000):
  Calls prog 15 #[.agg cs.toArray] w (ZZ y w):=by
 have ty:=h.ip;have hcl:cs.length=23:=nx;have L20:cs[20]?=some (.slice A y.q.name.length c):=by rw[h.hcs];exact zj ty 2
 have arC:∀vm,cs.set 20 vm=xX vm y:=fun vm=>by rw[h.hcs];exact Xg _ _ _ ty
 have B1:=Z.new w 37 cs;have HB1:Below w.heap.size w (w.alloc (.cells cs.toArray 37)):=gj;have CL:=Y (Dj A c y.q.name _ (h.nm.G HB1) hn);have hll:Hid (∀l∈y.q.name,l.length<=140737488355328):=Y h.nm.2.2.2;have a20:=B1.K 20 L20;have atx:=Y arC;have hnl:y.q.name.length<=17592186044416:=I;obtain⟨R,hR⟩:=ao (yW y);unfold ZZ;rw[hR.out];clear h L20 arC;go_enter func15,ntmps15;go_wp2_with fail;refine CL.out.mono ?_;rintro _ w1 ⟨A1,c1,rfl,akJ,b1⟩;have C1:=B1.G b1 B1.lt;have hk:=tL HB1 HB1.size b1;clear CL B1 HB1 b1 a20;go_wp2_with(refine tO (.store 26 (.tmp 12) (.tmp 10)) J (af J w.heap.size 20 (.slice A1 y.q.name.length c1) C1 (by rw[hcl];decide) vh ?_));intro w2 C2 g2 zs;clear zs;rw[atx.out]at C2;have ajS:=Bi akJ g2 C1 ax;have HB3:=tN hk g2 hk.size (Nat.le_refl _);have hT2:wh w2 (.slice A1 y.q.name.length c1) y.q.name:=Cg ajS;have N2:=Y4 ajS hnl hll.out;have hN2:Tc w2 (.slice A1 y.q.name.length c1) y.q.name:=⟨hT2,hn,hll.out⟩;have RB:=Y (fun W=>abA (.slice A1 y.q.name.length c1) y ty W);have hql:=xi (vn:=.slice A1 y.q.name.length c1) ty;have q19:(xX (.slice A1 y.q.name.length c1) y)[19]?=some (.int .i64 y.id):=zj ty 1;have Q3:=Y (Vw (vn:=.slice A1 y.q.name.length c1) ty);have a19:=fun o=>(C2.alloc o).K 19 q19
 have HLL:Hid (∀W,Z W w2.heap.size 152 (dlZ (.slice A1 y.q.name.length c1) y)->Tc W (.slice A1 y.q.name.length c1) y.q.name->yL W w2.heap.size (dl0 y) []):=Y (fun W F hN=>
  ⟨_,uw,⟨none,[],0,0,Cz (d:=dl0 y) ty,F,J,J,ap,ap⟩,ty,hN,uA.zero _⟩)
 have BU:=Y (fun W (F:al w2 W)=>IM A1 c1 y.q y.id false W (N2.G F) hn);have AP:Hid (Gf y=0->(CR y).length<=65535):=Y (fun h0=>by
  rcases Og y.q y.id false with h|⟨_,h,_⟩
  ·exact absurd h0 h
  ·
   exact h)
 clear atx akJ g2 C1 hk ajS hT2 N2 q19 hll hnl;generalize xX (.slice A1 y.q.name.length c1) y=qs at*;obtain⟨LL,hLL⟩:=ao (dlZ (.slice A1 y.q.name.length c1) y);rw[hLL.out]at RB HLL;unfold qC at Q3;go_wp2_with(first
  |(refine tO (.load 37 (.tmp 1)) rfl ?_;go_must(refine tP rfl _ _ rfl w.heap.size 0 rfl C2 23 I _ underlying37 rfl GH qs (wg I) ?_))
  |(refine tO (.build 152 #[(0,.tmp 13)]) rfl ?_;go_must(refine wl rfl 152 _ rfl #[(0,.agg qs.toArray)] ea (RB.out _) ?_))
  |(refine tO (.load 28 (.tmp 17)) rfl ?_;go_must(refine tP rfl _ _ rfl w.heap.size 20 rfl (C2.alloc _) 3 I _ underlying28 rfl xh _ Q3.out ?_)))
 have kn:Below w2.heap.size w2 (w2.alloc (.cells LL.toArray 152)):=gj;have D1:=Z.new w2 152 LL;refine(BU.out _ kn).mono ?_;rintro _ w3 ⟨rfl,b3⟩;have k3:=tL kn kn.size b3;have J3:=HLL.out w3 (D1.G b3 D1.lt) (hN2.ue (ug.G k3));have HB4:=tL HB3 HB3.size k3;have hg:w.heap.size<=w2.heap.size:=HB3.size;clear RB HLL BU kn D1 b3 k3 hN2 HB3 C2 a19 Q3 hLL;generalize w2.heap.size=g at*;obtain⟨vn,L,_,hbk,hL,_,_,_,_,_,c23,c24,_⟩:=J3.uG;have a24:=hbk.K 24 c24;have f24:=hbk.frozen 24;clear c23 c24 hL;by_cases he:Gf y=0
 case neg=>have HR2:Hid (R=(⟨y,[],2,false,[],vo.zero⟩,[])):=Y (by rw[<-hR.out];unfold yW;rw[if_neg he]);have he1:(Gf y==0)=false:=iu;have he2:(Gf y !=0)=true:=iu;have J4:yL (w3.setCell ⟨g,24,none⟩ (.int .i64 2)) g ⟨y,[],2,false,[],vo.zero⟩ []:=J3.set 1 I (.int .i64 2) J J J;have H5:Below w.heap.size w (w3.setCell ⟨g,24,none⟩ (.int .i64 2)):=tN HB4 (uq (World.grownBy.refl _ _) 24 (.int .i64 2)) HB4.size hg;have HJ:=Y J4;clear he hR J4 J3 AP hbk;unfold Gf at*;generalize(vg (vw y.q y.id false) false).1=o1 at*;generalize(vg (vw y.q y.id false) false).2=o2 at*;go_wp2_with fail;go_ret2;rw[HR2.out];exact⟨g,_,J,⟨[],HJ.out,fun h=>dY,fun h=>dY⟩,vI.nil _ _,H5,hg⟩
 have HR2:Hid (R=(⟨y,tT 2 (CR y).length++CR y,0,false,[],vo.zero⟩,[⟨2,y.sv,y.port,[]⟩])):=Y ee;have hl:=AP.out he;clear AP hR hbk;unfold Gf at he;unfold CR at HR2 hl;generalize(vg (vw y.q y.id false) false).1=o1 at*;rw[he];clear he;go_wp2_with fail;refine(PC o1 _ hl).mono ?_;rintro _ w4 ⟨rfl,b4⟩;have J4:=J3.G b4;have HB5:=tL HB4 HB4.size b4;have J5:yL (w4.setCell ⟨g,23,none⟩ (.string (bs (tT 2 o1.length++o1)))) g ⟨y,tT 2 o1.length++o1,0,false,[],vo.zero⟩ []:=J4.set 0 I (.string (bs (tT 2 o1.length++o1))) J J J;have H5:Below w.heap.size w (w4.setCell ⟨g,23,none⟩ (.string (bs (tT 2 o1.length++o1)))):=tN HB5 (uq (World.grownBy.refl _ _) 23 _) HB5.size hg;obtain⟨_,L4,_,hb4,_,_,_,_,_,_,c23,_⟩:=J4.uG;have e23:=hb4.K 23 c23;have aGz:=hb4.frozen 23;have aw7:=hb4.lt;have OC:=Y (J5.out 2 []);have HJ:=Y J5;clear J3 J4 J5 HB4 b4 hb4 c23 a24 f24;generalize tT 2 o1.length++o1=o2 at*;go_wp2_with fail;refine OC.out.mono ?_;rintro _ w5 ⟨v,rfl,hO,b5⟩;have H6:=tL H5 H5.size b5;go_wp2_with fail;go_ret2;rw[HR2.out];exact⟨g,_,J,⟨[],HJ.out.G b5,fun _=>Jy.2.symm,fun _=>by show v9 y (vF [])=none;rw[Jy.1];rfl⟩,hO.mono (by have:g+1<=w4.heap.size:=aw7;simpa[World.setCell]using this),H6,hg⟩
theorem Us:∀(n:Nat) (s:List UInt8),s.length<=n->∀t∈vF s,t.length<=s.length:=by
 intro n;induction n with
 |zero=>intro s hs t ht;have:s=[]:=gV;subst this;rw[(vX [] dV).1]at ht;cases ht
 |succ n ih=>
  intro s hs t ht;cases hw:wm s with
  |false=>rw[(vX s hw).1]at ht;cases ht
  |true=>
   have hr:=Dt s hw;rw[(xY s hw).1]at ht;rcases List.mem_cons.1 ht with rfl|ht
   ·unfold Ic;simp;omega
   ·have:=ih (zQ s) I t ht;omega
def IW(d:Dl)(s:List UInt8):Dl×List Ou:=match v9 d.y (vF (d.aA++s))with
 |some m=>({d with aA:=d.aA++s,xP:=m,st:=1},[⟨4,d.y.sv,d.y.port,[]⟩])
 |none=>({d with aA:=d.aA++s},[])
theorem ado:(prog.info? 37).map (·.size)=some 23:=by kernel_rfl
theorem Xh(g:Nat)(d:Dl)(s:List UInt8)(w:World)(h:yM w g d)(hst:d.st=0)(F:d.aA.length+s.length<=8796093022208):
  Calls prog 77 #[.pointer (some ⟨g,0,none⟩),.string (bs s)] w (Kb g (IW d s) w):=by
 obtain⟨p,hJ,hp,hok⟩:=h;have hp:=hp hst;have hpl:p.length<=d.aA.length:=by rw[hp];exact ZK d.aA.length d.aA (Nat.le_refl _)
 obtain⟨HF,HR⟩:=RK d hok hst s;rw[<-hp]at HF HR;obtain⟨R,hR⟩:=ao (IW d s);rw[hR.out];have FD:Hid (Calls prog 118 #[.pointer (some ⟨g,26,none⟩),.string (bs s)] w (fun e w'=>∃v,e= .returned v/\wh w' v (vF (p++s))/\yL w' g d (yb (p++s))/\w.grownBy w' (some g))):=Y (by
  obtain⟨vn,ds,hJA,ty,hN,hM⟩:=hJ;refine(ZO g _ ds p s w hJA I).mono ?_;rintro e w' ⟨v,he,hT,hJ1,g1⟩;obtain⟨_,_,_,_,_,hbk,_⟩:=hJA;exact⟨v,he,hT,⟨vn,ds,hJ1,ty,hN.RX g1 hbk,hM.RX g1 hbk⟩,g1⟩)
 have HLm:Hid (∀t∈vF (p++s),t.length<=maxLen):=Y (fun t ht=>Nat.le_trans (Us _ _ (Nat.le_refl _) t ht) (by simp[maxLen];omega));have hnl:(vF (p++s)).length<=8796093022208:=by have:=Oe (p++s).length (p++s) (Nat.le_refl _);simp at this;omega
 have HB:Hid (IW d s=match v9 d.y (vF (p++s))with
  |some m=>({d with aA:=d.aA++s,xP:=m,st:=1},[⟨4,d.y.sv,d.y.port,[]⟩])
  |none=>({d with aA:=d.aA++s},[])):=Y (by unfold IW;rw[HF])
 have HF':=Y HF;have HR':=Y HR;clear hJ hp hok hpl HF HR F hst;generalize vF (p++s)=l at*;generalize yb (p++s)=q at*;go_enter func77,ntmps77;go_wp2_with fail;refine FD.out.mono ?_;rintro _ w1 ⟨v,rfl,hT,hJ1,g1⟩;obtain⟨A,c,hv,-,-⟩:=hT.form;subst hv;clear FD;go_wp2_with fail;go_loopw[15] (fun iv wr=>∃k:Nat,k<=l.length/\iv= .int .i64 k/\v9 d.y (l.take k)=none/\yL wr g d q/\wh wr (.slice A l.length c) l/\w.grownBy wr (some g)) (fun iv _=>l.length-(intOf iv).toNat)
 case atStart=>exact⟨0,Nat.zero_le _,J,J,hJ1,hT,g1⟩
 clear hJ1 hT g1;obtain⟨k,O,rfl,hno,hJ,hT,hg⟩:=hrel;have HN:=Y hno;clear hno;by_cases Hh:k<l.length
 case pos=>
  have tQ:(k:Int)<l.length:=I;obtain⟨A',c',hA,hTx,hc⟩:=hT.form;injection hA with hA1 hA2 hA3;subst hA1 hA3;obtain⟨ba,oa,hA,la,xa⟩:=hTx I;subst hA;have cs1:=xa k Hh;obtain⟨vn,L,ds,hbk,hL,ty,hNm,hq,ha,c18,c23,c24,c25,hpo,hM,aje⟩:=hJ.uG;obtain⟨An,cn,hvn,hNR⟩:=hNm.form;subst hvn;have FR:=Y (Od (xX (.slice An d.y.q.name.length cn) d.y) d.y An cn l[k] wr ⟨J,ty,hNR⟩ (HLm.out _ (List.getElem_mem Hh)));have HQ:=Y hq;have HJ:=Y hJ;have HT:=Y hT;have HY:Hid ((wH d.y (xo l[k])).2=true->v9 d.y l=some (wH d.y (xo l[k])).1):=mN;have HNO:Hid ((wH d.y (xo l[k])).2=false->v9 d.y (l.take (k+1))=none):=m8;clear hJ hT hNm hNR hq ha c18 c23 c24 c25 hpo hM aje xa hTx ty hc HN;generalize wH d.y (xo l[k])=afW at*;generalize l[k]=t at*;generalize xX (.slice An d.y.q.name.length cn) d.y=qs at*;go_wp2_with(refine tO (.load 37 (.tmp 22)) J ?_;go_must(refine tP J _ _ J g 0 J hbk 23 I _ underlying37 J ado qs HQ.out ?_));refine FR.out.mono ?_;rintro _ w2 ⟨ds2,rfl,hM2,b2⟩;have hdl:=hM2.len;have hd1:=Y hM2.one;have J2:=HJ.out.G b2;have T2:=HT.out.G b2;have g2:=vk hg b2;clear FR hbk HJ HT hg b2 cs1 HQ;go_wp2_with(refine tO (.store 50 (.tmp 7) (.tmp 26)) J (ab J w2.heap.size 0 ds2 (Z.vP _ _ uw _ J) dI dJ hd1.out ?_));intro w3 B3 g3 _;replace B3:Z w3 w2.heap.size 50 ds2:=GJ B3 dK;have k3:al w2 w3:=jL;have J3:=J2.G k3;have T3:=T2.G k3;have G3:=vk g2 k3;have M3:=hM2.G k3;clear g3 k3 J2 T2 g2 hM2;cases hf:afW.2 with
  |false=>
   have hn:=HNO.out hf;have HN:=Y hn;clear hn HNO HY hf M3 B3;go_wp2_with fail;go_roundw
   case rel=>exact⟨k+1,I,fU,HN.out,J3,T3,G3⟩
   case measure=>simp[intOf];omega
  |true=>
   have hy:=HY.out hf;have hR2:R=({d with aA:=d.aA++s,xP:=afW.1,st:=1},[⟨4,d.y.sv,d.y.port,[]⟩]):=by rw[<-hR.out,HB.out,hy]
   have HR2:=Y hR2;clear hy hR2 HNO HY hf T3 HB hR;obtain⟨vn,L3,ds3,hb3,hL3,ty,hNm,hq,ha,c18,c23,c24,c25,hpo,hM,aje⟩:=J3.uG;have HP:=Y aje;clear aje hNm hq ha c18 c23 c24 c25 hpo hM;go_wp2_with(first
    |(refine tO (.load 50 (.tmp 7)) rfl ?_;go_must(refine tP rfl _ _ rfl w2.heap.size 0 rfl B3 14 I _ underlying50 rfl ux ds2 (wg I) ?_))
    |(refine tO (.store 50 (.tmp 32) (.tmp 30)) rfl (ab rfl g 30 ds2 hb3 (by rw[hdl,hL3];omega) dJ hd1.out ?_)))
   intro w4 B4 g4 _;have J4:=HP.out w4 ds2 afW.1 g4 (by rw[hdl,List.append_assoc];exact B4) M3;have G4:=tU G3 g4 (.inl J);obtain⟨vn4,L4,_,hb4,hL4,_,_,_,_,_,_,c24,_⟩:=J4.uG;have d24:=hb4.K 24 c24;have f24:=hb4.frozen 24;have J5:yL (w4.setCell ⟨g,24,none⟩ (.int .i64 1)) g {d with xP:=afW.1,st:=1} q:=J4.set 1 I (.int .i64 1) J J J;have G5:w.grownBy (w4.setCell ⟨g,24,none⟩ (.int .i64 1)) (some g):=tU G4 (uq (World.grownBy.refl _ _) _ _) (.inl J);have OC:=Y (J5.out 4 []);have HJ5:=Y J5;clear HP B4 g4 M3 B3 hb3 G3 J3 hb4 J4 G4 c24 J5;go_wp2_with fail;refine OC.out.mono ?_;rintro _ w5 ⟨v,rfl,hO,b5⟩;go_wp2_with fail;go_ret;rw[HR2.out];obtain⟨vn6,ds6,k1,k2,k3,k4⟩:=HJ5.out.G b5;exact⟨_,J,hO.mono G5.size,⟨q,⟨vn6,ds6,k1,k2,k3,k4⟩,fun h=>dY,fun h=>dY⟩,vk G5 b5⟩
 obtain rfl:k=l.length:=I;have tQ:¬(l.length:Int)<l.length:=I;have hn:=HN.out;rw[List.take_of_length_le (Nat.le_refl _)]at hn;have hR2:R=({d with aA:=d.aA++s},[]):=by rw[<-hR.out,HB.out,hn]
 have HR2:=Y hR2;have HOK:=Y hn;clear hR2 hn hT;go_wp2_with fail;go_ret;rw[HR2.out];obtain⟨vn6,ds6,k1,k2,k3,k4⟩:=hJ;exact⟨_,J,vI.nil _ _,⟨q,⟨vn6,ds6,k1,k2,k3,k4⟩,fun _=>HR'.out.symm,fun _=>by rw[show v9 d.y (vF (d.aA++s))=v9 d.y l from HF'.out];exact HOK.out⟩,hg⟩
theorem Z3(g:Nat)(d:Dl)(e:Ev)(w:World)(h:yM w g d)(ty:e.fr.ip.length=16)(F:d.aA.length+e.data.length<=8796093022208):
  Calls prog 18 #[.pointer (some ⟨g,0,none⟩),.agg (xA e).toArray] w (Kb g (uW d e) w):=by
 have E0:(xA e)[0]?=some (.int .i64 e.kind):=rfl;have E20:(xA e)[20]?=some (.int .i64 e.port):=z7 ty 1;have E21:(xA e)[21]?=some (.string (bs e.data)):=z7 ty 2;have HX:Below w.heap.size w (w.alloc (.cells (xA e).toArray 42)):=gj;have aeq:=Z.new w 42 (xA e);obtain⟨p,hJ,hp,hok⟩:=h;have HK:=Y (And.intro hp hok);obtain⟨vn,L,ds,hbk,hL,_,_,_,_,c18,_,c24,_⟩:=(hJ.G HX).uG;replace c18:=hbk.K 18 c18;replace c24:=hbk.K 24 c24;have d20:=aeq.K 20 E20;obtain⟨R,hR⟩:=ao (uW d e);rw[hR.out];have BY:=Y (fun W (hD:yM W g d) hs=>Xh g d e.data W hD hs F);clear hp hok hbk hL ty F E20;generalize hes:xA e=es at*;clear hes;by_cases hs:d.st=0
 case neg=>have HR2:Hid (R=(d,[])):=Y eg;have hs':(d.st !=0)=true:=ki;clear hs BY hR;exact qw
 rw[hs]at c24;by_cases hpo:e.port=d.y.port
 case neg=>
  have HR2:Hid (R=(d,[])):=Y eh;have awE:(e.port !=d.y.port)=true:=by simpa using hpo
  clear hpo BY hR;exact qw
 have H0:Hid (¬(d.st≠0\/e.port≠d.y.port)):=Y (by rw[hs,hpo];simp);have HS:=Y hs;rw[hpo]at d20;clear hs hpo;by_cases hk3:e.kind=3
 case pos=>
  rw[hk3]at E0;cases hop:d.op with
  |true=>have HR2:Hid (R=(d,[])):=Y ei;clear hk3 BY hR;exact oY
  |false=>have HR2:Hid (R=({d with op:=true},[⟨3,d.y.sv,d.y.port,d.oct⟩])):=Y fR;clear hk3 BY hR;go_enter func18,ntmps18;go_wp2_with fail;go_quiet(fail);obtain⟨W,hW⟩:∃W,W=(w.alloc (.cells es.toArray 42)).drewN nq:=gp;rw[<-hW];have HW:al w W:=gX;have EW:Z W w.heap.size 42 es:=iy;have JW:=hJ.G HW;clear hW c18 c24 d20 aeq hJ HX;obtain⟨vn,L,ds,hbk,hL,_,_,_,_,_,c23,c24,c25,_⟩:=JW.uG;have a23:=hbk.K 23 c23;have a24:=hbk.K 24 c24;have a25:=hbk.K 25 c25;have f24:=hbk.frozen 24;have f25:=hbk.frozen 25;have d0:=EW.K 0 E0;have d21:=EW.K 21 E21;clear c23 c24 c25 EW hbk hL;rw[hop]at a25;have J6:yL (W.setCell ⟨g,25,none⟩ (.bool true)) g {d with op:=true} p:=JW.set 2 I (.bool true) J J J;have G6:w.grownBy (W.setCell ⟨g,25,none⟩ (.bool true)) (some g):=gQ;have OC:=Y (J6.out 3 d.oct);have HJ:=Y J6;clear hop J6 JW;go_wp2_with fail;refine OC.out.mono ?_;rintro _ w5 ⟨v,rfl,hO,b5⟩;go_wp2_with fail;go_ret;rw[HR2.out];exact⟨_,J,hO.mono G6.size,⟨p,HJ.out.G b5,HK.out⟩,vk G6 b5⟩
 have ajh:(e.kind==3)=false:=by simpa using hk3
 by_cases hk4:e.kind=4
 case pos=>
  rw[hk4]at E0;cases hop:d.op with
  |true=>have HR2:Hid (R=IW d e.data):=Y (by rw[<-hR.out];unfold uW IW;rw[if_neg H0.out,if_neg hk3,if_pos hk4,if_pos hop];all_goals rfl);clear hk3 hk4 ajh hR;go_enter func18,ntmps18;go_wp2_with fail;go_quiet(fail);obtain⟨W,hW⟩:∃W,W=(w.alloc (.cells es.toArray 42)).drewN nq:=gp;rw[<-hW];have HW:al w W:=gX;have EW:Z W w.heap.size 42 es:=iy;have JW:=hJ.G HW;clear hW c18 c24 d20 aeq hJ HX;obtain⟨vn,L,ds,hbk,hL,_,_,_,_,_,c23,c24,c25,_⟩:=JW.uG;have a23:=hbk.K 23 c23;have a24:=hbk.K 24 c24;have a25:=hbk.K 25 c25;have f24:=hbk.frozen 24;have f25:=hbk.frozen 25;have d0:=EW.K 0 E0;have d21:=EW.K 21 E21;clear c23 c24 c25 EW hbk hL;rw[hop]at a25;have BC:=Y (BY.out W ⟨p,JW,HK.out⟩ HS.out);clear hop BY JW;generalize e.data=dt at*;go_wp2_with fail;refine BC.out.mono ?_;rintro _ w5 ⟨v,rfl,hO,hD,g5⟩;go_wp2_with fail;go_ret;rw[HR2.out];exact⟨_,J,hO.mono HW.size,hD,tU (uj HW _) g5 (.inl J)⟩
  |false=>have HR2:Hid (R=(d,[])):=Y fS;clear hk3 hk4 ajh BY hR;exact oY
 have aoH:(e.kind==4)=false:=by simpa using hk4
 by_cases hk5:e.kind=5
 case pos=>have HR2:Hid (R=({d with st:=2},[])):=Y en;rw[hk5]at E0;clear hk3 hk4 hk5 ajh aoH BY hR;go_enter func18,ntmps18;go_wp2_with fail;go_quiet(fail);obtain⟨W,hW⟩:∃W,W=(w.alloc (.cells es.toArray 42)).drewN nq:=gp;rw[<-hW];have HW:al w W:=gX;have EW:Z W w.heap.size 42 es:=iy;have JW:=hJ.G HW;clear hW c18 c24 d20 aeq hJ HX;obtain⟨vn,L,ds,hbk,hL,_,_,_,_,_,c23,c24,c25,_⟩:=JW.uG;have a23:=hbk.K 23 c23;have a24:=hbk.K 24 c24;have a25:=hbk.K 25 c25;have f24:=hbk.frozen 24;have f25:=hbk.frozen 25;have d0:=EW.K 0 E0;have d21:=EW.K 21 E21;clear c23 c24 c25 EW hbk hL;have J6:yL (W.setCell ⟨g,24,none⟩ (.int .i64 2)) g {d with st:=2} p:=JW.set 1 I (.int .i64 2) J J J;have G6:w.grownBy (W.setCell ⟨g,24,none⟩ (.int .i64 2)) (some g):=gQ;have HJ:=Y J6;clear J6 JW;go_wp2_with fail;go_ret;rw[HR2.out];exact⟨_,J,vI.nil _ _,⟨p,HJ.out,fun h=>dY,fun h=>dY⟩,G6⟩
 have HR2:Hid (R=(d,[])):=Y eo;have awW:(e.kind==5)=false:=by simpa using hk5
 clear hk3 hk4 hk5 BY hR;generalize e.kind=kd at*;go_enter func18,ntmps18;go_wp2_with fail;go_quiet(fail);obtain⟨W,hW⟩:∃W,W=(w.alloc (.cells es.toArray 42)).drewN nq:=gp;rw[<-hW];have HW:al w W:=gX;have EW:Z W w.heap.size 42 es:=iy;have JW:=hJ.G HW;clear hW c18 c24 d20 aeq hJ HX;obtain⟨vn,L,ds,hbk,hL,_,_,_,_,_,c23,c24,c25,_⟩:=JW.uG;have a23:=hbk.K 23 c23;have a24:=hbk.K 24 c24;have a25:=hbk.K 25 c25;have f24:=hbk.frozen 24;have f25:=hbk.frozen 25;have d0:=EW.K 0 E0;have d21:=EW.K 21 E21;clear c23 c24 c25 EW hbk hL;go_wp2_with fail;go_ret;rw[HR2.out];exact⟨_,J,vI.nil _ _,⟨p,JW,HK.out⟩,uj HW _⟩
end Go.Proofs.YthnbcmlnpdabhaaGreat
