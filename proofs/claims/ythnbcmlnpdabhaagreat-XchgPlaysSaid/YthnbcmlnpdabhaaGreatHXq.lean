/-
  The reference's layer 24:Message. ask.Build.
-/
import Derived.Test.YthnbcmlnpdabhaaGreatHVq
import Derived.Test.YthnbcmlnpdabhaaGreatHQq
namespace Go.Proofs.YthnbcmlnpdabhaaGreat
open _root_.Go.Proofs.Tryz
set_option maxHeartbeats 8000000
open Go.RowKit
set_option maxRecDepth 100000
set_option linter.unusedVariables false
set_option linter.unusedSimpArgs false
variable {w w':World} {v:Value} {n l:List (List UInt8)} {t:TypeId} {cs L:List Value} {p:List UInt8} {lo k:Nat} {o:Oper} {a:Act}
def Vg(m:vU)(w:World)(e:Ending)(w':World):Prop:=∃cs Aq Aa Au Ae cq ca cu ce,e= .returned (.agg cs.toArray)/\al w w'/\zB w' cs m Aq Aa Au Ae cq ca cu ce
theorem Vh(A:Option Addr)(c:Nat)(q:Qn)(id:Int)(w:World)(hA:xE w A c q.name):
  Calls prog 125 #[.agg #[.slice A q.name.length c,.int .i64 q.O,.int .i64 q.N],.int .i64 id,.bool true] w (Vg (vW q id true) w):=by
 have AI:=Y (fun(w':World) (b:al w w') (gq gr:Nat) hq hr=> @ZV w' 0 gq gr A c q id true hq hr (hA.G b));clear hA;generalize vW q id true=ul at*;generalize q.O=O,q.N=N,q.name.length=nl at*;have B6:=F.wE (w.alloc (.cells #[.slice A nl c,.int .i64 O,.int .i64 N] 28)) 50 uX (w.heap.size+1) ap;go_enter func125,ntmps125;go_wp2_with(refine ur (.store 50 (.tmp 6) (.tmp 20)) J (ab J (w.heap.size+1) 0 (yF (Kt id) (.slice (some ⟨w.heap.size+1+1,0,none⟩) 1 1) uz uz (.slice (some ⟨w.heap.size+1+1+1+1,0,none⟩) 1 1)) (((B6.alloc _).alloc _).alloc _) bS uW (Ah _ J J J J) ?_));intro w5 B5 g5 s5;have kk:∀o1 o2 o3 o4 o5,Below w.heap.size w (((((w.alloc o1).alloc o2).alloc o3).alloc o4).alloc o5):=fun o1 o2 o3 o4 o5=>(((((Below.refl _ _).alloc (Nat.le_refl _) _).alloc ap _).alloc aA _).alloc aA _).alloc aA _
 have b5:=uq (kk _ _ _ _ _) g5 aA I;have Bq:F w5 (w.heap.size+1+1) 28 [.slice A nl c,.int .i64 O,.int .i64 N]:=F.grown (((F.wE _ 28 [.slice A nl c,.int .i64 O,.int .i64 N] _ ap).alloc _).alloc _) g5 ap;have Br:F w5 (w.heap.size+1+1+1+1) 119 Sm:=F.grown (F.wE _ 119 Sm _ ap) g5 aA;clear kk g5 B6;go_wp2_with fail;refine xd J (w.heap.size+1) J B5 _ underlying50 J uW J ?_;exact⟨_,_,_,_,_,_,_,_,_,J,b5,AI.out w5 b5 _ _ Bq (fun _=>Br)⟩
theorem Jp(A:Option Addr)(c:Nat)(q:Qn)(id:Int)(abo:Bool)(w:World)(hA:xE w A c q.name)(hn:q.name.length<=100000):
  Calls prog 74 #[.agg #[.slice A q.name.length c,.int .i64 q.O,.int .i64 q.N],.int .i64 id,.bool abo] w (uI (.tuple #[.string (bs (vN (vW q id abo) false).1),.int .i64 (vN (vW q id abo) false).2]) w):=by
 have kb:Below w.heap.size w (w.alloc (.cells #[.slice A q.name.length c,.int .i64 q.O,.int .i64 q.N] 28)):=gF;have MS:=Y (LW A c q id abo _ (hA.G kb) hn);have U:(vW q id abo).qs.length<=700:=bL;have X:(vW q id abo).Cq.length<=400:=mP;clear hA hn;generalize vW q id abo=ul at*;generalize q.O=O,q.N=N,q.name.length=nl at*;go_enter func74,ntmps74;go_wp2_with fail;refine MS.out.mono ?_;rintro _ w1 ⟨cs,Aq,Aa,Au,Ae,cq,ca,cu,ce,rfl,b1,hM⟩;have EN:=Y (SP cs ul false Aq Aa Au Ae cq ca cu ce w1 (hM w1 (JT.refl _ _)) U X);exact qy
structure Ou where
 kind:Int
 to_:vG
 port:Int
 data:List UInt8
deriving DecidableEq
structure Dl where
 y:Qy
 oct:List UInt8
 st:Int
 op:Bool
 uR:List UInt8
 yr:vU
def DA(y:Qy):List UInt8:=(vN (vW y.q y.id false) false).1
def GQ(y:Qy):Int:=(vN (vW y.q y.id false) false).2
def zw(y:Qy):Dl×List Ou:=if GQ y=0 then(⟨y,uA 2 (DA y).length++DA y,0,false,[],vU.zero⟩,[⟨2,y.sv,y.port,[]⟩])else(⟨y,[],2,false,[],vU.zero⟩,[])
def wN(y:Qy):List (List UInt8)->Option vU
 |[]=>none
 |s::l=>if(xh y (xN s)).2 then some (xh y (xN s)).1 else wN y l
theorem Hr(y:Qy)(a b:List (List UInt8)):wN y (a++b)=match wN y a with
  |some m=>some m
  |none=>wN y b:=by
 induction a with
 |nil=>rfl
 |cons s a ih=>
  show(if _ then _ else wN y (a++b))=match(if _ then _ else wN y a)with|some m=>some m|none=>wN y b
  split
  ·rfl
  ·exact ih
def vM(d:Dl)(e:Ev):Dl×List Ou:=
 if d.st≠0\/e.port≠d.y.port then(d,[])
 else if e.kind=3 then(if d.op then(d,[])else({d with op:=true},[⟨3,d.y.sv,d.y.port,d.oct⟩]))
 else if e.kind=4 then(if d.op then(match wN d.y (wl (d.uR++e.data))with
   |some m=>({d with uR:=d.uR++e.data,yr:=m,st:=1},[⟨4,d.y.sv,d.y.port,[]⟩])
   |none=>({d with uR:=d.uR++e.data},[]))else(d,[]))
 else if e.kind=5 then({d with st:=2},[])else(d,[])
def xU(d:Dl):Dl×List Ou:=if d.st≠0 then(d,[])else({d with st:=2},[⟨4,d.y.sv,d.y.port,[]⟩])
def Dl.ok(d:Dl):Prop:=d.st=0->wN d.y (wl d.uR)=none
theorem Ww(y:Qy):(zw y).1.ok:=by
 unfold zw;split
 ·intro _;show wN y (wl [])=none;rw[(wK [] dW).1];rfl
 ·intro h;cases h
theorem Tg(d:Dl)(e:Ev)(h:d.ok):(vM d e).1.ok:=by
 unfold vM;split
 ·exact h
 ·
  split
  ·split<;>exact h
  ·
   split
   ·
    split
    ·
     split
     ·intro h;cases h
     ·rename_i hn;intro _;exact hn
    ·exact h
   ·exact tM
theorem Wx(d:Dl)(e:Ev):(vM d e).1.y=d.y:=by
 unfold vM
 (repeat' split)<;>rfl
theorem Th(d:Dl)(h:d.ok)(h0:d.st=0)(s:List UInt8):wN d.y (wl (d.uR++s))=wN d.y (wl (yA d.uR++s))/\yA (d.uR++s)=yA (yA d.uR++s):=by
 obtain⟨U,X⟩:=Vc d.uR.length d.uR s (Nat.le_refl _);refine⟨?_,X⟩;rw[U,Hr,h h0]
def Gs(o:Ou):List Value:=.int .i64 o.kind::(o.to_.cells++[.int .i64 o.port,.string (bs o.data)])
theorem Dp{o:Ou}(h:o.to_.ip.length=16):(Gs o).length=21:=by simp[Gs,o.to_.uT h]
theorem aeb{o:Ou}(h:o.to_.ip.length=16):((Gs o).drop 1).take 18=o.to_.cells:=by
 show(o.to_.cells++_).take 18=_;exact List.take_left' (o.to_.uT h)
theorem Vi{o:Ou}(h:o.to_.ip.length=16)(k:Nat):(Gs o)[19+k]?=[Value.int .i64 o.port,.string (bs o.data)][k]?:=by
 unfold Gs;rw[show 19+k=(18+k)+1 by omega,List.getElem?_cons_succ,List.getElem?_append_right (by rw[o.to_.uT h];omega),o.to_.uT h,Nat.add_sub_cancel_left]
theorem acn{o:Ou}:∀v∈Gs o,v.oneCell'=true:=by
 intro v hv;rcases List.mem_cons.1 hv with rfl|hv
 ·rfl
 rcases List.mem_append.1 hv with hv|hv
 ·exact o.to_.xW v hv
 ·simp only[List.mem_cons,List.not_mem_nil,or_false]at hv;rcases hv with rfl|rfl<;>rfl
def Yb(w:World)(A:Option Addr)(l:List Ou):Prop:=(∀o∈l,o.to_.ip.length=16)/\(0<l.length->∃b off,A=some ⟨b,off,none⟩/\b<w.heap.size/\∀i (hi:i<l.length),w.rangeAt b (off+i*21) (Gs l[i]))
theorem Yb.G{A:Option Addr}{l:List Ou}(h:Yb w A l)(Z:al w w'):Yb w' A l:=by
 exact rD
theorem Yc : (prog.fieldsOf 97).toList = [{ name := "Kind", type := 3, offset := 0, embedded := false, tag := "", pkgPath := "", byteOffset := 0 }, { name := "To", type := 24, offset := 1, embedded := false, tag := "", pkgPath := "", byteOffset := 8 }, { name := "Port", type := 3, offset := 19, embedded := false, tag := "", pkgPath := "", byteOffset := 40 }, { name := "Data", type := 9, offset := 20, embedded := false, tag := "", pkgPath := "", byteOffset := 48 }] := by kernel_rfl
theorem aaF(a b:vG)(ha:a.ip.length=16)(Z:b.ip.length=16)(w:World):(Op.equalIn 9999 24 (.agg a.cells.toArray) (.agg b.cells.toArray)).run prog w= .ok (decide (a=b)) w:=by
 rw[run_equalIn_struct w 9998 24 _ _ aL (by kernel_rfl),Lb];have p0:∀(x:vG) (w:World),(part 3 x.cells.toArray 0).run prog w= .ok (.int .i64 x.fam) w:=kG;have p1:∀(x:vG),x.ip.length=16->∀(w:World),(part 22 x.cells.toArray 1).run prog w= .ok (.agg (vT x.ip).toArray) w:=fun x hx w=>by
  exact ry
 have p2:∀(x:vG),x.ip.length=16->∀(w:World),(part 3 x.cells.toArray 17).run prog w= .ok (.int .i64 x.hk) w:=jW;have e0:(Op.equalIn 9998 3 (.int .i64 a.fam) (.int .i64 b.fam)).run prog w= .ok (a.fam==b.fam) w:=mZ;have e1:(Op.equalIn 9998 22 (.agg (vT a.ip).toArray) (.agg (vT b.ip).toArray)).run prog w= .ok (decide (a.ip=b.ip)) w:=by rw[Ik,Ik,zk w 9996 _ 5 16 .u8 underlying22 underlying5 VT _ _ (by simpa using ha) aM,Cx]
 have e2:(Op.equalIn 9998 3 (.int .i64 a.hk) (.int .i64 b.hk)).run prog w= .ok (a.hk==b.hk) w:=mZ;exact pW
theorem aaG(w:World):(sizeOf 24).run prog w= .ok 18 w:=by kernel_rfl
theorem aaH{o:Ou}(h:o.to_.ip.length=16):(Gs o).toArray.extract 1 19=o.to_.cells.toArray:=by
 apply Array.toList_inj.1;have X:=aeb h;simpa using X
theorem aaI(a b:Ou)(ha:a.to_.ip.length=16)(Z:b.to_.ip.length=16)(w:World):(Op.equalIn 10000 97 (.agg (Gs a).toArray) (.agg (Gs b).toArray)).run prog w= .ok (decide (a=b)) w:=by
 rw[run_equalIn_struct w 9999 97 _ _ (by unfold Program.fieldsOf;rw[underlying97]) (by kernel_rfl),Yc];have p0:∀(x:Ou) (w:World),(part 3 (Gs x).toArray 0).run prog w= .ok (.int .i64 x.kind) w:=fun x w=>by simp[part,isAgg,run_underlying underlying3,Gs]
 have p1:∀(x:Ou),x.to_.ip.length=16->∀(w:World),(part 24 (Gs x).toArray 1).run prog w= .ok (.agg x.to_.cells.toArray) w:=fun x hx w=>by
  simp only[part,isAgg,Sem.run_bind,run_underlying underlying24,Result.andThen_ok,Sem.run_pure,if_true,aaG,Sem.run_ite];rw[show 1+18=19 from J,aaH hx]
 have p2:∀(x:Ou),x.to_.ip.length=16->∀(w:World),(part 3 (Gs x).toArray 19).run prog w= .ok (.int .i64 x.port) w:=fun x hx w=>by
  have:=Vi hx 0;simp[part,isAgg,run_underlying underlying3]at this⊢;simp[this]
 have p3:∀(x:Ou),x.to_.ip.length=16->∀(w:World),(part 9 (Gs x).toArray 20).run prog w= .ok (.string (bs x.data)) w:=fun x hx w=>by
  have:=Vi hx 1;simp[part,isAgg,run_underlying underlying9]at this⊢;simp[this]
 have e0:(Op.equalIn 9999 3 (.int .i64 a.kind) (.int .i64 b.kind)).run prog w= .ok (a.kind==b.kind) w:=gZ;have e1:=aaF a.to_ b.to_ ha Z w;have e2:(Op.equalIn 9999 3 (.int .i64 a.port) (.int .i64 b.port)).run prog w= .ok (a.port==b.port) w:=gZ;have e3:(Op.equalIn 9999 9 (.string (bs a.data)) (.string (bs b.data))).run prog w= .ok (a.data==b.data) w:=by rw[run_equalIn_string w 9998 _ _ _ underlying9,NG,NG]
 simp only[Op.eqFields,ne_eq,String.reduceEq,not_false_eq_true,if_true,Sem.run_bind,p0,p1 a ha,p1 b Z,p2 a ha,p2 b Z,p3 a ha,p3 b Z,e0,e1,e2,e3,Result.andThen_ok,Sem.run_ite,Sem.run_pure];obtain⟨k1,t1,q1,d1⟩:=a;obtain⟨k2,t2,q2,d2⟩:=b;simp only[Ou.mk.injEq];by_cases U:k1=k2<;>by_cases X:t1=t2<;>by_cases h3:q1=q2<;>by_cases h4:d1=d2<;>simp[U,X,h3,h4]
def Uq(w:World)(v:Value)(n:List (List UInt8)):Prop:=wO w v n/\n.length<=100000/\∀l∈n,l.length<=140737488355328
theorem Uq.uH(h:Uq w v n)(k:uK w w'):Uq w' v n:=⟨k _ _ h.1,h.2⟩
theorem Uq.form(h:Uq w v n):∃A c,v= .slice A n.length c/\xE w A c n:=by
 obtain⟨A,c,U,X,h3⟩:=h.1.form;exact⟨A,c,U,X,h3,by have:=h.2.1;omega,h.2.2⟩
theorem vf.UZ{g:Nat}{m:vU}(h:vf w cs m)(hg:w.grownBy w' (some g))(Z:F w g t L)(U:t≠28)(X:t≠119)(h3:t≠9):vf w' cs m:=by
 obtain⟨vq,va,vu,ve,k1,k2,k3,k4,k5,l⟩:=h;exact⟨vq,va,vu,ve,k1,k2.vj hg Z U h3,k3.vj hg Z X h3,k4.vj hg Z X h3,k5.vj hg Z X h3,l⟩
theorem Hs{g n:Nat}{ul:List Value}(h:F w g t (L++ul.drop n))(hM:ul.length<=n):F w g t L:=by
 exact rV
def II(vn:Value)(d:Dl):List Value:=xY vn d.y++[.string (bs d.oct),.int .i64 d.st,.bool d.op]
section
variable {vn:Value} {d:Dl} (h:d.y.sv.ip.length=16) {post:List Value} {a b c e:Value}
include h
theorem Dr:(II vn d).length=26:=by simp[II,wU h]
theorem aaJ(i:Nat)(hi:i<26):(JB (II vn d) post a b c e)[i]?=(II vn d)[i]?:=by unfold JB;rw[List.getElem?_append_left (by rw[Dr h];exact hi)]
theorem Ti(k:Nat)(z:k<3):(JB (II vn d) post a b c e)[23+k]?=[Value.string (bs d.oct),.int .i64 d.st,.bool d.op][k]?:=by
 rw[aaJ h _ I];unfold II;rw[List.getElem?_append_right dX,wU h,Nat.add_sub_cancel_left]
theorem afc(i:Nat)(hi:i<23):(JB (II vn d) post a b c e)[i]?=(xY vn d.y)[i]?:=by
 rw[aaJ h _ I];unfold II;rw[List.getElem?_append_left dY]
theorem Wy:(JB (II vn d) post a b c e)[18]?=some (.int .i64 d.y.port):=by rw[afc h 18 I];exact zd h 0
theorem afL:((JB (II vn d) post a b c e).drop 0).take 23=xY vn d.y:=by
 rw[List.drop_zero];unfold JB II;rw[List.append_assoc];exact List.take_left' (wU h)
theorem ado:((JB (II vn d) post a b c e).drop 0).take 18=d.y.sv.cells:=by
 rw[List.drop_zero];unfold JB II xY;rw[List.append_assoc,List.append_assoc];exact List.take_left' (d.y.sv.uT h)
theorem Ql:(JB (II vn d) post a b c e).length=30+post.length:=by simp[JB,Dr h];omega
theorem Wz:(JB (II vn d) post a b c e).drop 30=post:=by
 unfold JB;rw[show(30:Nat)=(II vn d).length+4 by rw[Dr h],List.drop_append];simp
theorem aec(sub:List Value)(hs:sub.length=post.length):(JB (II vn d) post a b c e).take 30++sub++(JB (II vn d) post a b c e).drop (30+sub.length)=JB (II vn d) sub a b c e:=by
 rw[List.drop_of_length_le (by rw[Ql h];omega),List.append_nil];have e1:(JB (II vn d) post a b c e).take 30=II vn d++[a,b,c,e]:=by unfold JB;rw[show(30:Nat)=(II vn d).length+4 by rw[Dr h],List.take_append];simp;exact List.take_of_length_le I
 rw[e1];simp[JB]
theorem aed(k:Nat)(z:k<3)(x:Value):(JB (II vn d) post a b c e).set (23+k) x=JB (xY vn d.y++([Value.string (bs d.oct),.int .i64 d.st,.bool d.op].set k x)) post a b c e:=by
 unfold JB;rw[List.set_append_left _ _ (by rw[Dr h];omega)];unfold II;rw[List.set_append_right _ _ dX,wU h,Nat.add_sub_cancel_left]
end
def zf(w:World)(g:Nat)(d:Dl)(p:List UInt8):Prop:=∃vn ds,xi w g (II vn d) ds p/\d.y.sv.ip.length=16/\Uq w vn d.y.q.name/\vf w ds d.yr
def zg(w:World)(g:Nat)(d:Dl):Prop:=∃p,zf w g d p/\(d.st=0->p=yA d.uR)/\d.ok
theorem zf.G{g:Nat}{d:Dl}(h:zf w g d p)(Z:al w w'):zf w' g d p:=by
 obtain⟨vn,ds,U,X,h3,h4⟩:=h;exact⟨vn,ds,U.G Z,X,h3.uH (uK.G Z),h4.G Z⟩
theorem zg.G{g:Nat}{d:Dl}(h:zg w g d)(Z:al w w'):zg w' g d:=by
 obtain⟨p,U,X⟩:=h;exact⟨p,U.G Z,X⟩
theorem zf.open_{g:Nat}{d:Dl}(h:zf w g d p):∃vn ds a b c e,F w g 152 (JB (II vn d) ds a b c e)/\d.y.sv.ip.length=16/\Uq w vn d.y.q.name/\vf w ds d.yr/\xi w g (II vn d) ds p:=by
 obtain⟨vn,ds,U,X,h3,h4⟩:=h;have h1':=U;obtain⟨last,ts,b0,b1,hpl,Z,_⟩:=h1';exact⟨vn,ds,_,_,_,_,Z,X,h3,h4,U⟩
theorem Uq.Tj{g:Nat}(h:Uq w v n)(hg:w.grownBy w' (some g))(Z:F w g 152 L):Uq w' v n:=h.uH (uK.vj hg Z az)
theorem vf.Tj{g:Nat}{m:vU}(h:vf w cs m)(hg:w.grownBy w' (some g))(Z:F w g 152 L):vf w' cs m:=h.UZ hg Z az az az
theorem zf.vj{g:Nat}{d:Dl}(h:zf w g d p):∃vn L ds,F w g 152 L/\L.length=44/\d.y.sv.ip.length=16/\Uq w vn d.y.q.name/\(L.drop 0).take 23=xY vn d.y/\(L.drop 0).take 18=d.y.sv.cells/\L[18]?=some (.int .i64 d.y.port)/\L[23]?=some (.string (bs d.oct))/\L[24]?=some (.int .i64 d.st)/\L[25]?=some (.bool d.op)/\(L.drop 30).take 14=ds/\vf w ds d.yr/\
  ∀w' ds' m,w.grownBy w' (some g)->F w' g 152 (L.take 30++ds'++L.drop (30+ds'.length))->vf w ds' m->zf w' g {d with yr:=m} p:=by
 obtain⟨vn,ds,U,h2,hN,hM⟩:=h;obtain⟨last,ts,b0,b1,hpl,Z,hc,r⟩:=U;have hdl:=hM.len;refine⟨vn,_,ds,Z,by rw[Ql h2,hdl],h2,hN,afL h2,ado h2,Wy h2,Ti h2 0 I,Ti h2 1 I,Ti h2 2 I,?_,hM,?_⟩
 ·rw[Wz h2,List.take_of_length_le I]
 ·intro w' ds' m hg hb' hM';rw[aec h2 ds' (by rw[hM'.len,hdl])]at hb';exact⟨vn,ds',⟨last,ts,b0,b1,Dr h2,hb',wV.grown Z hg _ _ hc,r⟩,h2,hN.Tj hg Z,hM'.Tj hg Z⟩
theorem zf.set{g:Nat}{d d':Dl}(h:zf w g d p)(k:Nat)(z:k<3)(x:Value)(hy:d'.y=d.y)(hm:d'.yr=d.yr)(hx:[Value.string (bs d.oct),.int .i64 d.st,.bool d.op].set k x=[Value.string (bs d'.oct),.int .i64 d'.st,.bool d'.op]):zf (w.setCell ⟨g,23+k,none⟩ x) g d' p:=by
 obtain⟨vn,ds,U,X,h3,h4⟩:=h;obtain⟨last,ts,b0,b1,hpl,Z,hc,r⟩:=U;have hg:w.grownBy (w.setCell ⟨g,23+k,none⟩ x) (some g):=ix;have hb2:=Z.set (23+k) x;rw[aed X k z x,hx,<-hy]at hb2;refine⟨vn,ds,⟨last,ts,b0,b1,Dr (by rw[hy];exact X),hb2,wV.grown Z hg _ _ hc,r⟩,by rw[hy];exact X,by rw[hy];exact h3.Tj hg Z,by rw[hm];exact h4.Tj hg Z⟩
def OuI(cs:List Value)(o:Ou):Prop:=cs=Gs o/\o.to_.ip.length=16
theorem OuI.len(cs:List Value)(o:Ou)(h:OuI cs o):cs.length=21:=by rw[h.1];exact Dp h.2
def vJ(lo:Nat)(w:World)(v:Value)(l:List Ou):Prop:=uY w lo 97 21 OuI v l
theorem WB:∀{uo:List (List Value)} {l:List Ou},Ci OuI uo l->∀o∈l,o.to_.ip.length=16
 |[],[],_,o,ho=>by cases ho
 |_::_,_::_,h,o,ho=>by
  rcases List.mem_cons.1 ho with rfl|ho
  ·exact h.1.2
  ·exact WB h.2 o ho
theorem vJ.nil(lo:Nat)(w:World):vJ lo w (.slice none 0 0) []:=⟨[],World.ownsRow_nil _ _ _ _,trivial⟩
theorem vJ.G{l:List Ou}(h:vJ lo w v l)(Z:al w w'):vJ lo w' v l:=uY.uH h (fun _ x=>wC x Z) (fun _ _ x=>x)
theorem vJ.mono{lo':Nat}{l:List Ou}(h:vJ lo w v l)(hl:lo'<=lo):vJ lo' w v l:=by
 obtain⟨uo,U,X⟩:=h;exact⟨uo,⟨U.1,U.2.imp id fun⟨g,c,cur,hv,hg,r⟩=>⟨g,c,cur,hv,Nat.le_trans hl hg,r⟩⟩,X⟩
theorem vJ.grown{g:Nat}{l:List Ou}(h:vJ lo w v l)(hg:w.grownBy w' (some g))(hl:g<lo):vJ lo w' v l:=by
 obtain⟨uo,U,X⟩:=h;refine⟨uo,U.kept hg (.inr ?_),X⟩;intro e;have:=xZ U g e;omega
theorem vJ.form{l:List Ou}(h:vJ lo w v l):∃A c,v= .slice A l.length c/\Yb w A l/\∀b,A=some b->lo<=b.block:=by
 obtain⟨A,c,rfl⟩:=uY.form h;refine⟨A,c,J,⟨?_,fun hp=>?_⟩,fun b Z=>?_⟩
 ·obtain⟨uo,_,X⟩:=h;exact WB X
 ·obtain⟨g,U,X,h3⟩:=uY.uG OuI.len h hp;refine⟨g,0,U,X,fun i hi=>?_⟩;obtain⟨cs,h4,h5,_⟩:=h3 i hi;rw[<-h5];exact h4
 ·obtain⟨uo,U,_⟩:=h;exact xZ U b.block (by rw[Z];rfl)
def KH(g:Nat)(r:Dl×List Ou)(w:World)(e:Ending)(w':World):Prop:=∃v,e= .returned v/\vJ w.heap.size w' v r.2/\zg w' g r.1/\w.grownBy w' (some g)
def aaK(m:vU)(w:World)(e:Ending)(w':World):Prop:=∃ds,e= .returned (.agg ds.toArray)/\vf w' ds m/\al w w'
theorem Vj(g:Nat)(d:Dl)(w:World)(h:zg w g d):Calls prog 17 #[.pointer (some ⟨g,0,none⟩)] w (xX (.int .i64 d.st) w):=by
 obtain⟨p,h,_⟩:=h;obtain⟨vn,ds,a,b,c,e,Z,h2,_⟩:=h.open_;have c24:=Z.M 24 (Ti h2 1 I);clear h Z;go_enter func17,ntmps17;go_wp2;exact pD
theorem aaL(g:Nat)(d:Dl)(w:World)(h:zg w g d):Calls prog 22 #[.pointer (some ⟨g,0,none⟩)] w (aaK d.yr w):=by
 obtain⟨p,h,_⟩:=h;obtain⟨vn,ds,a,b,c,e,Z,h2,_,hM,_⟩:=h.open_;have hl:=Ql (vn:=vn) (post:=ds) (a:=a) (b:=b) (c:=c) (e:=e) h2;have hp:=Wz (vn:=vn) (post:=ds) (a:=a) (b:=b) (c:=c) (e:=e) h2;generalize JB (II vn d) ds a b c e=L at*;have hdl:=hM.len;have hd1:=Y hM.one;have C:=Z.alloc (.cells uX.toArray 50);have B2:=F.new w 50 uX;have HB:Below w.heap.size w (w.alloc (.cells uX.toArray 50)):=gF;have hM2:=hM.G HB;have HP:Hid ((L.drop 30).take 14=ds):=Y (by rw[hp,List.take_of_length_le I]);clear h hp Z hM;go_enter func22,ntmps22;go_wp2_with(first
  |(refine ur (.load 50 (.tmp 8)) rfl ?_;go_must(refine uu rfl _ _ rfl g 30 rfl C 14 I _ underlying50 rfl uW ds HP.out ?_))
  |(refine ur (.store 50 (.tmp 2) (.tmp 9)) rfl (ab rfl w.heap.size 0 ds B2 dL dK hd1.out ?_)))
 intro w8 B8 g8 _;replace B8:F w8 w.heap.size 50 ds:=Hs B8 dL;have HB8:=uq HB g8 HB.size (Nat.le_refl _);have hM8:=hM2.UZ g8 B2 az az az;clear g8 HB B2 hM2 C;go_wp2_with fail;refine xd J w.heap.size J B8 _ underlying50 J dK J ?_;exact⟨ds,J,hM8,HB8⟩
theorem Mw{P:Program}(t:TypeId)(parts:Array (Nat×Operand))(ho:o.op= .build t parts)(ww:Array (Nat×Value))(hv:parts.map (fun(i,x)=>(i,a.eval x))=ww)(hr:(Instr.build t ww).run P w= .ok v w):(execOp a.eval o).run P w= .ok (.value v) w:=by
 exact td
theorem Yd(kind fam hk port:Int)(b0 b1 b2 b3 b4 b5 b6 b7 b8 b9 b10 b11 b12 b13 b14 b15:UInt8)(data:List UInt8)(W:World):
  (Instr.build 97 #[(0,.int .i64 kind),(1,.agg (vG.cells ⟨fam,[b0,b1,b2,b3,b4,b5,b6,b7,b8,b9,b10,b11,b12,b13,b14,b15],hk⟩).toArray),(2,.int .i64 port),(3,.string (bs data))]).run prog W= .ok (.agg (Gs ⟨kind,⟨fam,[b0,b1,b2,b3,b4,b5,b6,b7,b8,b9,b10,b11,b12,b13,b14,b15],hk⟩,port,data⟩).toArray) W:=by
 kernel_rfl
theorem KI(kind:Int)(to_:vG)(port:Int)(data:List UInt8)(h:to_.ip.length=16)(W:World):(Instr.build 97 #[(0,.int .i64 kind),(1,.agg to_.cells.toArray),(2,.int .i64 port),(3,.string (bs data))]).run prog W= .ok (.agg (Gs ⟨kind,to_,port,data⟩).toArray) W:=by
 obtain⟨fam,ip,hk⟩:=to_;have h':ip.length=16:=h;clear h;match ip,h' with
 |[b0,b1,b2,b3,b4,b5,b6,b7,b8,b9,b10,b11,b12,b13,b14,b15],_=>exact Yd kind fam hk port b0 b1 b2 b3 b4 b5 b6 b7 b8 b9 b10 b11 b12 b13 b14 b15 data W
def ouZ:List Value:=Gs ⟨0,vG.zero,0,[]⟩
theorem IJ:(prog.info? 97).map (fun i=>(i.zero,i.size,i.bytes))=some (some (.agg ouZ.toArray),21,64):=by kernel_rfl
theorem MB(w:World)(cs:List Value)(hl:cs.length=21):(Instr.buildSlice 34 1 #[(0,.agg cs.toArray)]).run prog w= .ok (.slice (some ⟨w.heap.size,0,none⟩) 1 1) (w.alloc (.cells cs.toArray 97)):=by
 obtain⟨i,hi,hz,adh,hby⟩:=info_parts IJ;refine run_buildSlice w 34 97 1 _ cs.toArray i _ underlying34 hi hz cK cK ?_;rw[adh];have:=Iz 21 ((Array.range (1*21)).map ((Value.agg ouZ.toArray).cells[· % (Value.agg ouZ.toArray).cells.size]!)).toList cs hl ap;exact sD
theorem Jq{v':Value}(x:Operand)(ho:o.op= .buildSlice 34 1 #[(0,x)])(hx:a.eval x=v)(hr:(Instr.buildSlice 34 1 #[(0,v)]).run prog w= .ok v' w'):(execOp a.eval o).run prog w= .ok (.value v') w':=by
 exact qF
theorem IK(w:World)(o:Ou)(h:o.to_.ip.length=16):vJ w.heap.size (w.alloc (.cells (Gs o).toArray 97)) (.slice (some ⟨w.heap.size,0,none⟩) 1 1) [o]:=by
 have hl:=Dp h;refine⟨[Gs o],⟨by simp[hl],.inr ⟨w.heap.size,1,(Gs o).toArray,J,Nat.le_refl _,F.new w 97 (Gs o),Nat.le_refl _,by simp[maxLen],by simp[hl],?_⟩⟩,⟨J,h⟩,trivial⟩;exact qD
def Qm(o:Ou)(w:World)(e:Ending)(w':World):Prop:=∃v,e= .returned v/\vJ w.heap.size w' v [o]/\al w w'
theorem aco(f:FuncId)(hf:f=76)(g:Nat)(kind:Int)(data:List UInt8)(L:List Value)(to_:vG)(port:Int)(w:World)(Z:F w g 152 L)(hl:23<=L.length)(h2:to_.ip.length=16)(ha:(L.drop 0).take 18=to_.cells)(hp:L[18]?=some (.int .i64 port)):
  Calls prog f #[.pointer (some ⟨g,0,none⟩),.int .i64 kind,.string (bs data)] w (Qm ⟨kind,to_,port,data⟩ w):=by
 subst hf;have RB:=Y (fun W=>KI kind to_ port data h2 W);have HL:=Dp (o:=⟨kind,to_,port,data⟩) h2;have ON:=Y (fun W=>IK W ⟨kind,to_,port,data⟩ h2);have HA:=Y ha;clear h2 ha;generalize Gs ⟨kind,to_,port,data⟩=oc at*;generalize to_.cells=tc at*;go_enter func76,ntmps76;go_wp2_with fail;refine wp_region_held_drew (S:=fun V=>al w V) (by kernel_rfl) (Below.refl _ _).drew (fun K=>?_)
 (refine ag 0 (some 7) J J (by kernel_rfl) (fun W hW=>rfl) K ?_;simp only[E])
 (refine ag 1 (some 8) J J (by kernel_rfl) (fun W hW=>rfl) K ?_;simp only[E])
 refine ag 2 (some 9) (v:=.pointer (some ⟨g,0,none⟩)) J J (by kernel_rfl) (fun W hW=>by kernel_rfl) K ?_;simp only[E];refine ag 3 (some 10) (v:=.pointer (some ⟨g,0,none⟩)) J J (by kernel_rfl) (fun W hW=>rfl) K ?_;simp only[E];refine ag 4 (some 11) (v:=.pointer (some ⟨g,0,none⟩)) J J (by kernel_rfl) (fun W hW=>rfl) K ?_;simp only[E];refine vK 5 (some 12) 24 (.tmp 11) ⟨g,0,none⟩ J J J J (by kernel_rfl) (by kernel_rfl) (by kernel_rfl) (fun _ _ _ h=>h) (by kernel_rfl) (fun V hV=>(Z.G hV Z.lt).wS 24 0 18 I _ underlying24 J xL _ HA.out) K ?_;simp only[E]
 (refine ag 6 (some 13) J J (by kernel_rfl) (fun W hW=>rfl) K ?_;simp only[E])
 refine ag 7 (some 14) (v:=.pointer (some ⟨g,0,none⟩)) J J (by kernel_rfl) (fun W hW=>by kernel_rfl) K ?_;simp only[E];refine ag 8 (some 15) (v:=.pointer (some ⟨g,0,none⟩)) J J (by kernel_rfl) (fun W hW=>rfl) K ?_;simp only[E];refine ag 9 (some 16) (v:=.pointer (some ⟨g,18,none⟩)) J J (by kernel_rfl) (fun W hW=>rfl) K ?_;simp only[E];refine vK 10 (some 17) 3 (.tmp 16) ⟨g,18,none⟩ J J J J (by kernel_rfl) (by kernel_rfl) (by kernel_rfl) (fun _ _ _ h=>h) (by kernel_rfl) (fun V hV=>uB underlying3 J ((Z.G hV Z.lt).M 18 hp)) K ?_;simp only[E]
 (refine ag 11 (some 18) J J (by kernel_rfl) (fun W hW=>rfl) K ?_;simp only[E])
 refine ag 12 (some 19) (v:=.agg oc.toArray) J J (by kernel_rfl) (fun W hW=>Mw 97 _ J #[(0,.int .i64 kind),(1,.agg tc.toArray),(2,.int .i64 port),(3,.string (bs data))] (by kernel_rfl) (RB.out W)) K ?_;simp only[E];refine uO 13 (by kernel_rfl) ?_;refine vz 13 (some 20) J J (by kernel_rfl) (Jq (.tmp 19) J J (MB _ oc HL)) ?_;have OO:=ON.out w.drew;have hS2:Below w.heap.size w (w.drew.alloc (.cells oc.toArray 97)):=oT;refine⟨hS2,?_⟩;clear K;have K:=hS2;clear hS2;simp only[E]
 (refine ag 14 (some 6) J J (by kernel_rfl) (fun W hW=>rfl) K ?_;simp only[E])
 refine wpAnyH_done (by kernel_rfl) ?_ _;exact uh
theorem zf.out{g:Nat}{d:Dl}(h:zf w g d p)(kind:Int)(data:List UInt8):
  Calls prog 76 #[.pointer (some ⟨g,0,none⟩),.int .i64 kind,.string (bs data)] w (Qm ⟨kind,d.y.sv,d.y.port,data⟩ w):=by
 obtain⟨vn,ds,a,b,c,e,Z,h2,_,hM,_⟩:=h.open_;exact aco _ J g kind data _ d.y.sv d.y.port w Z (by rw[Ql h2];omega) h2 (ado h2) (Wy h2)
theorem aaM(g:Nat)(d:Dl)(w:World)(h:zg w g d):Calls prog 28 #[.pointer (some ⟨g,0,none⟩)] w (KH g (xU d) w):=by
 have h':=h;obtain⟨p,hJ,hp,hok⟩:=h;obtain⟨vn,ds,a,b,c,e,Z,h2,_⟩:=hJ.open_;have c24:=Z.M 24 (Ti h2 1 I);have f24:=Z.frozen 24;by_cases hs:d.st=0
 case neg=>have e1:xU d=(d,[]):=nZ;rw[e1];have hs':(d.st !=0)=true:=kC;have H:=Y h';clear h' hJ hp hok Z h2 hs e1;generalize d.st=st at*;go_enter func28,ntmps28;exact sY
 have e1:xU d=({d with st:=2},[⟨4,d.y.sv,d.y.port,[]⟩]):=lH;rw[e1];have J2:zf (w.setCell ⟨g,24,none⟩ (.int .i64 2)) g {d with st:=2} p:=hJ.set 1 I (.int .i64 2) J J J;have G2:w.grownBy (w.setCell ⟨g,24,none⟩ (.int .i64 2)) (some g):=ix;have OC:=Y (J2.out 4 []);have HJ:=Y J2;rw[hs]at c24;clear h' hJ hp hok Z h2 hs e1 J2;go_enter func28,ntmps28;go_wp2_with fail;refine OC.out.mono ?_;rintro _ w2 ⟨v,rfl,hO,b2⟩;go_wp2_with fail;go_ret;exact⟨_,J,hO.mono aH,⟨p,HJ.out.G b2,fun h=>dZ,fun h=>dZ⟩,vR G2 b2⟩
theorem MC{y:Qy}(z:k<l.length)(h:wN y (l.take k)=none)(hf:(xh y (xN l[k])).2=false):wN y (l.take (k+1))=none:=by
 exact ss
theorem Kw{y:Qy}(z:k<l.length)(h:wN y (l.take k)=none)(hf:(xh y (xN l[k])).2=true):wN y l=some (xh y (xN l[k])).1:=by
 have e1:wN y (l.take (k+1))=some (xh y (xN l[k])).1:=by exact ss
 have e2:=Hr y (l.take (k+1)) (l.drop (k+1));rw[List.take_append_drop,e1]at e2;exact e2
theorem aaN(y:Qy):(zw y).2.length<=1:=by unfold zw;split<;>simp
theorem Jr(d:Dl)(e:Ev):(vM d e).2.length<=1:=by unfold vM;(repeat' split)<;>simp
theorem Js(d:Dl):(xU d).2.length<=1:=by unfold xU;split<;>simp
theorem aee(y:Qy):(zw y).1.y=y:=by unfold zw;split<;>rfl
theorem Tk(d:Dl)(e:Ev):(vM d e).1.uR.length<=d.uR.length+e.data.length:=by
 unfold vM
 (repeat' split)<;>simp
def xs(n:List (List UInt8))(k:Nat):List (List UInt8):=(n.take k).map (· ++[120])++n.drop k
theorem Ye(A:Option Addr)(c:Nat)(q:Qn)(id:Int)(w:World)(hA:xE w A c q.name):
  Calls prog 125 #[.agg #[.slice A q.name.length c,.int .i64 q.O,.int .i64 q.N],.int .i64 id,.bool false] w (Vg (vW q id false) w):=by
 have AI:=Y (fun(w':World) (b:al w w') (gq:Nat) hq=> @ZV w' 0 gq 0 A c q id false hq (fun h=>by cases h) (hA.G b));clear hA;generalize vW q id false=ul at*;generalize q.O=O,q.N=N,q.name.length=nl at*;have B6:=F.wE (w.alloc (.cells #[.slice A nl c,.int .i64 O,.int .i64 N] 28)) 50 uX (w.heap.size+1) ap;go_enter func125,ntmps125;go_wp2_with(refine ur (.store 50 (.tmp 6) (.tmp 20)) J (ab J (w.heap.size+1) 0 (yF (Kt id) (.slice (some ⟨w.heap.size+1+1,0,none⟩) 1 1) uz uz uz) ((B6.alloc _).alloc _) (by rw[zc,zF];omega) ea (Ah _ J J J J) ?_));intro w5 B5 g5 s5;have kk:∀o1 o2 o3 o4,Below w.heap.size w ((((w.alloc o1).alloc o2).alloc o3).alloc o4):=ir;have b5:=uq (kk _ _ _ _) g5 aA I;have Bq:F w5 (w.heap.size+1+1) 28 [.slice A nl c,.int .i64 O,.int .i64 N]:=F.grown ((F.wE _ 28 [.slice A nl c,.int .i64 O,.int .i64 N] _ ap).alloc _) g5 ap;clear kk g5 B6;go_wp2_with fail;refine xd J (w.heap.size+1) J B5 _ underlying50 J uW J ?_;exact⟨_,_,_,_,_,_,_,_,_,J,b5,AI.out w5 b5 _ Bq⟩
theorem Vk(A:Option Addr)(c:Nat)(q:Qn)(id:Int)(abo:Bool)(w:World)(hA:xE w A c q.name):
  Calls prog 125 #[.agg #[.slice A q.name.length c,.int .i64 q.O,.int .i64 q.N],.int .i64 id,.bool abo] w (Vg (vW q id abo) w):=by
 cases abo
 ·exact Ye A c q id w hA
 ·exact Vh A c q id w hA
theorem Ck(A:Option Addr)(c:Nat)(q:Qn)(id:Int)(abo:Bool)(w:World)(hA:xE w A c q.name):
  Calls prog 82 #[.agg #[.slice A q.name.length c,.int .i64 q.O,.int .i64 q.N],.int .i64 id,.bool abo] w (uI (.tuple #[.string (bs (vN (vW q id abo) false).1),.int .i64 (vN (vW q id abo) false).2]) w):=by
 have kb:Below w.heap.size w (w.alloc (.cells #[.slice A q.name.length c,.int .i64 q.O,.int .i64 q.N] 28)):=gF;have MS:=Y (Vk A c q id abo _ (hA.G kb));have U:(vW q id abo).qs.length<=100:=bL;have X:(vW q id abo).Cq.length<=200:=mP;clear hA;generalize vW q id abo=ul at*;generalize q.O=O,q.N=N,q.name.length=nl at*;go_enter func82,ntmps82;go_wp2_with fail;refine MS.out.mono ?_;rintro _ w1 ⟨cs,Aq,Aa,Au,Ae,cq,ca,cu,ce,rfl,b1,hM⟩;have EN:=Y (Mn cs ul false Aq Aa Au Ae cq ca cu ce w1 hM U X);exact qy
theorem OZ(q:Qn)(id:Int)(abo:Bool):(vN (vW q id abo) false).2≠0\/((vN (vW q id abo) false).2=0/\(vN (vW q id abo) false).1.length<=65535/\xN (vN (vW q id abo) false).1= .ok (vW q id abo)):=by
 have hw:∀r∈(vW q id abo).Cq,r.wf:=by
  intro r hr;cases abo with
  |false=>simp[vW,vU.Cq]at hr
  |true=>
   have:r=PO:=by simpa[vW,vU.Cq]using hr
   subst this;exact⟨J,J⟩
 rcases U6 _ hw with⟨U,X,h3,h4,h5,h6⟩|⟨U,_⟩|⟨U,_⟩
 ·exact .inr ⟨U,h4,h5⟩
 ·exact .inl U
 ·exact .inl U
def dl0(y:Qy):Dl:=⟨y,[],0,false,[],vU.zero⟩
def dlZ(vn:Value)(y:Qy):List Value:=JB (II vn (dl0 y)) uX (.pointer none) (.int .i64 0) (.int .u8 0) (.int .u8 0)
theorem Yf(fam hk port id:Int)(q:Qn)(b0 b1 b2 b3 b4 b5 b6 b7 b8 b9 b10 b11 b12 b13 b14 b15:UInt8)(vn:Value)(W:World):
  (Instr.build 152 #[(0,.agg (xY vn ⟨⟨fam,[b0,b1,b2,b3,b4,b5,b6,b7,b8,b9,b10,b11,b12,b13,b14,b15],hk⟩,port,id,q⟩).toArray)]).run prog W= .ok (.agg (dlZ vn ⟨⟨fam,[b0,b1,b2,b3,b4,b5,b6,b7,b8,b9,b10,b11,b12,b13,b14,b15],hk⟩,port,id,q⟩).toArray) W:=by
 kernel_rfl
theorem acp(vn:Value)(y:Qy)(h:y.sv.ip.length=16)(W:World):(Instr.build 152 #[(0,.agg (xY vn y).toArray)]).run prog W= .ok (.agg (dlZ vn y).toArray) W:=by
 obtain⟨⟨fam,ip,hk⟩,port,id,q⟩:=y;have h':ip.length=16:=h;clear h;match ip,h' with
 |[b0,b1,b2,b3,b4,b5,b6,b7,b8,b9,b10,b11,b12,b13,b14,b15],_=>exact Yf fam hk port id q b0 b1 b2 b3 b4 b5 b6 b7 b8 b9 b10 b11 b12 b13 b14 b15 vn W
theorem Yg(vn vm:Value)(y:Qy)(h:y.sv.ip.length=16):(xY vn y).set 20 vm=xY vm y:=by
 unfold xY;rw[List.set_append_right _ _ dI,y.sv.uT h];rfl
def aaO(y:Qy)(w:World)(e:Ending)(w':World):Prop:=∃g v,e= .returned (.tuple #[.pointer (some ⟨g,0,none⟩),v])/\zg w' g (zw y).1/\vJ (g+1) w' v (zw y).2/\al w w'/\w.heap.size<=g
theorem Kb:wl []=[]/\yA []=[]:=wK [] dW
theorem aaP(cs:List Value)(y:Qy)(A:Option Addr)(c:Nat)(w:World)(h:Ho w cs y A c)(hn:y.q.name.length<=100000):
  Calls prog 15 #[.agg cs.toArray] w (aaO y w):=by
 have h2:=h.ip;have hcl:cs.length=23:=nT;have L20:cs[20]?=some (.slice A y.q.name.length c):=by rw[h.hS];exact zd h2 2
 have ass:∀vm,cs.set 20 vm=xY vm y:=fun vm=>by rw[h.hS];exact Yg _ _ _ h2
 have B1:=F.new w 37 cs;have HB1:Below w.heap.size w (w.alloc (.cells cs.toArray 37)):=gF;have CL:=Y (DU A c y.q.name _ (h.nm.G HB1) hn);have hll:Hid (∀l∈y.q.name,l.length<=140737488355328):=Y h.nm.2.2.2;have a20:=B1.M 20 L20;have aut:=Y ass;have hnl:y.q.name.length<=17592186044416:=I;obtain⟨R,hR⟩:=ao (zw y);unfold aaO;rw[hR.out];clear h L20 ass;go_enter func15,ntmps15;go_wp2_with fail;refine CL.out.mono ?_;rintro _ w1 ⟨A1,c1,rfl,alF,b1⟩;have C1:=B1.G b1 B1.lt;have ty:=um HB1 HB1.size b1;clear CL B1 HB1 b1 a20;go_wp2_with(refine ur (.store 26 (.tmp 12) (.tmp 10)) J (af J w.heap.size 20 (.slice A1 y.q.name.length c1) C1 (by rw[hcl];decide) vO ?_));intro w2 C2 g2 zs;clear zs;rw[aut.out]at C2;have akI:=Cj alF g2 C1 az;have HB3:=uq ty g2 ty.size (Nat.le_refl _);have hT2:wO w2 (.slice A1 y.q.name.length c1) y.q.name:=CP akI;have N2:=ZU akI hnl hll.out;have hN2:Uq w2 (.slice A1 y.q.name.length c1) y.q.name:=⟨hT2,hn,hll.out⟩;have RB:=Y (fun W=>acp (.slice A1 y.q.name.length c1) y h2 W);have hql:=wU (vn:=.slice A1 y.q.name.length c1) h2;have q19:(xY (.slice A1 y.q.name.length c1) y)[19]?=some (.int .i64 y.id):=zd h2 1;have Q3:=Y (OT (vn:=.slice A1 y.q.name.length c1) h2);have a19:=fun o=>(C2.alloc o).M 19 q19
 have HLL:Hid (∀W,F W w2.heap.size 152 (dlZ (.slice A1 y.q.name.length c1) y)->Uq W (.slice A1 y.q.name.length c1) y.q.name->zf W w2.heap.size (dl0 y) []):=Y (fun W Z hN=>
  ⟨_,uX,⟨none,[],0,0,Dr (d:=dl0 y) h2,Z,J,J,ap,ap⟩,h2,hN,vf.zero _⟩)
 have BU:=Y (fun W (Z:al w2 W)=>Jp A1 c1 y.q y.id false W (N2.G Z) hn);have AP:Hid (GQ y=0->(DA y).length<=65535):=Y (fun h0=>by
  rcases OZ y.q y.id false with h|⟨_,h,_⟩
  ·exact absurd h0 h
  ·
   exact h)
 clear aut alF g2 C1 ty akI hT2 N2 q19 hll hnl;generalize xY (.slice A1 y.q.name.length c1) y=qs at*;obtain⟨LL,hLL⟩:=ao (dlZ (.slice A1 y.q.name.length c1) y);rw[hLL.out]at RB HLL;unfold qC at Q3;go_wp2_with(first
  |(refine ur (.load 37 (.tmp 1)) rfl ?_;go_must(refine uu rfl _ _ rfl w.heap.size 0 rfl C2 23 I _ underlying37 rfl Dy qs (wP I) ?_))
  |(refine ur (.build 152 #[(0,.tmp 13)]) rfl ?_;go_must(refine wi rfl 152 _ rfl #[(0,.agg qs.toArray)] ee (RB.out _) ?_))
  |(refine ur (.load 28 (.tmp 17)) rfl ?_;go_must(refine uu rfl _ _ rfl w.heap.size 20 rfl (C2.alloc _) 3 I _ underlying28 rfl xu _ Q3.out ?_)))
 have kn:Below w2.heap.size w2 (w2.alloc (.cells LL.toArray 152)):=gF;have D1:=F.new w2 152 LL;refine(BU.out _ kn).mono ?_;rintro _ w3 ⟨rfl,b3⟩;have k3:=um kn kn.size b3;have J3:=HLL.out w3 (D1.G b3 D1.lt) (hN2.uH (uK.G k3));have HB4:=um HB3 HB3.size k3;have hg:w.heap.size<=w2.heap.size:=HB3.size;clear RB HLL BU kn D1 b3 k3 hN2 HB3 C2 a19 Q3 hLL;generalize w2.heap.size=g at*;obtain⟨vn,L,_,hbk,hL,_,_,_,_,_,c23,c24,_⟩:=J3.vj;have a24:=hbk.M 24 c24;have f24:=hbk.frozen 24;clear c23 c24 hL;by_cases he:GQ y=0
 case neg=>have HR2:Hid (R=(⟨y,[],2,false,[],vU.zero⟩,[])):=Y (by rw[<-hR.out];unfold zw;rw[if_neg he]);have he1:(GQ y==0)=false:=iE;have he2:(GQ y !=0)=true:=iE;have J4:zf (w3.setCell ⟨g,24,none⟩ (.int .i64 2)) g ⟨y,[],2,false,[],vU.zero⟩ []:=J3.set 1 I (.int .i64 2) J J J;have H5:Below w.heap.size w (w3.setCell ⟨g,24,none⟩ (.int .i64 2)):=uq HB4 (uS (World.grownBy.refl _ _) 24 (.int .i64 2)) HB4.size hg;have HJ:=Y J4;clear he hR J4 J3 AP hbk;unfold GQ at*;generalize(vN (vW y.q y.id false) false).1=o1 at*;generalize(vN (vW y.q y.id false) false).2=o2 at*;go_wp2_with fail;go_ret2;rw[HR2.out];exact⟨g,_,J,⟨[],HJ.out,fun h=>dZ,fun h=>dZ⟩,vJ.nil _ _,H5,hg⟩
 have HR2:Hid (R=(⟨y,uA 2 (DA y).length++DA y,0,false,[],vU.zero⟩,[⟨2,y.sv,y.port,[]⟩])):=Y eg;have hl:=AP.out he;clear AP hR hbk;unfold GQ at he;unfold DA at HR2 hl;generalize(vN (vW y.q y.id false) false).1=o1 at*;rw[he];clear he;go_wp2_with fail;refine(Qk o1 _ hl).mono ?_;rintro _ w4 ⟨rfl,b4⟩;have J4:=J3.G b4;have HB5:=um HB4 HB4.size b4;have J5:zf (w4.setCell ⟨g,23,none⟩ (.string (bs (uA 2 o1.length++o1)))) g ⟨y,uA 2 o1.length++o1,0,false,[],vU.zero⟩ []:=J4.set 0 I (.string (bs (uA 2 o1.length++o1))) J J J;have H5:Below w.heap.size w (w4.setCell ⟨g,23,none⟩ (.string (bs (uA 2 o1.length++o1)))):=uq HB5 (uS (World.grownBy.refl _ _) 23 _) HB5.size hg;obtain⟨_,L4,_,hb4,_,_,_,_,_,_,c23,_⟩:=J4.vj;have e23:=hb4.M 23 c23;have aHB:=hb4.frozen 23;have aye:=hb4.lt;have OC:=Y (J5.out 2 []);have HJ:=Y J5;clear J3 J4 J5 HB4 b4 hb4 c23 a24 f24;generalize uA 2 o1.length++o1=o2 at*;go_wp2_with fail;refine OC.out.mono ?_;rintro _ w5 ⟨v,rfl,hO,b5⟩;have H6:=um H5 H5.size b5;go_wp2_with fail;go_ret2;rw[HR2.out];exact⟨g,_,J,⟨[],HJ.out.G b5,fun _=>Kb.2.symm,fun _=>by show wN y (wl [])=none;rw[Kb.1];rfl⟩,hO.mono (by have:g+1<=w4.heap.size:=aye;simpa[World.setCell]using this),H6,hg⟩
theorem Vl:∀(n:Nat) (s:List UInt8),s.length<=n->∀t∈wl s,t.length<=s.length:=by
 intro n;induction n with
 |zero=>intro s hs t ht;have:s=[]:=ig;subst this;rw[(wK [] dW).1]at ht;cases ht
 |succ n ih=>
  intro s hs t ht;cases hw:wT s with
  |false=>rw[(wK s hw).1]at ht;cases ht
  |true=>
   have hr:=Ea s hw;rw[(yx s hw).1]at ht;rcases List.mem_cons.1 ht with rfl|ht
   ·unfold IH;simp;omega
   ·have:=ih (AJ s) I t ht;omega
def Jt(d:Dl)(s:List UInt8):Dl×List Ou:=match wN d.y (wl (d.uR++s))with
 |some m=>({d with uR:=d.uR++s,yr:=m,st:=1},[⟨4,d.y.sv,d.y.port,[]⟩])
 |none=>({d with uR:=d.uR++s},[])
theorem aeg:(prog.info? 37).map (·.size)=some 23:=by kernel_rfl
theorem Yh(g:Nat)(d:Dl)(s:List UInt8)(w:World)(h:zg w g d)(hst:d.st=0)(Z:d.uR.length+s.length<=8796093022208):
  Calls prog 77 #[.pointer (some ⟨g,0,none⟩),.string (bs s)] w (KH g (Jt d s) w):=by
 obtain⟨p,hJ,hp,hok⟩:=h;have hp:=hp hst;have hpl:p.length<=d.uR.length:=by rw[hp];exact aaB d.uR.length d.uR (Nat.le_refl _)
 obtain⟨HF,HR⟩:=Th d hok hst s;rw[<-hp]at HF HR;obtain⟨R,hR⟩:=ao (Jt d s);rw[hR.out];have FD:Hid (Calls prog 118 #[.pointer (some ⟨g,26,none⟩),.string (bs s)] w (fun e w'=>∃v,e= .returned v/\wO w' v (wl (p++s))/\zf w' g d (yA (p++s))/\w.grownBy w' (some g))):=Y (by
  obtain⟨vn,ds,hJA,h2,hN,hM⟩:=hJ;refine(aaE g _ ds p s w hJA I).mono ?_;rintro e w' ⟨v,he,hT,hJ1,g1⟩;obtain⟨_,_,_,_,_,hbk,_⟩:=hJA;exact⟨v,he,hT,⟨vn,ds,hJ1,h2,hN.Tj g1 hbk,hM.Tj g1 hbk⟩,g1⟩)
 have HLm:Hid (∀t∈wl (p++s),t.length<=maxLen):=Y (fun t ht=>Nat.le_trans (Vl _ _ (Nat.le_refl _) t ht) (by simp[maxLen];omega));have hnl:(wl (p++s)).length<=8796093022208:=by have:=OX (p++s).length (p++s) (Nat.le_refl _);simp at this;omega
 have HB:Hid (Jt d s=match wN d.y (wl (p++s))with
  |some m=>({d with uR:=d.uR++s,yr:=m,st:=1},[⟨4,d.y.sv,d.y.port,[]⟩])
  |none=>({d with uR:=d.uR++s},[])):=Y (by unfold Jt;rw[HF])
 have HF':=Y HF;have HR':=Y HR;clear hJ hp hok hpl HF HR Z hst;generalize wl (p++s)=l at*;generalize yA (p++s)=q at*;go_enter func77,ntmps77;go_wp2_with fail;refine FD.out.mono ?_;rintro _ w1 ⟨v,rfl,hT,hJ1,g1⟩;obtain⟨A,c,hv,-,-⟩:=hT.form;subst hv;clear FD;go_wp2_with fail;go_loopw[15] (fun iv wr=>∃k:Nat,k<=l.length/\iv= .int .i64 k/\wN d.y (l.take k)=none/\zf wr g d q/\wO wr (.slice A l.length c) l/\w.grownBy wr (some g)) (fun iv _=>l.length-(intOf iv).toNat)
 case atStart=>exact⟨0,Nat.zero_le _,J,J,hJ1,hT,g1⟩
 clear hJ1 hT g1;obtain⟨k,z,rfl,hno,hJ,hT,hg⟩:=hrel;have HN:=Y hno;clear hno;by_cases aB:k<l.length
 case pos=>
  have h1:(k:Int)<l.length:=I;obtain⟨A',c',hA,hTx,hc⟩:=hT.form;injection hA with hA1 hA2 hA3;subst hA1 hA3;obtain⟨ba,oa,hA,la,xa⟩:=hTx I;subst hA;have cs1:=xa k aB;obtain⟨vn,L,ds,hbk,hL,h2,hNm,hq,ha,c18,c23,c24,c25,hpo,hM,aj2⟩:=hJ.vj;obtain⟨An,cn,hvn,hNR⟩:=hNm.form;subst hvn;have FR:=Y (OU (xY (.slice An d.y.q.name.length cn) d.y) d.y An cn l[k] wr ⟨J,h2,hNR⟩ (HLm.out _ (List.getElem_mem aB)));have HQ:=Y hq;have HJ:=Y hJ;have HT:=Y hT;have HY:Hid ((xh d.y (xN l[k])).2=true->wN d.y l=some (xh d.y (xN l[k])).1):=m5;have HNO:Hid ((xh d.y (xN l[k])).2=false->wN d.y (l.take (k+1))=none):=nC;clear hJ hT hNm hNR hq ha c18 c23 c24 c25 hpo hM aj2 xa hTx h2 hc HN;generalize xh d.y (xN l[k])=agH at*;generalize l[k]=t at*;generalize xY (.slice An d.y.q.name.length cn) d.y=qs at*;go_wp2_with(refine ur (.load 37 (.tmp 22)) J ?_;go_must(refine uu J _ _ J g 0 J hbk 23 I _ underlying37 J aeg qs HQ.out ?_));refine FR.out.mono ?_;rintro _ w2 ⟨ds2,rfl,hM2,b2⟩;have hdl:=hM2.len;have hd1:=Y hM2.one;have J2:=HJ.out.G b2;have T2:=HT.out.G b2;have g2:=vR hg b2;clear FR hbk HJ HT hg b2 cs1 HQ;go_wp2_with(refine ur (.store 50 (.tmp 7) (.tmp 26)) J (ab J w2.heap.size 0 ds2 (F.wE _ _ uX _ J) dJ dK hd1.out ?_));intro w3 B3 g3 _;replace B3:F w3 w2.heap.size 50 ds2:=Hs B3 dL;have k3:al w2 w3:=j8;have J3:=J2.G k3;have T3:=T2.G k3;have G3:=vR g2 k3;have M3:=hM2.G k3;clear g3 k3 J2 T2 g2 hM2;cases hf:agH.2 with
  |false=>
   have hn:=HNO.out hf;have HN:=Y hn;clear hn HNO HY hf M3 B3;go_wp2_with fail;go_roundw
   case rel=>exact⟨k+1,I,gp,HN.out,J3,T3,G3⟩
   case measure=>simp[intOf];omega
  |true=>
   have hy:=HY.out hf;have hR2:R=({d with uR:=d.uR++s,yr:=agH.1,st:=1},[⟨4,d.y.sv,d.y.port,[]⟩]):=by rw[<-hR.out,HB.out,hy]
   have HR2:=Y hR2;clear hy hR2 HNO HY hf T3 HB hR;obtain⟨vn,L3,ds3,hb3,hL3,h2,hNm,hq,ha,c18,c23,c24,c25,hpo,hM,aj2⟩:=J3.vj;have HP:=Y aj2;clear aj2 hNm hq ha c18 c23 c24 c25 hpo hM;go_wp2_with(first
    |(refine ur (.load 50 (.tmp 7)) rfl ?_;go_must(refine uu rfl _ _ rfl w2.heap.size 0 rfl B3 14 I _ underlying50 rfl uW ds2 (wP I) ?_))
    |(refine ur (.store 50 (.tmp 32) (.tmp 30)) rfl (ab rfl g 30 ds2 hb3 (by rw[hdl,hL3];omega) dK hd1.out ?_)))
   intro w4 B4 g4 _;have J4:=HP.out w4 ds2 agH.1 g4 (by rw[hdl,List.append_assoc];exact B4) M3;have G4:=uC G3 g4 (.inl J);obtain⟨vn4,L4,_,hb4,hL4,_,_,_,_,_,_,c24,_⟩:=J4.vj;have d24:=hb4.M 24 c24;have f24:=hb4.frozen 24;have J5:zf (w4.setCell ⟨g,24,none⟩ (.int .i64 1)) g {d with yr:=agH.1,st:=1} q:=J4.set 1 I (.int .i64 1) J J J;have G5:w.grownBy (w4.setCell ⟨g,24,none⟩ (.int .i64 1)) (some g):=uC G4 (uS (World.grownBy.refl _ _) _ _) (.inl J);have OC:=Y (J5.out 4 []);have HJ5:=Y J5;clear HP B4 g4 M3 B3 hb3 G3 J3 hb4 J4 G4 c24 J5;go_wp2_with fail;refine OC.out.mono ?_;rintro _ w5 ⟨v,rfl,hO,b5⟩;go_wp2_with fail;go_ret;rw[HR2.out];obtain⟨vn6,ds6,k1,k2,k3,k4⟩:=HJ5.out.G b5;exact⟨_,J,hO.mono G5.size,⟨q,⟨vn6,ds6,k1,k2,k3,k4⟩,fun h=>dZ,fun h=>dZ⟩,vR G5 b5⟩
 obtain rfl:k=l.length:=I;have h1:¬(l.length:Int)<l.length:=I;have hn:=HN.out;rw[List.take_of_length_le (Nat.le_refl _)]at hn;have hR2:R=({d with uR:=d.uR++s},[]):=by rw[<-hR.out,HB.out,hn]
 have HR2:=Y hR2;have HOK:=Y hn;clear hR2 hn hT;go_wp2_with fail;go_ret;rw[HR2.out];obtain⟨vn6,ds6,k1,k2,k3,k4⟩:=hJ;exact⟨_,J,vJ.nil _ _,⟨q,⟨vn6,ds6,k1,k2,k3,k4⟩,fun _=>HR'.out.symm,fun _=>by rw[show wN d.y (wl (d.uR++s))=wN d.y l from HF'.out];exact HOK.out⟩,hg⟩
theorem aaQ(g:Nat)(d:Dl)(e:Ev)(w:World)(h:zg w g d)(h2:e.fr.ip.length=16)(Z:d.uR.length+e.data.length<=8796093022208):
  Calls prog 18 #[.pointer (some ⟨g,0,none⟩),.agg (yj e).toArray] w (KH g (vM d e) w):=by
 have E0:(yj e)[0]?=some (.int .i64 e.kind):=rfl;have E20:(yj e)[20]?=some (.int .i64 e.port):=CZ h2 1;have E21:(yj e)[21]?=some (.string (bs e.data)):=CZ h2 2;have HX:Below w.heap.size w (w.alloc (.cells (yj e).toArray 42)):=gF;have aeH:=F.new w 42 (yj e);obtain⟨p,hJ,hp,hok⟩:=h;have HK:=Y (And.intro hp hok);obtain⟨vn,L,ds,hbk,hL,_,_,_,_,c18,_,c24,_⟩:=(hJ.G HX).vj;replace c18:=hbk.M 18 c18;replace c24:=hbk.M 24 c24;have d20:=aeH.M 20 E20;obtain⟨R,hR⟩:=ao (vM d e);rw[hR.out];have BY:=Y (fun W (hD:zg W g d) hs=>Yh g d e.data W hD hs Z);clear hp hok hbk hL h2 Z E20;generalize hes:yj e=es at*;clear hes;by_cases hs:d.st=0
 case neg=>have HR2:Hid (R=(d,[])):=Y eh;have hs':(d.st !=0)=true:=kC;clear hs BY hR;exact qU
 rw[hs]at c24;by_cases hpo:e.port=d.y.port
 case neg=>
  have HR2:Hid (R=(d,[])):=Y ei;have axJ:(e.port !=d.y.port)=true:=by simpa using hpo
  clear hpo BY hR;exact qU
 have H0:Hid (¬(d.st≠0\/e.port≠d.y.port)):=Y (by rw[hs,hpo];simp);have HS:=Y hs;rw[hpo]at d20;clear hs hpo;by_cases hk3:e.kind=3
 case pos=>
  rw[hk3]at E0;cases hop:d.op with
  |true=>have HR2:Hid (R=(d,[])):=Y ej;clear hk3 BY hR;exact pB
  |false=>have HR2:Hid (R=({d with op:=true},[⟨3,d.y.sv,d.y.port,d.oct⟩])):=Y gj;clear hk3 BY hR;go_enter func18,ntmps18;go_wp2_with fail;go_quiet(fail);obtain⟨W,hW⟩:∃W,W=(w.alloc (.cells es.toArray 42)).drewN nq:=gG;rw[<-hW];have HW:al w W:=ij;have EW:F W w.heap.size 42 es:=iH;have JW:=hJ.G HW;clear hW c18 c24 d20 aeH hJ HX;obtain⟨vn,L,ds,hbk,hL,_,_,_,_,_,c23,c24,c25,_⟩:=JW.vj;have a23:=hbk.M 23 c23;have a24:=hbk.M 24 c24;have a25:=hbk.M 25 c25;have f24:=hbk.frozen 24;have f25:=hbk.frozen 25;have d0:=EW.M 0 E0;have d21:=EW.M 21 E21;clear c23 c24 c25 EW hbk hL;rw[hop]at a25;have J6:zf (W.setCell ⟨g,25,none⟩ (.bool true)) g {d with op:=true} p:=JW.set 2 I (.bool true) J J J;have G6:w.grownBy (W.setCell ⟨g,25,none⟩ (.bool true)) (some g):=hH;have OC:=Y (J6.out 3 d.oct);have HJ:=Y J6;clear hop J6 JW;go_wp2_with fail;refine OC.out.mono ?_;rintro _ w5 ⟨v,rfl,hO,b5⟩;go_wp2_with fail;go_ret;rw[HR2.out];exact⟨_,J,hO.mono G6.size,⟨p,HJ.out.G b5,HK.out⟩,vR G6 b5⟩
 have aj5:(e.kind==3)=false:=by simpa using hk3
 by_cases hk4:e.kind=4
 case pos=>
  rw[hk4]at E0;cases hop:d.op with
  |true=>have HR2:Hid (R=Jt d e.data):=Y (by rw[<-hR.out];unfold vM Jt;rw[if_neg H0.out,if_neg hk3,if_pos hk4,if_pos hop];all_goals rfl);clear hk3 hk4 aj5 hR;go_enter func18,ntmps18;go_wp2_with fail;go_quiet(fail);obtain⟨W,hW⟩:∃W,W=(w.alloc (.cells es.toArray 42)).drewN nq:=gG;rw[<-hW];have HW:al w W:=ij;have EW:F W w.heap.size 42 es:=iH;have JW:=hJ.G HW;clear hW c18 c24 d20 aeH hJ HX;obtain⟨vn,L,ds,hbk,hL,_,_,_,_,_,c23,c24,c25,_⟩:=JW.vj;have a23:=hbk.M 23 c23;have a24:=hbk.M 24 c24;have a25:=hbk.M 25 c25;have f24:=hbk.frozen 24;have f25:=hbk.frozen 25;have d0:=EW.M 0 E0;have d21:=EW.M 21 E21;clear c23 c24 c25 EW hbk hL;rw[hop]at a25;have BC:=Y (BY.out W ⟨p,JW,HK.out⟩ HS.out);clear hop BY JW;generalize e.data=dt at*;go_wp2_with fail;refine BC.out.mono ?_;rintro _ w5 ⟨v,rfl,hO,hD,g5⟩;go_wp2_with fail;go_ret;rw[HR2.out];exact⟨_,J,hO.mono HW.size,hD,uC (uM HW _) g5 (.inl J)⟩
  |false=>have HR2:Hid (R=(d,[])):=Y gk;clear hk3 hk4 aj5 BY hR;exact pB
 have apz:(e.kind==4)=false:=by simpa using hk4
 by_cases hk5:e.kind=5
 case pos=>have HR2:Hid (R=({d with st:=2},[])):=Y eo;rw[hk5]at E0;clear hk3 hk4 hk5 aj5 apz BY hR;go_enter func18,ntmps18;go_wp2_with fail;go_quiet(fail);obtain⟨W,hW⟩:∃W,W=(w.alloc (.cells es.toArray 42)).drewN nq:=gG;rw[<-hW];have HW:al w W:=ij;have EW:F W w.heap.size 42 es:=iH;have JW:=hJ.G HW;clear hW c18 c24 d20 aeH hJ HX;obtain⟨vn,L,ds,hbk,hL,_,_,_,_,_,c23,c24,c25,_⟩:=JW.vj;have a23:=hbk.M 23 c23;have a24:=hbk.M 24 c24;have a25:=hbk.M 25 c25;have f24:=hbk.frozen 24;have f25:=hbk.frozen 25;have d0:=EW.M 0 E0;have d21:=EW.M 21 E21;clear c23 c24 c25 EW hbk hL;have J6:zf (W.setCell ⟨g,24,none⟩ (.int .i64 2)) g {d with st:=2} p:=JW.set 1 I (.int .i64 2) J J J;have G6:w.grownBy (W.setCell ⟨g,24,none⟩ (.int .i64 2)) (some g):=hH;have HJ:=Y J6;clear J6 JW;go_wp2_with fail;go_ret;rw[HR2.out];exact⟨_,J,vJ.nil _ _,⟨p,HJ.out,fun h=>dZ,fun h=>dZ⟩,G6⟩
 have HR2:Hid (R=(d,[])):=Y et;have ax3:(e.kind==5)=false:=by simpa using hk5
 clear hk3 hk4 hk5 BY hR;generalize e.kind=kd at*;go_enter func18,ntmps18;go_wp2_with fail;go_quiet(fail);obtain⟨W,hW⟩:∃W,W=(w.alloc (.cells es.toArray 42)).drewN nq:=gG;rw[<-hW];have HW:al w W:=ij;have EW:F W w.heap.size 42 es:=iH;have JW:=hJ.G HW;clear hW c18 c24 d20 aeH hJ HX;obtain⟨vn,L,ds,hbk,hL,_,_,_,_,_,c23,c24,c25,_⟩:=JW.vj;have a23:=hbk.M 23 c23;have a24:=hbk.M 24 c24;have a25:=hbk.M 25 c25;have f24:=hbk.frozen 24;have f25:=hbk.frozen 25;have d0:=EW.M 0 E0;have d21:=EW.M 21 E21;clear c23 c24 c25 EW hbk hL;go_wp2_with fail;go_ret;rw[HR2.out];exact⟨_,J,vJ.nil _ _,⟨p,JW,HK.out⟩,uM HW _⟩
end Go.Proofs.YthnbcmlnpdabhaaGreat
