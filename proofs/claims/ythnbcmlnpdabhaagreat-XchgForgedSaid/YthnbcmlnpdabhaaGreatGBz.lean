/-
  Layer 5 (domain) and its reference,as far as the wire wants them:sizes and checks of names;Few,Exact.
-/
import Derived.Test.YthnbcmlnpdabhaaGreatGAz
import Derived.Lib.AppendStr
import Derived.Deep.MidRow
namespace Go.Proofs.YthnbcmlnpdabhaaGreat
open _root_.Go.Proofs.Tryz
open Go.RowKit
set_option maxRecDepth 100000
set_option linter.unusedVariables false
variable {n B g aeH:Nat} {w w' W:World} {e t E:TypeId} {s:List UInt8} {P:Program} {ops:Array Oper} {rest:List Oper} {a:Act} {L:List Value} {op:Oper}
theorem Ku(n:List (List UInt8))(h:∀l∈n,l.length<=63):uQ n<=64*n.length:=by
 induction n with
 |nil=>simp[uQ]
 |cons l n ih=>have U:=h l (List.mem_cons_self ..);have X:=ih (fun x hx=>h x (List.mem_cons_of_mem _ hx));simp[uQ];omega
theorem MZ(A:Option Addr)(c:Nat)(n:List (List UInt8))(w:World)(hA:zS w A n)(hm:n.length<=281474976710656)(hs:uQ n<=4611686018427387904):
  Calls prog 221 #[.slice A n.length c] w (yi (.int .i64 (1+uQ n)) w):=by
 go_enter func221,ntmps221;go_wp2_with fail;go_loop[3,8] (fun acZ i=>∃k:Nat,k<=n.length/\i= .int .i64 k/\acZ= .int .i64 (1+uQ (n.take k))) (fun _ i=>n.length-(intOf i).toNat)
 case atStart=>exact⟨0,Nat.zero_le _,J,J⟩
 case round=>exact pf
theorem Jg(A:Option Addr)(c:Nat)(n:List (List UInt8))(w:World)(hA:zS w A n)(hm:n.length<=281474976710656)(hs:uQ n<=4611686018427387904):
  Calls prog 200 #[.slice A n.length c] w (yi (.int .i64 (1+uQ n)) w):=by
 go_enter func200,ntmps200;go_wp2_with fail;go_loop[3,4] (fun acZ i=>∃k:Nat,k<=n.length/\i= .int .i64 k/\acZ= .int .i64 (1+uQ (n.take k))) (fun _ i=>n.length-(intOf i).toNat)
 case atStart=>exact⟨0,Nat.zero_le _,J,J⟩
 case round=>exact pf
theorem Kv(n:List (List UInt8))(k:Nat)(h:k<n.length)(F:DA n[k]=true):tY n=7:=by
 unfold tY;rw[if_pos (List.any_eq_true.2 ⟨n[k],List.getElem_mem h,F⟩)]
theorem Jh(n:List (List UInt8))(h:∀j (hj:j<n.length),DA n[j]=false):tY n=if 255<1+uQ n then 3 else 0:=by
 unfold tY;rw[if_neg];intro h';obtain⟨l,hl,F⟩:=List.any_eq_true.1 h';obtain⟨j,hj,rfl⟩:=List.getElem_of_mem hl;rw[h j hj]at F;cases F
theorem Nd{n:List (List UInt8)}(h:∀j (hj:j<n.length),DA n[j]=false):∀l∈n,l.length<=63:=by
 intro l hl;obtain⟨j,hj,rfl⟩:=List.getElem_of_mem hl;have:=h j hj;simp[DA]at this;omega
theorem zc(A:Option Addr)(c:Nat)(n:List (List UInt8))(w:World)(hA:zS w A n)(hm:n.length<=281474976710656):
  Calls prog 184 #[.slice A n.length c] w (yi (.int .i64 (tY n)) w):=by
 go_enter func184,ntmps184;go_wp2_with fail;go_loop[7] (fun i=>∃k:Nat,k<=n.length/\i= .int .i64 k/\Hid (∀j (hj:j<n.length),j<k->DA n[j]=false)) (fun i=>n.length-(intOf i).toNat)
 case atStart=>exact⟨0,Nat.zero_le _,J,Y (fun j hj h=>by omega)⟩
 case round=>
  obtain⟨k,O,rfl,H⟩:=hrel;by_cases Hh:k<n.length
  ·
   have tQ:(k:Int)<n.length:=I;obtain⟨b,off,rfl,_,xa⟩:=hA I;have c1:=xa k Hh;clear xa;cases hbd:DA n[k]with
   |true=>
    have R:=Y (Kv n k Hh hbd);by_cases h0:n[k]=[]
    ·have e1:(n[k]==[])=true:=bd;have e2:n[k].isEmpty=true:=bd;clear h0 hbd;exact qQ
    ·
     have agE:0<n[k].length:=List.length_pos_iff.2 h0;have aoW:(63:Int)<n[k].length:=by
      simp[DA]at hbd;rcases hbd with h|h
      ·exact absurd h h0
      ·omega
     have e1:(n[k]==[])=false:=bd;have e2:n[k].isEmpty=false:=bd;clear h0 hbd;exact qQ
   |false=>
    have hl1:1<=n[k].length/\n[k].length<=63:=by exact sd
    have axq:(n[k].length:Int)<=63:=I;have h0:n[k]≠[]:=List.length_pos_iff.1 I;have e1:(n[k]==[])=false:=bd;have e2:n[k].isEmpty=false:=bd;have HB:=Y hbd;clear h0 hbd;exact pv
  ·
   have tQ:¬(k:Int)<n.length:=I;have ajn:∀j (hj:j<n.length),DA n[j]=false:=fun j hj=>H.out j hj I
   have R:=Jh n ajn;have hbd:=Ku n (Nd ajn);clear ajn H;by_cases h3:255<1+uQ n
   ·have h3':(255:Int)<1+(uQ n:Int):=I;rw[if_pos h3]at R;have RR:=Y R;clear R;go_wp2_with fail;refine(MZ A c n _ hA hm I).mono ?_;exact qb
   ·have h3':1+(uQ n:Int)<=255:=I;rw[if_neg h3]at R;have RR:=Y R;clear R;go_wp2_with fail;refine(MZ A c n _ hA hm I).mono ?_;exact qb
theorem uS(A:Option Addr)(c:Nat)(n:List (List UInt8))(w:World)(hA:zS w A n)(hm:n.length<=281474976710656):
  Calls prog 159 #[.slice A n.length c] w (yi (.int .i64 (tY n)) w):=by
 go_enter func159,ntmps159;go_wp2_with fail;go_loop[3] (fun i=>∃k:Nat,k<=n.length/\i= .int .i64 k/\Hid (∀j (hj:j<n.length),j<k->DA n[j]=false)) (fun i=>n.length-(intOf i).toNat)
 case atStart=>exact⟨0,Nat.zero_le _,J,Y (fun j hj h=>by omega)⟩
 case round=>
  obtain⟨k,O,rfl,H⟩:=hrel;by_cases Hh:k<n.length
  ·
   have tQ:(k:Int)<n.length:=I;obtain⟨b,off,rfl,_,xa⟩:=hA I;have c1:=xa k Hh;clear xa;cases hbd:DA n[k]with
   |true=>
    have R:=Y (Kv n k Hh hbd);by_cases h0:n[k].length<1
    ·have e1:(n[k].length:Int)<1:=I;clear hbd;exact qQ
    ·
     have aoW:(63:Int)<n[k].length:=by
      simp[DA]at hbd;rcases hbd with h|h
      ·rw[h]at h0;simp at h0
      ·omega
     have e1:(1:Int)<=n[k].length:=I;clear h0 hbd;exact qQ
   |false=>
    have hl1:1<=n[k].length/\n[k].length<=63:=by exact sd
    have axq:(n[k].length:Int)<=63:=I;have e1:(1:Int)<=n[k].length:=I;have HB:=Y hbd;clear hbd;exact pv
  ·
   have tQ:¬(k:Int)<n.length:=I;have ajn:∀j (hj:j<n.length),DA n[j]=false:=fun j hj=>H.out j hj I
   have R:=Jh n ajn;have hbd:=Ku n (Nd ajn);clear ajn H;by_cases h3:255<1+uQ n
   ·have h3':(255:Int)<1+(uQ n:Int):=I;rw[if_pos h3]at R;have RR:=Y R;clear R;go_wp2_with fail;refine(Jg A c n _ hA hm I).mono ?_;exact qb
   ·have h3':1+(uQ n:Int)<=255:=I;rw[if_neg h3]at R;have RR:=Y R;clear R;go_wp2_with fail;refine(Jg A c n _ hA hm I).mono ?_;exact qb
theorem aaM(A:Option Addr)(c:Nat)(n:List (List UInt8))(w:World)(hA:zS w A n)(hm:n.length<=281474976710656)(hl:∀l∈n,l.length<=281474976710656):
  Calls prog 14 #[.slice A n.length c] w (yi (.bool (decide (uQ n<=400))) w):=by
 have HL:=Y hl;clear hl;go_enter func14,ntmps14;go_wp2_with fail;go_loop[3,4] (fun acZ i=>∃k:Nat,k<=n.length/\i= .int .i64 k/\acZ= .int .i64 (uQ (n.take k))/\uQ (n.take k)<=400) (fun _ i=>n.length-(intOf i).toNat)
 case atStart=>exact⟨0,Nat.zero_le _,J,J,by simp[uQ]⟩
 case round=>
  obtain⟨k,O,rfl,rfl,F⟩:=hrel;by_cases Hh:k<n.length
  ·
   have tQ:(k:Int)<n.length:=I;obtain⟨b,off,rfl,_,xa⟩:=hA I;have c1:=xa k Hh;have S:=Y (C8 n k Hh);have hle:=HL.out n[k] (List.getElem_mem Hh);clear xa;by_cases aoW:uQ (n.take k)+(n[k].length+1)<=400
   ·
    have hb':(uQ (n.take k):Int)+n[k].length+1<=400:=I;go_wp2_with fail;go_round
    case rel=>exact⟨k+1,I,fU,by rw[S.out];go_num,by rw[S.out];exact aoW⟩
    case measure=>simp[intOf];omega
   ·
    have hb':400<(uQ (n.take k):Int)+n[k].length+1:=I;have hno:decide (uQ n<=400)=false:=by have:=wD n (k+1);rw[S.out]at this;exact decide_eq_false I
    have R:=Y hno;clear hno;go_wp2_with fail;go_ret;exact yi.mk (zD R.out.symm) J
  ·
   have tQ:¬(k:Int)<n.length:=I;have R:decide (uQ n<=400)=true:=by rw[List.take_of_length_le I]at F;exact decide_eq_true F
   have RR:=Y R;clear R;go_wp2_with fail;go_ret;exact yi.mk (zD RR.out.symm) J
theorem zY(A B:Option Addr)(a b:List (List UInt8))(ca cb:Nat)(w:World)(hA:zS w A a)(hB:zS w B b)(hm:a.length<=281474976710656)(hm2:b.length<=281474976710656):
  Calls prog 101 #[.slice A a.length ca,.slice B b.length cb] w (uf (.bool (decide (a=b))) w):=by
 go_enter func101,ntmps101;go_wp2_with fail;refine(Yf A B a b ca cb _ hA hB hm hm2).mono ?_;rintro e w1 ⟨rfl,b1⟩;go_wp2_with fail;go_ret;exact uf.mk J b1
theorem yI{size:Nat}{v:Value}{xs:List Value}(h:w.ownsRow B e size v n xs):∀k,v.ownBlock=some k->B<=k:=fun k O=>(h.lt k O).1
theorem Hb{B':Nat}{e':TypeId}{s s' n':Nat}{v v':Value}{xs xs':List Value}(h:w.ownsRow B e s v n xs)(h':w.ownsRow B' e' s' v' n' xs')(hne:e≠e')(hg:w.grownBy w' v'.ownBlock):w'.ownsRow B e s v n xs:=by
 refine h.kept hg ?_;rcases h.2 with⟨rfl,_⟩|⟨g,cap,cur,rfl,_,hh,_⟩
 ·exact .inl J
 ·
  right;intro F;rcases h'.2 with⟨rfl,_⟩|⟨g',aGP,aGG,rfl,_,hh',_⟩
  ·simp[Value.ownBlock]at F
  ·
   have:g=g':=by simpa[Value.ownBlock]using F
   subst this;rw[hh]at hh';injection hh' with hh';injection hh' with _ ht;exact hne ht
theorem vQ{s:Nat}{v:Value}{xs:List Value}(h:w.ownsRow B e s v n xs)(F:al w w'):w'.ownsRow B e s v n xs:=by
 refine World.ownsRow.kept h (uj F none) ?_;cases hv:v.ownBlock with
 |none=>exact .inl J
 |some g=>exact .inr ap
theorem vD{s:Nat}{v:Value}{xs cs:List Value}(F:Z w g t cs)(h:w.ownsRow B e s v n xs)(hne:t≠e)(hg:w.grownBy w' v.ownBlock):Z w' g t cs:=by
 refine F.grown hg ?_;rcases h.2 with⟨rfl,_⟩|⟨g',cap,cur,rfl,_,hh,_⟩
 ·simp[Value.ownBlock]
 ·intro he;have:g=g':=jN;exact rW
theorem yg{s:Nat}{v:Value}{xs:List Value}(h:w.ownsRow B e s v n xs):∃A c,v= .slice A n c:=by
 rcases h.2 with⟨rfl,rfl⟩|⟨g',cap,cur,rfl,_⟩
 ·exact⟨none,0,J⟩
 ·exact⟨_,cap,J⟩
theorem xC{w0:World}{s:Nat}{v:Value}{xs:List Value}(F:Below B w0 w)(hB:B<=w.heap.size)(h:w.ownsRow B e s v n xs)(hg:w.grownBy w' v.ownBlock):Below B w0 w':=F.grown hg hB (yI h)
theorem AE(w:World){o:Oper}{Q:Exit->Act->World->Prop}(hgd:o.guard=none)(s x:Operand)(t:TypeId)
  (ho:o.op= .call {callee:=.builtin .append,args:= #[s,x],argTypes:= #[t,t]})
  (e:TypeId) (acZ:Value) (size bytes:Nat) (ht:P.underlying t=some (.slice e)) (hi:(P.info? e).map (fun i=>(i.zero,i.size,i.bytes))=some (some acZ,size,bytes)) (hzs:acZ.cells.size=size) (hsz:0<size)
  (B:Nat) (v:Value) (n:Nat) (xs:List Value) (hs:a.eval s=v) (adV:w.ownsRow B e size v n xs) (hB:B<=w.heap.size)
  (ad:Addr) (m c:Nat) (news:List Value) (hx:a.eval x= .slice (some ad) m c) (hl:news.length=m*size) (akX:∀j u,news[j]?=some u->w.cell? (ad.add j)=some u) (U:∀u∈news,u.oneCell'=true)
  (hm:0<m) (h63:n+m<=maxLen) (afT:(n+m)*bytes<=140737488355328)
  (h:∀g cap w',w'.ownsRow B e size (.slice (some ⟨g,0,none⟩) (n+m) cap) (n+m) (xs++news)->w.grownBy w' v.ownBlock->g<w'.heap.size->wpList P ops Q rest (a.put o.dst (.slice (some ⟨g,0,none⟩) (n+m) cap)) w'):
  wpList P ops Q (o::rest) a w:=by
 obtain⟨i,hi,hz,adT,hby⟩:=info_parts hi;refine wpList_append_own_at w hgd s x t ho B e i acZ size bytes ht hi hz adT hby hzs hsz v n xs hs adV ad m c news hx hl akX U h63 afT hB ?_;intro v' w' agL hg _ hat;obtain⟨g,cap,rfl⟩:∃g cap,v'= .slice (some ⟨g,0,none⟩) (n+m) cap:=by exact r8
 exact h g cap w' agL hg (agL.lt g J).2
theorem Ct(l:List UInt8):Lib.strCells (bs l)=vl l:=by
 simp[Lib.strCells,vl,bs]
theorem Qh(w:World){o:Oper}{Q:Exit->Act->World->Prop}(hgd:o.guard=none)(sl x:Operand)
  (ho:o.op= .call {callee:=.builtin .append,args:= #[sl,x],argTypes:= #[145,9]})
  (B:Nat) (v:Value) (q s:List UInt8) (hs:a.eval sl=v) (adV:w.ownsRow B 5 1 v q.length (vl q)) (hB:B<=w.heap.size) (hx:a.eval x= .string (bs s)) (hl:q.length+s.length<=140737488355328)
  (h:∀A c w',w'.ownsRow B 5 1 (.slice A (q++s).length c) (q++s).length (vl (q++s))->w.grownBy w' v.ownBlock->wpList prog ops Q rest (a.put o.dst (.slice A (q++s).length c)) w'):
  wpList prog ops Q (o::rest) a w:=by
 obtain⟨i,hi,hz,adT,hby⟩:=info_parts Da;refine Lib.wpList_append_own_string w hgd sl x _ _ ho B 5 i underlying145 underlying9 hi hz adT hby v q.length (vl q) hs adV (bs s) hx (by rw[xf];simp only[maxLen];omega) (by rw[xf];exact hl) hB ?_;intro v' w' agL hg _;rw[xf,Ct,<-AB,<-List.length_append]at agL;obtain⟨A,c,rfl⟩:=yg agL;exact h A c w' agL hg
theorem Z.range(h:Z w g t L)(o n:Nat)(hn:o+n<=L.length):w.rangeAt g o ((L.drop o).take n):=by
 intro j v hv;rw[h.cell (o+j)];obtain⟨hj,he⟩:=List.getElem?_eq_some_iff.1 hv;have hj':j<n:=by simp at hj;omega
 rw[List.getElem?_take_of_lt hj']at hv;rw[List.getElem?_drop]at hv;exact hv
theorem Z.there(h:Z w g t L)(o n:Nat)(hn:o+n<=L.length):w.there g o n:=by
 intro j hj;refine⟨?_,h.frozen _⟩;rw[h.cell (o+j),List.getElem?_eq_getElem I];rfl
theorem Z.setCells{w:World}{g:Nat}{t:TypeId}:∀(vs:List Value) (L:List Value) (o:Nat) {w:World},Z w g t L->o+vs.length<=L.length->Z (w.setCells g o vs) g t (L.take o++vs++L.drop (o+vs.length))
 |[],L,o,w,h,_=>by simpa[World.setCells]using h
 |v::vs,L,o,w,h,hl=>by
  rw[World.setCells];have U:=Z.setCells (w:=w) (g:=g) (t:=t) vs (L.set o v) (o+1) (h.set o v) aC;have hol:o<L.length:=by simp at hl;omega
  have e:(L.set o v).take (o+1)++vs++(L.set o v).drop (o+1+vs.length)=L.take o++v::vs++L.drop (o+(v::vs).length):=by
   rw[List.take_succ_eq_append_getElem (by simpa using hol)];have a1:(L.set o v).take o=L.take o:=by rw[List.take_set];exact List.set_eq_of_length_le az
   have a2:(L.set o v).drop (o+1+vs.length)=L.drop (o+1+vs.length):=List.drop_set_of_lt I;rw[a1,a2];simp[Nat.add_assoc,Nat.add_comm 1]
  rw[e]at U;exact U
theorem CI:∀(vs:List Value) (w:World) (g o:Nat),(w.setCells g o vs).heap.size=w.heap.size
 |[],_,_,_=>rfl
 |v::vs,w,g,o=>by rw[World.setCells,CI vs];simp[World.setCell]
theorem BT:∀(vs:List Value) {a w:World} {g o:Nat},a.grownBy w (some g)->a.grownBy (w.setCells g o vs) (some g)
 |[],a,w,g,o,h=>h
 |v::vs,a,w,g,o,h=>by rw[World.setCells];exact BT vs (uq h o v)
theorem tO{o:Oper}{Q:Exit->Act->World->Prop}(p:Op)(_:o.op=p)(h:wpList P ops Q (o::rest) a w):wpList P ops Q (o::rest) a w:=h
theorem tP{Q:Exit->Act->World->Prop}(hgd:op.guard=none)(E:TypeId)(x:Operand)(ho:op.op= .load E x)
  (g o:Nat) (hx:a.eval x= .pointer (some ⟨g,o,none⟩)) {t:TypeId} {L:List Value} (F:Z w g t L) (n:Nat) (hn:o+n<=L.length) (d:TypeDesc)
  (hu:P.underlying E=some d) (hd:d.isRow=true) (hi:(P.info? E).map (·.size)=some n) (sub:List Value) (afE:(L.drop o).take n=sub)
  (h:wpList P ops Q rest (a.put op.dst (.agg sub.toArray)) w):wpList P ops Q (op::rest) a w:=by
 have hl:sub.length=n:=kG;refine wpList_load_mid hgd E x ho g o hx sub d (afE▸F.range o n hn) hu hd aD h
theorem DD{Q:Exit->Act->World->Prop}(hgd:op.guard=none)(E:TypeId)(x y:Operand)(ho:op.op= .store E x y)
  (g o:Nat) (hx:a.eval x= .pointer (some ⟨g,o,none⟩)) (sub:List Value) (hy:a.eval y= .agg sub.toArray) {t:TypeId} {L:List Value} (F:Z w g t L) (hn:o+sub.length<=L.length)
  (hi:(P.info? E).map (·.size)=some sub.length) (U:∀v∈sub,v.oneCell'=true)
  (h:∀w',Z w' g t (L.take o++sub++L.drop (o+sub.length))->w.grownBy w' (some g)->w'.heap.size=w.heap.size->wpList P ops Q rest (a.put op.dst undef) w'):wpList P ops Q (op::rest) a w:=by
 refine wpList_store_mid hgd E x y ho g o sub.toArray hx hy aE aF (all_oneCell_toArray U) ?_;exact h _ (Z.setCells (w:=w) sub L o F hn) (BT sub (World.grownBy.refl _ _)) (CI sub w g o)
theorem ab{Q:Exit->Act->World->Prop}{x y:Operand}(ho:op.op= .store E x y)(g o:Nat)(sub:List Value)(F:Z w g t L)(hn:o+sub.length<=L.length)(hi:(P.info? E).map (·.size)=some sub.length)(U:∀v∈sub,v.oneCell'=true)(h:∀w',Z w' g t (L.take o++sub++L.drop (o+sub.length))->w.grownBy w' (some g)->w'.heap.size=w.heap.size->wpList P ops Q rest (a.put op.dst undef) w')(hgd:op.guard=none:=by exact J)(hx:a.eval x= .pointer (some ⟨g,o,none⟩):=by exact J)(hy:a.eval y= .agg sub.toArray:=by exact J):wpList P ops Q (op::rest) a w:=DD hgd E x y ho g o hx sub hy F hn hi U h
theorem Z.wk(F:Z w g t L)(E:TypeId)(o n:Nat)(hn:o+n<=L.length)(d:TypeDesc)(hu:P.underlying E=some d)(hd:d.isRow=true)(hi:(P.info? E).map (·.size)=some n)(sub:List Value)(afE:(L.drop o).take n=sub):
  (Instr.loadAt E (.pointer (some ⟨g,o,none⟩))).run P w= .ok (.agg sub.toArray) w:=by
 have hl:sub.length=n:=kG;exact run_loadAt_mid w g o E sub d (afE▸F.range o n hn) hu hd aD
theorem wQ{fn:Func}{R:Ending->World->Prop}{p:Tmp}(hr:fn.results= #[.cell p E])(g:Nat)(hp:a.tmps.getD p undef= .pointer (some ⟨g,0,none⟩))(F:Z w g t L)
  (d:TypeDesc) (hu:P.underlying E=some d) (hd:d.isRow=true) (hi:(P.info? E).map (·.size)=some L.length) (hdf:a.defers=[]) (h:R (.returned (.agg L.toArray)) w):bodyPost P fn R .ret a w:=by
 refine bodyPost_ret (v:=.agg L.toArray) (results_cell_row hr a.tmps w g t L.toArray (0,0) d hp F hu ?_ aF) hdf h;cases d<;>first|rfl|cases hd
theorem uH{fn:Func}{R:Ending->World->Prop}{p u:Tmp}(hr:fn.results= #[.cell p E,.tmp u])(g:Nat)(hp:a.tmps.getD p undef= .pointer (some ⟨g,0,none⟩))(F:Z w g t L)
  (d:TypeDesc) (hu:P.underlying E=some d) (hd:d.isRow=true) (hi:(P.info? E).map (·.size)=some L.length) (hdf:a.defers=[]) (v:Value) (hv:a.tmps.getD u undef=v) (h:R (.returned (.tuple #[.agg L.toArray,v])) w):bodyPost P fn R .ret a w:=by
 refine bodyPost_ret (v:=.tuple #[.agg L.toArray,v]) ?_ hdf h;rw[results_cell_tmp hr,hp];have hl:=run_loadVar_row (P:=P) w g t E L.toArray (0,0) d F hu (by cases d<;>first|rfl|cases hd) aF;simp[asAddr,hl,hv]
theorem En:∀(xs ys:List Int),xs.length=ys.length->((List.range xs.length).all fun i=>xs.getD i 0==ys.getD i 0)=(xs==ys)
 |[],[],_=>rfl
 |x::xs,y::ys,h=>by
  have ih:=En xs ys aq;rw[List.length_cons,List.range_succ_eq_map,List.all_cons,List.all_map];simp only[List.getD_cons_zero,Function.comp_def,List.getD_cons_succ,ih];simp[List.cons_beq_cons]
 |[],_::_,h=>by simp at h
 |_::_,[],h=>by simp at h
theorem yP(w:World)(d:Nat)(t e:TypeId)(n:Nat)(k:IntKind)(ht:P.underlying t=some (.array n e))(he:P.underlying e=some (.int k))(hsz:∀w,(sizeOf e).run P w= .ok 1 w)
  (xs ys:List Int) (hx:xs.length=n) (hy:ys.length=n):
  (Op.equalIn (d+2) t (.agg (xs.map (Value.int k)).toArray) (.agg (ys.map (Value.int k)).toArray)).run P w= .ok (xs==ys) w:=by
 rw[<-En xs ys (hx.trans hy.symm),hx,List.range_eq_range',Op.equalIn];simp only[Sem.run_bind,run_underlying ht,Result.andThen_ok,hsz,Std.Legacy.Range.forIn_eq_forIn_range',Std.Legacy.Range.size,Nat.sub_zero,Nat.add_sub_cancel,Nat.div_one];have hl:∀i∈List.range' 0 n 1,i<n:=fun i hi=>by simpa using(List.mem_range'_1.1 hi).2
 generalize List.range' 0 n 1=l at hl⊢;induction l with
 |nil=>simp
 |cons i l ih=>
  have hi:i<n:=hl i ap;have px:(part e (xs.map (Value.int k)).toArray (i*1)).run P w= .ok (.int k (xs.getD i 0)) w:=by simp[part,isAgg,run_underlying he,List.getD,List.getElem?_eq_getElem (show i<xs.length by omega)]
  have py:(part e (ys.map (Value.int k)).toArray (i*1)).run P w= .ok (.int k (ys.getD i 0)) w:=by simp[part,isAgg,run_underlying he,List.getD,List.getElem?_eq_getElem (show i<ys.length by omega)]
  have pe:(Op.equalIn (d+1) e (.int k (xs.getD i 0)) (.int k (ys.getD i 0))).run P w= .ok (xs.getD i 0==ys.getD i 0) w:=by rw[run_equalIn_int w d e k k _ _ he]
  simp only[List.forIn_cons,Sem.run_bind,px,py,pe,Result.andThen_ok,List.all_cons];cases F:(xs.getD i 0==ys.getD i 0)
  ·simp
  ·simp only[Bool.not_true,Bool.false_eq_true,if_false,Sem.run_pure,Result.andThen_ok,Bool.true_and];exact ih fun j hj=>hl j (by simp[hj])
theorem Qi(w:World):(sizeOf 3).run prog w= .ok 1 w:=by kernel_rfl
section
variable {P:Program} {ops:Array Oper} {C:World->Prop} {Q:Act->Prop} {rest:List Oper} {o:Oper} {a:Act}
theorem tW{v:Value}(hw:Region.wanted o (yielded ops a.tmps)=true)(hv:∀w,C w->(execOp a.eval o).run P w= .ok (.value v) w)(h:wpQuiet P ops C Q rest (a.put o.dst v)):wpQuiet P ops C Q (o::rest) a:=by
 unfold wpQuiet;rw[if_pos hw];refine⟨v,fun w hC=>?_,h⟩;unfold Oper.quietAt;rw[hv w hC];exact⟨J,J⟩
theorem vr{v:Value}(E:TypeId)(x:Operand)(ho:o.op= .load E x)(p:Addr)(hx:a.eval x= .pointer (some p))(hw:Region.wanted o (yielded ops a.tmps)=true)
  (hv:∀w,C w->(Instr.loadAt E (.pointer (some p))).run P w= .ok v w) (h:wpQuiet P ops C Q rest (a.put o.dst v)):wpQuiet P ops C Q (o::rest) a:=by
 refine tW hw (fun w hC=>?_) h;exact sj
theorem vN{v:Value}(f:FuncId)(vs:Array Value)(hw:Region.wanted o (yielded ops a.tmps)=true)(hr:∀w,(execOp a.eval o).run P w= .ok (.enter f vs) w)
  (hc:∀w,C w->Calls P f vs w fun e w'=>e= .returned v/\C w') (h:wpQuiet P ops C Q rest (a.put o.dst v)):wpQuiet P ops C Q (o::rest) a:=by
 unfold wpQuiet;rw[if_pos hw];refine⟨v,fun w hC=>?_,h⟩;unfold Oper.quietAt;rw[hr w];exact⟨J,hc w hC⟩
theorem xz{id:Nat}{Q':Exit->Act->World->Prop}{l:List Oper}(hm:P.follows .mixedOrders=true)(hB:Region.lexB .any l.toArray=true)
  (h:wpQuiet P l.toArray (fun w'=>al W w') (fun a'=>∀w',al W w'->Q' .normal a' w') l a):(Code.region id l.toArray true).wp P Q' a W:=
 wp_region_quiet (C:=fun w'=>al W w') hm hB ((Below.refl _ _).drew) aq
end
theorem uf.zq{f:FuncId}{args:Array Value}{v:Value}(hw:al W w)(h:Calls P f args w (uf v w)):Calls P f args w fun e w'=>e= .returned v/\al W w':=
 h.mono fun _ _ ⟨he,F⟩=>⟨he,tL hw hw.size F⟩
theorem tV{p:Addr}{v:Value}{d:TypeDesc}(hu:P.underlying E=some d)(hd:d.isRow=false)(hc:w.cell? p=some v):(Instr.loadAt E (.pointer (some p))).run P w= .ok v w:=by
 have axs:(isAgg E).run P w= .ok false w:=by unfold isAgg;rw[Sem.run_bind,run_underlying hu w];cases d<;>simp_all
 simp only[Instr.loadAt,Instr.sureAddr,Sem.run_bind,Sem.run_pure,Result.andThen_ok,loadVar,axs];simp[hc,go_sem]
set_option linter.unusedSimpArgs false
section
variable {P:Program} {ops:Array Oper} {S:World->Prop} {Q:Exit->Act->World->Prop} {o:Oper} {a:Act} {w:World} {aeH:Nat} {ae:Array Bool}
theorem Qj(i:Nat)(d:Option Tmp){v:Value}(hi:ops[i]?=some o)(hd:o.dst=d)(hs:Region.noSelect ops=true)(hf:Region.free .any ops ae i=true)(hr:(Region.ready .any ops ae).contains i=true)
  (hQ:∀c a w,Q (.panic c) (a.put d v) w->Q (.panic c) a w) (hw:Region.wanted o (yielded ops a.tmps)=true) (hv:∀w,S w->(execOp a.eval o).run P w= .ok (.value v) w) (M:S w)
  (h:wpAnyH P .any ops Q S aeH (ae.setIfInBounds i true) (a.put d v) w):wpAnyH P .any ops Q S (aeH+1) ae a w:=
 by subst hd;exact wpAnyH_take hi hs hf hr hQ (.inl ⟨hw,hv⟩) M h
theorem ag{S:World->Prop}{Q:Exit->Act->World->Prop}{o:Oper}{ae:Array Bool}(i:Nat)(d:Option Tmp){v:Value}(hi:ops[i]?=some o)(hd:o.dst=d)(O:(Region.noSelect ops&&Region.free .any ops ae i&&(Region.ready .any ops ae).contains i&&Region.wanted o (yielded ops a.tmps))=true)(hv:∀w,S w->(execOp a.eval o).run P w= .ok (.value v) w)(M:S w)(h:wpAnyH P .any ops Q S aeH (ae.setIfInBounds i true) (a.put d v) w)(hQ:∀c a w,Q (.panic c) (a.put d v) w->Q (.panic c) a w:=by exact fun _ _ _ h=>h):wpAnyH P .any ops Q S (aeH+1) ae a w:=by
  simp only[Bool.and_eq_true]at O;exact Qj i d hi hd O.1.1.1 O.1.1.2 O.1.2 hQ O.2 hv M h
theorem uZ(i:Nat)(d:Option Tmp){v:Value}(E:TypeId)(x:Operand)(p:Addr)(hi:ops[i]?=some o)(hd:o.dst=d)(ho:o.op= .load E x)(hx:a.eval x= .pointer (some p))(hs:Region.noSelect ops=true)(hf:Region.free .any ops ae i=true)(hr:(Region.ready .any ops ae).contains i=true)
  (hQ:∀c a w,Q (.panic c) (a.put d v) w->Q (.panic c) a w) (hw:Region.wanted o (yielded ops a.tmps)=true) (hv:∀w,S w->(Instr.loadAt E (.pointer (some p))).run P w= .ok v w) (M:S w)
  (h:wpAnyH P .any ops Q S aeH (ae.setIfInBounds i true) (a.put d v) w):wpAnyH P .any ops Q S (aeH+1) ae a w:=by
 refine Qj i d hi hd hs hf hr hQ hw (fun w hC=>?_) M h;exact sj
theorem uO(i:Nat)(d:Option Tmp)(f:FuncId)(vs:Array Value)(hr:Region.ready .any ops ae=[i])(hi:ops[i]?=some o)(hd:o.dst=d)(hw:Region.wanted o (yielded ops a.tmps)=true)(he:(execOp a.eval o).run P w= .ok (.enter f vs) w)
  {R:Ending->World->Prop} (hc:Calls P f vs w R) (h:∀e w',R e w'->∃v,e= .returned v/\S w'/\wpAnyH P .any ops Q S aeH (ae.setIfInBounds i true) (a.put d v) w'):wpAnyH P .any ops Q S (aeH+1) ae a w:=by
 subst hd;refine wpAnyH_all hr ap fun j hj=>?_
 rw[List.mem_singleton]at hj;subst hj;unfold wpOp;simp only[hi,hw,if_true];left;unfold Oper.wp;rw[he];simp only[Oper.upon];refine hc.mono fun e w' hR=>?_
 obtain⟨v,rfl,M,h'⟩:=h e w' hR;exact⟨M,h'⟩
theorem zF(i:Nat)(d:Option Tmp)(hr:Region.ready .any ops ae=[i])(hi:ops[i]?=some o)(hd:o.dst=d)(hw:Region.wanted o (yielded ops a.tmps)=true){v:Value}(he:(execOp a.eval o).run P w= .ok (.value v) w')(M:S w')
  (h:wpAnyH P .any ops Q S aeH (ae.setIfInBounds i true) (a.put d v) w'):wpAnyH P .any ops Q S (aeH+1) ae a w:=by
 exact qR
theorem VV(i:Nat)(d:Option Tmp)(hr:Region.ready .any ops ae=[i])(hi:ops[i]?=some o)(hd:o.dst=d)(hw:Region.wanted o (yielded ops a.tmps)=true)(he:(execOp a.eval o).run P w= .ok .skip w')(M:S w')
  (h:wpAnyH P .any ops Q S aeH (ae.setIfInBounds i true) (a.put d undef) w'):wpAnyH P .any ops Q S (aeH+1) ae a w:=by
 exact qR
end
theorem aaN{o:Nat}{sub:List Value}(F:Z w g t L)(hn:o+sub.length<=L.length)(hi:(P.info? E).map (·.size)=some sub.length)(U:∀v∈sub,v.oneCell'=true):
  (Instr.storeAt E (.pointer (some ⟨g,o,none⟩)) (.agg sub.toArray)).run P w= .ok () (w.setCells g o sub):=
 run_storeAt_mid w g o E sub.toArray aE aF (all_oneCell_toArray U)
theorem vz{S:World->Prop}{Q:Exit->Act->World->Prop}{o:Oper}{ae:Array Bool}(i:Nat)(d:Option Tmp)(E:TypeId)(x y:Operand)(hr:Region.ready .any ops ae=[i])(hi:ops[i]?=some o)(hd:o.dst=d)(ho:o.op= .store E x y)(hw:Region.wanted o (yielded ops a.tmps)=true)
  (g off:Nat) (hx:a.eval x= .pointer (some ⟨g,off,none⟩)) (sub:List Value) (hy:a.eval y= .agg sub.toArray) {t:TypeId} {L:List Value} (F:Z w g t L) (hn:off+sub.length<=L.length) (aoK:(P.info? E).map (·.size)=some sub.length) (U:∀v∈sub,v.oneCell'=true)
  (h:∀w',Z w' g t (L.take off++sub++L.drop (off+sub.length))->w.grownBy w' (some g)->w'.heap.size=w.heap.size->S w'/\wpAnyH P .any ops Q S aeH (ae.setIfInBounds i true) (a.put d undef) w'):wpAnyH P .any ops Q S (aeH+1) ae a w:=by
 obtain⟨X,h3⟩:=h _ (Z.setCells (w:=w) sub L off F hn) (BT sub (World.grownBy.refl _ _)) (CI sub w g off);refine VV i d hr hi hd hw ?_ X h3;have hst:=aaN (P:=P) F hn aoK U;exact sg
theorem UZ{o:Nat}{v:Value}(F:Z w g t L)(hn:o<L.length)(hi:(P.info? E).map (·.size)=some 1)(U:v.oneCell'=true)(hv:v.cells= #[v]):
  (Instr.storeAt E (.pointer (some ⟨g,o,none⟩)) v).run P w= .ok () (w.setCell ⟨g,o,none⟩ v):=by
 obtain⟨i,hi1,hi2⟩:=Option.map_eq_some_iff.1 hi;have hc:w.cell? ⟨g,o,none⟩=some L[o]:=(F.cell o).trans (List.getElem?_eq_getElem hn);have hf:=F.frozen o;have hst:(store ⟨g,o,none⟩ v).run P w= .ok () (w.setCell ⟨g,o,none⟩ v):=by rw[run_store P w _ v _ U,hc];simp[hf]
 have agp:(⟨g,o,none⟩:Addr).add 0=⟨g,o,none⟩:=gM;simp[Instr.storeAt,Instr.sureAddr,storeVar,sizeOf,typeInfo,hi1,hi2,hv,storeCells,agp,hst]
theorem Te{Q:Exit->Act->World->Prop}(hgd:op.guard=none)(E:TypeId)(x y:Operand)(ho:op.op= .store E x y)
  (g o:Nat) (hx:a.eval x= .pointer (some ⟨g,o,none⟩)) (v:Value) (hy:a.eval y=v) {t:TypeId} {L:List Value} (F:Z w g t L) (hn:o<L.length)
  (hi:(P.info? E).map (·.size)=some 1) (U:v.oneCell'=true) (hv:v.cells= #[v])
  (h:∀w',Z w' g t (L.set o v)->w.grownBy w' (some g)->w'.heap.size=w.heap.size->wpList P ops Q rest (a.put op.dst undef) w'):wpList P ops Q (op::rest) a w:=by
 refine wpList_plain hgd fun hb hK=>?_
 have hst:=UZ (P:=P) F hn hi U hv;unfold Oper.wp execOp;simp only[ho,hx,hy,Sem.run_bind,hst,Result.andThen_ok,Sem.run_pure];exact hK _ _ (h _ (F.set o v) (uq (World.grownBy.refl _ _) o v) aG)
theorem af{Q:Exit->Act->World->Prop}{x y:Operand}(ho:op.op= .store E x y)(g o:Nat)(v:Value)(F:Z w g t L)(hn:o<L.length)(hi:(P.info? E).map (·.size)=some 1)(h:∀w',Z w' g t (L.set o v)->w.grownBy w' (some g)->w'.heap.size=w.heap.size->wpList P ops Q rest (a.put op.dst undef) w')(hgd:op.guard=none:=by exact J)(hx:a.eval x= .pointer (some ⟨g,o,none⟩):=by exact J)(hy:a.eval y=v:=by exact J)(U:v.oneCell'=true:=by exact J)(hv:v.cells= #[v]:=by exact J):wpList P ops Q (op::rest) a w:=Te hgd E x y ho g o hx v hy F hn hi U hv h
theorem wl{o:Oper}{Q:Exit->Act->World->Prop}(hgd:o.guard=none)(t:TypeId)(parts:Array (Nat×Operand))(ho:o.op= .build t parts)(vJ:Array (Nat×Value))(hv:parts.map (fun(i,x)=>(i,a.eval x))=vJ)
  {v:Value} (hr:(Instr.build t vJ).run P w= .ok v w) (h:wpList P ops Q rest (a.put o.dst v) w):wpList P ops Q (o::rest) a w:=by
 refine wpList_plain hgd fun hb hK=>?_
 unfold Oper.wp execOp;simp only[ho,hv,Sem.run_bind,hr,Result.andThen_ok,Sem.run_pure];exact hK _ _ h
theorem vh:(prog.info? 26).map (·.size)=some 1:=by kernel_rfl
theorem uB:(prog.info? 3).map (·.size)=some 1:=by kernel_rfl
theorem Kw:(prog.info? 9).map (·.size)=some 1:=by kernel_rfl
section
variable {P:Program} {ops:Array Oper} {S:World->Prop} {Q:Exit->Act->World->Prop} {hb:Act->World->Prop} {o:Oper} {a:Act} {w:World} {aeH:Nat} {ae:Array Bool}
theorem um(i:Nat)(hr:Region.ready .any ops ae=[i])(h:wpOp P ops Q i (fun a' w'=>S w'/\wpAnyH P .any ops Q S aeH (ae.setIfInBounds i true) a' w') a w):wpAnyH P .any ops Q S (aeH+1) ae a w:=by
 refine wpAnyH_all hr ap fun j hj=>?_
 rw[List.mem_singleton]at hj;subst hj;exact h
theorem xu(i j:Nat)(hr:Region.ready .any ops ae=[i,j])(U:wpOp P ops Q i (fun a' w'=>S w'/\wpAnyH P .any ops Q S aeH (ae.setIfInBounds i true) a' w') a w)(X:wpOp P ops Q j (fun a' w'=>S w'/\wpAnyH P .any ops Q S aeH (ae.setIfInBounds j true) a' w') a w):wpAnyH P .any ops Q S (aeH+1) ae a w:=by
 refine wpAnyH_all hr ap fun k O=>?_
 simp only[List.mem_cons,List.not_mem_nil,or_false]at O;rcases O with rfl|rfl
 ·exact U
 ·exact X
theorem uM(i:Nat)(d:Option Tmp)(hi:ops[i]?=some o)(hd:o.dst=d)(hw:Region.wanted o (yielded ops a.tmps)=true){v:Value}(he:(execOp a.eval o).run P w= .ok (.value v) w')(h:hb (a.put d v) w'):wpOp P ops Q i hb a w:=by
 exact sJ
theorem Yg(i:Nat)(d:Option Tmp)(hi:ops[i]?=some o)(hd:o.dst=d)(hw:Region.wanted o (yielded ops a.tmps)=true)(he:(execOp a.eval o).run P w= .ok .skip w')(h:hb (a.put d undef) w'):wpOp P ops Q i hb a w:=by
 exact sJ
theorem vO(i:Nat)(d:Option Tmp)(f:FuncId)(vs:Array Value)(hi:ops[i]?=some o)(hd:o.dst=d)(hw:Region.wanted o (yielded ops a.tmps)=true)(he:(execOp a.eval o).run P w= .ok (.enter f vs) w)
  {R:Ending->World->Prop} (hc:Calls P f vs w R) (h:∀e w',R e w'->∃v,e= .returned v/\hb (a.put d v) w'):wpOp P ops Q i hb a w:=by
 subst hd;unfold wpOp;simp only[hi,hw,if_true];left;unfold Oper.wp;rw[he];simp only[Oper.upon];refine hc.mono fun e w' hR=>?_
 obtain⟨v,rfl,h'⟩:=h e w' hR;exact h'
theorem xv(i:Nat)(d:Option Tmp){v:Value}(E:TypeId)(x:Operand)(p:Addr)(hi:ops[i]?=some o)(hd:o.dst=d)(ho:o.op= .load E x)(hx:a.eval x= .pointer (some p))(hw:Region.wanted o (yielded ops a.tmps)=true)
  (hv:(Instr.loadAt E (.pointer (some p))).run P w= .ok v w) (h:hb (a.put d v) w):wpOp P ops Q i hb a w:=by
 refine uM i d hi hd hw ?_ h;exact sD
theorem xx(i:Nat)(E:TypeId)(x y:Operand)(hi:ops[i]?=some o)(hd:o.dst=none)(ho:o.op= .store E x y)(hw:Region.wanted o (yielded ops a.tmps)=true)
  (g off:Nat) (hx:a.eval x= .pointer (some ⟨g,off,none⟩)) (v:Value) (hy:a.eval y=v) {t:TypeId} {L:List Value} (F:Z w g t L) (hn:off<L.length)
  (aoK:(P.info? E).map (·.size)=some 1) (U:v.oneCell'=true) (hv:v.cells= #[v])
  (h:∀w',Z w' g t (L.set off v)->w.grownBy w' (some g)->w'.heap.size=w.heap.size->hb (a.put none undef) w'):wpOp P ops Q i hb a w:=by
 have hst:=UZ (P:=P) F hn aoK U hv;refine Yg i none hi hd hw (w':=w.setCell ⟨g,off,none⟩ v) ?_ (h _ (F.set off v) (uq (World.grownBy.refl _ _) off v) aG);exact sg
end
def acK(n:Nat)(fz:Nat×Nat):Prop:=fz.2=0\/n<=fz.1
def AF(w:World)(B:Nat)(v:Value)(s:List UInt8):Prop:=
 (v= .slice none 0 0/\s=[])\/∃(g cap:Nat) (cur:Array Value) (fz:Nat×Nat),v= .slice (some ⟨g,0,none⟩) s.length cap/\B<=g/\w.heap[g]?=some (.cells cur 5 fz)/\acK cur.size fz/\s.length<=cap/\cap<=maxLen/\cur.size=cap/\cur.toList.take s.length=vl s
theorem AF.form{v:Value}(h:AF w B v s):∃A c,v= .slice A s.length c:=by
 rcases h with⟨rfl,rfl⟩|⟨g,cap,cur,fz,rfl,_⟩
 ·exact⟨none,0,J⟩
 ·exact⟨_,_,J⟩
theorem AF.base{v:Value}(h:AF w B v s):∀k,v.ownBlock=some k->B<=k:=by
 intro k O;rcases h with⟨rfl,rfl⟩|⟨g,cap,cur,fz,rfl,hB,_⟩
 ·simp[Value.ownBlock]at O
 ·have:g=k:=iE;omega
theorem AF.ne{v:Value}{cs:Array Value}{fz:Nat×Nat}(h:AF w B v s)(F:w.heap[g]?=some (.cells cs t fz))(ht:t≠5):some g≠v.ownBlock:=by
 rcases h with⟨rfl,rfl⟩|⟨g',cap,cur,fz',rfl,hB,hh,_⟩
 ·simp[Value.ownBlock]
 ·intro he;have:g=g':=jN;subst this;rw[F]at hh;injection hh with hh;injection hh with _ X;exact ht X
theorem AF.kept{v:Value}{row:Option Nat}(h:AF w B v s)(hg:w.grownBy w' row)(hne:v.ownBlock=none\/v.ownBlock≠row):AF w' B v s:=by
 rcases h with hn|⟨g,cap,cur,fz,rfl,hB,hh,rest⟩
 ·exact .inl hn
 ·refine .inr ⟨g,cap,cur,fz,J,hB,?_,rest⟩;rw[hg.block g (Array.getElem?_eq_some_iff.1 hh).1 (by simpa[Value.ownBlock]using hne)];exact hh
theorem AF.G{v:Value}(h:AF w B v s)(F:al w w'):AF w' B v s:=by
 refine h.kept (uj F none) ?_;cases hv:v.ownBlock with
 |none=>exact .inl J
 |some g=>exact .inr ap
theorem AX(P:Program)(g o:Nat)(t:TypeId)(fz:Nat×Nat):∀(vs:List Value) (i:Nat) (cur:Array Value) (w:World),w.heap[g]?=some (.cells cur t fz)->acK cur.size fz->o+i+vs.length<=cur.size->(∀v∈vs,v.oneCell'=true)->
  (storeCells ⟨g,o,none⟩ vs i).run P w= .ok () (w.setRow g (cur.toList.take (o+i)++vs++cur.toList.drop (o+i+vs.length)).toArray)
 |[],i,cur,w,hg,_,_,_=>by
  simp only[storeCells,List.append_nil,List.length_nil,Nat.add_zero,List.take_append_drop,Array.toArray_toList];rw[setRow_self w g cur t fz hg];rfl
 |v::rest,i,cur,w,hg,hfz,hl,U=>by
  have hi:o+i<cur.size:=by simp at hl;omega
  have agp:(⟨g,o,none⟩:Addr).add i=⟨g,o+i,none⟩:=gM;have ago:w.cell? ⟨g,o+i,none⟩=some cur[o+i]:=by simp[World.cell?,hg,hi]
  have aw9:w.frozen? ⟨g,o+i,none⟩=false:=by obtain⟨lo,hi'⟩:=fz;simp only[World.frozen?,hg,Bool.and_eq_false_iff,decide_eq_false_iff_not];simp only[acK]at hfz;omega
  have hst:(store ((⟨g,o,none⟩:Addr).add i) v).run P w= .ok () (w.setRow g (cur.setIfInBounds (o+i) v)):=by rw[agp,run_store P w _ v _ (U v ap),ago];simp[aw9,setCell_eq_setRow w g (o+i) cur t fz v hg]
  have ih:=AX P g o t fz rest (i+1) (cur.setIfInBounds (o+i) v) (w.setRow g (cur.setIfInBounds (o+i) v)) (setRow_heap w g cur _ t _ hg) (by simpa using hfz) aC (fun x hx=>U x (by simp[hx]));simp only[storeCells,Sem.run_bind,hst,Result.andThen_ok,ih,setRow_setRow];congr 3;have e:=list_seg_step cur.toList (o+i) v rest aC;simpa[Array.toList_setIfInBounds,Nat.add_assoc]using e
theorem Kx(w:World)(E:TypeId)(B:Nat)(v:Value)(s x:List UInt8)(adV:AF w B v s)(hB:B<=w.heap.size)(hl:s.length+x.length<=140737488355328):
  ∃v' w',(Builtin.append_ #[145,9] E #[v,.string (bs x)]).run prog w= .ok v' w'/\AF w' B v' (s++x)/\w.grownBy w' v.ownBlock:=by
 obtain⟨i,hi,hz,adT,hby⟩:=info_parts Da;rcases adV with⟨rfl,rfl⟩|⟨g,cap,cur,fz,rfl,hbg,hg,hfz,hnc,hcm,hcs,ani⟩
 ·
  obtain⟨v',w',U,X,h3,h4⟩:=Lib.run_append_own_string (P:=prog) w B 145 9 E 5 i underlying145 underlying9 hi hz adT hby (.slice none 0 0) 0 [] (World.ownsRow_nil _ _ _ _) (bs x) (by rw[xf];simp only[maxLen];simp at hl;omega) (by rw[xf];simpa using hl) hB;refine⟨v',w',U,?_,h3⟩;rw[xf,Ct,Nat.zero_add,List.nil_append]at X;rcases X.2 with⟨rfl,h0⟩|⟨g,cap,cur,hv,F,hh,hc,hm,hs,ht⟩
  ·have:x=[]:=List.length_eq_zero_iff.1 h0;subst this;exact .inl ⟨J,J⟩
  ·exact .inr ⟨g,cap,cur,(0,0),by simpa using hv,F,hh,.inl J,by simpa using hc,hm,by simpa using hs,by simpa using ht⟩
 ·
  have hxl:(vl s).length=s.length:=vB s;have hlen:(vl s++vl x).length=s.length+x.length:=by rw[List.length_append,vB,vB]
  by_cases anl:s.length+x.length<=cap
  ·
   have hf:=Lib.run_firstCells_string (P:=prog) w 1 (bs x);have hst:=AX prog g s.length 5 fz (vl x) 0 cur w hg hfz aH (fun v hv=>by obtain⟨b,_,rfl⟩:=List.mem_map.1 hv;rfl);rw[Ct,xf]at hf;simp only[Nat.add_zero,vB]at hst;have hr:(Builtin.append_ #[145,9] E #[.slice (some ⟨g,0,none⟩) s.length cap,.string (bs x)]).run prog w=
     .ok (.slice (some ⟨g,0,none⟩) (s.length+x.length) cap) (w.setRow g (cur.toList.take s.length++vl x++cur.toList.drop (s.length+x.length)).toArray):=by
    simp[Builtin.append_,run_underlying underlying145,run_underlying underlying9,sizeOf,typeInfo,hi,adT,Builtin.lenOf,anl,hf,Addr.add_lit,hst,xf]
   refine⟨_,_,hr,.inr ⟨g,cap,_,fz,by rw[List.length_append],hbg,setRow_heap w g cur _ _ _ hg,?_,by rw[List.length_append];exact anl,hcm,?_,?_⟩,⟨J,J,J,ap,fun k _ O=>setRow_other w g k _ (fun e=>O (by simp[Value.ownBlock,e]))⟩⟩
   ·
    have:(cur.toList.take s.length++vl x++cur.toList.drop (s.length+x.length)).toArray.size=cur.size:=by exact rF
    rw[this];exact hfz
   ·exact rF
   ·rw[ani,AB,List.length_append,<-hlen];exact List.take_left
  ·
   have holds:∀j u,(vl s)[j]?=some u->w.cell? ((⟨g,0,none⟩:Addr).add j)=some u:=by
    intro j u hu;have agp:(⟨g,0,none⟩:Addr).add j=⟨g,j,none⟩:=gM;rw[agp,cell_of_row w g j cur _ fz hg];rw[<-ani,List.getElem?_take]at hu;split at hu
    ·simpa using hu
    ·cases hu
   have hr:=Lib.run_append_grow_string (P:=prog) w 145 9 E 5 i (.int .u8 0) underlying145 underlying9 hi hz ⟨g,0,none⟩ s.length cap (vl s) (by rw[adT,vB,Nat.mul_one]) holds (bs x) aI aI (by rw[hby,xf];exact growslice_fits I I);rw[xf,Ct]at hr;have hge:=grownCap_ge w (s.length+x.length) cap 5;have axj:grownCap w (s.length+x.length) cap 5<=maxLen:=grownCap_le_maxLen w (s.length+x.length) cap _ aJ;refine⟨_,_,hr,.inr ⟨w.heap.size,_,_,(0,0),by rw[List.length_append],hB,heap_alloc_new w.drew _,.inl J,by rw[List.length_append];exact hge,axj,?_,?_⟩,⟨J,J,J,ap,fun k O _=>Below.heap_alloc w.drew _ k O⟩⟩
   ·have hz1:(Value.int IntKind.u8 0).cells.size=1:=rfl;simp only[Array.size_append,List.size_toArray,size_zeroCells,hz1,vB];omega
   ·simp only[Array.toList_append,List.append_assoc];rw[<-List.append_assoc,AB,List.length_append,<-hlen];exact List.take_left
theorem aaO(w:World)(s:List UInt8)(hl:s.length<=maxLen):
  ∃A c w',(convert 9 145 (.string (bs s))).run prog w= .ok (.slice A s.length c) w'/\AF w' w.heap.size (.slice A s.length c) s/\al w w':=by
 have hr:=run_bytes_of_string (P:=prog) w 9 145 5 (bs s) underlying9 underlying145 underlying5;rw[xf]at hr;have hge:=grownCap_ge w s.length 0 5;have hcm:=grownCap_le_maxLen w s.length 0 5 hl;generalize grownCap w s.length 0 5=cap at*;have hbr:(bytesRow (bs s) cap).size=cap:=by simp[bytesRow,bs,ByteArray.size];omega
 refine⟨_,_,_,hr,.inr ⟨w.heap.size,cap,_,_,J,Nat.le_refl _,heap_alloc_new w.drew _,.inr ap,hge,hcm,hbr,?_⟩,((Below.refl _ _).drew).alloc (Nat.le_refl _) _⟩;have e1:(bytesRow (bs s) cap).toList=vl s++List.replicate (cap-s.length) (.int .u8 0):=by simp[bytesRow,bs,vl,ByteArray.size]
 rw[e1];exact List.take_left' (vB s)
theorem AF.str{v:Value}(h:AF w B v s):(convert 145 9 v).run prog w= .ok (.string (bs s)) w:=by
 rcases h with⟨rfl,rfl⟩|⟨g,cap,cur,fz,rfl,hB,hh,_,_,_,_,ht⟩
 ·kernel_rfl
 ·
  refine run_convert_bytes_back w 145 9 5 ⟨g,0,none⟩ cap s underlying145 underlying5 underlying9 ?_;intro j hj;have agp:(⟨g,0,none⟩:Addr).add j=⟨g,j,none⟩:=gM;rw[agp,cell_of_row w g j cur _ fz hh];have e:cur.toList[j]?=(cur.toList.take s.length)[j]?:=by rw[List.getElem?_take_of_lt hj]
  rw[show cur[j]?=cur.toList[j]? by simp,e,ht,C9 s j hj]
theorem Hc(w:World){o:Oper}{Q:Exit->Act->World->Prop}(hgd:o.guard=none)(sl x:Operand)
  (ho:o.op= .call {callee:=.builtin .append,args:= #[sl,x],argTypes:= #[145,9]})
  (B:Nat) (v:Value) (q s:List UInt8) (hs:a.eval sl=v) (adV:AF w B v q) (hB:B<=w.heap.size) (hx:a.eval x= .string (bs s)) (hl:q.length+s.length<=140737488355328)
  (h:∀A c w',AF w' B (.slice A (q++s).length c) (q++s)->w.grownBy w' v.ownBlock->wpList prog ops Q rest (a.put o.dst (.slice A (q++s).length c)) w'):
  wpList prog ops Q (o::rest) a w:=by
 refine wpList_plain hgd fun hb hK=>?_
 obtain⟨v',w',hr,X,h3⟩:=Kx w o.type B v q s adV hB hl;obtain⟨A,c,rfl⟩:=X.form;unfold Oper.wp execOp;simp only[ho,resolve,invoke,builtin,Sem.run_bind,Sem.run_pure,Result.andThen_ok,List.map_toArray,List.map_cons,List.map_nil,hs,hx,hr];exact hK _ _ (h A c w' X h3)
end Go.Proofs.YthnbcmlnpdabhaaGreat
