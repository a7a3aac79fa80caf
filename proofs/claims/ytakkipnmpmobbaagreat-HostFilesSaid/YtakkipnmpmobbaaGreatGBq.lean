/-
  Layer 5 (domain) and its reference,as far as the wire wants them:sizes and checks of names;Few,Exact.
-/
import Derived.Test.YtakkipnmpmobbaaGreatGAq
import Derived.Lib.AppendStr
import Derived.Deep.MidRow
namespace Go.Proofs.YtakkipnmpmobbaaGreat
open _root_.Go.Proofs.Tryz
open Go.RowKit
set_option maxRecDepth 100000
set_option linter.unusedVariables false
variable {n Hh g aeh:Nat} {w w' W:World} {e t Q:TypeId} {s:List UInt8} {P:Program} {ops:Array Oper} {rest:List Oper} {a:Act} {L:List Value} {op:Oper}
theorem zd(n:List (List UInt8))(h:∀l∈n,l.length<=63):sq n<=64*n.length:=by
 induction n with
 |nil=>simp[sq]
 |cons l n ih=>have U:=h l (List.mem_cons_self ..);have F:=ih (fun x hx=>h x (List.mem_cons_of_mem _ hx));simp[sq];omega
theorem Fx(A:Option Addr)(c:Nat)(n:List (List UInt8))(w:World)(hA:zN w A n)(hm:n.length<=281474976710656)(hs:sq n<=4611686018427387904):
  Calls prog 68 #[.slice A n.length c] w (uQ (.int .i64 (1+sq n)) w):=by
 go_enter func68,ntmps68;go_wp2_with fail;go_loop[3,8] (fun z i=>∃k:Nat,k<=n.length/\i= .int .i64 k/\z= .int .i64 (1+sq (n.take k))) (fun _ i=>n.length-(intOf i).toNat)
 case atStart=>exact⟨0,Nat.zero_le _,I,I⟩
 case round=>exact m5
theorem zC(A:Option Addr)(c:Nat)(n:List (List UInt8))(w:World)(hA:zN w A n)(hm:n.length<=281474976710656)(hs:sq n<=4611686018427387904):
  Calls prog 27 #[.slice A n.length c] w (uQ (.int .i64 (1+sq n)) w):=by
 go_enter func27,ntmps27;go_wp2_with fail;go_loop[3,4] (fun z i=>∃k:Nat,k<=n.length/\i= .int .i64 k/\z= .int .i64 (1+sq (n.take k))) (fun _ i=>n.length-(intOf i).toNat)
 case atStart=>exact⟨0,Nat.zero_le _,I,I⟩
 case round=>exact m5
theorem IC(n:List (List UInt8))(k:Nat)(h:k<n.length)(Z:zV n[k]=true):rR n=7:=by
 unfold rR;rw[if_pos (List.any_eq_true.2 ⟨n[k],List.getElem_mem h,Z⟩)]
theorem GJ(n:List (List UInt8))(h:∀j (hj:j<n.length),zV n[j]=false):rR n=if 255<1+sq n then 3 else 0:=by
 unfold rR;rw[if_neg];intro h';obtain⟨l,E,Z⟩:=List.any_eq_true.1 h';obtain⟨j,hj,rfl⟩:=List.getElem_of_mem E;rw[h j hj]at Z;cases Z
theorem KY{n:List (List UInt8)}(h:∀j (hj:j<n.length),zV n[j]=false):∀l∈n,l.length<=63:=by
 intro l E;obtain⟨j,hj,rfl⟩:=List.getElem_of_mem E;have:=h j hj;simp[zV]at this;omega
theorem wK(A:Option Addr)(c:Nat)(n:List (List UInt8))(w:World)(hA:zN w A n)(hm:n.length<=281474976710656):
  Calls prog 84 #[.slice A n.length c] w (uQ (.int .i64 (rR n)) w):=by
 go_enter func84,ntmps84;go_wp2_with fail;go_loop[7] (fun i=>∃k:Nat,k<=n.length/\i= .int .i64 k/\Hid (∀j (hj:j<n.length),j<k->zV n[j]=false)) (fun i=>n.length-(intOf i).toNat)
 case atStart=>exact⟨0,Nat.zero_le _,I,J (fun j hj h=>by omega)⟩
 case round=>
  obtain⟨k,O,rfl,H⟩:=hrel;by_cases aA:k<n.length
  ·
   have h1:(k:Int)<n.length:=Y;obtain⟨b,off,rfl,_,xa⟩:=hA Y;have c1:=xa k aA;clear xa;cases hbd:zV n[k]with
   |true=>
    have R:=J (IC n k aA hbd);by_cases h0:n[k]=[]
    ·have e1:(n[k]==[])=true:=aY;have e2:n[k].isEmpty=true:=aY;clear h0 hbd;exact oP
    ·
     have aid:0<n[k].length:=gJ;have arO:(63:Int)<n[k].length:=by
      simp[zV]at hbd;rcases hbd with h|h
      ·exact absurd h h0
      ·omega
     have e1:(n[k]==[])=false:=aY;have e2:n[k].isEmpty=false:=aY;clear h0 hbd;exact oP
   |false=>
    have hl1:1<=n[k].length/\n[k].length<=63:=by exact pV
    have anL:(n[k].length:Int)<=63:=Y;have h0:n[k]≠[]:=List.length_pos_iff.1 Y;have e1:(n[k]==[])=false:=aY;have e2:n[k].isEmpty=false:=aY;have HB:=J hbd;clear h0 hbd;exact nB
  ·
   have h1:¬(k:Int)<n.length:=Y;have ajF:∀j (hj:j<n.length),zV n[j]=false:=fun j hj=>H.out j hj Y
   have R:=GJ n ajF;have hbd:=zd n (KY ajF);clear ajF H;by_cases h3:255<1+sq n
   ·have h3':(255:Int)<1+(sq n:Int):=Y;rw[if_pos h3]at R;have RR:=J R;clear R;go_wp2_with fail;refine(Fx A c n _ hA hm Y).mono ?_;exact od
   ·have h3':1+(sq n:Int)<=255:=Y;rw[if_neg h3]at R;have RR:=J R;clear R;go_wp2_with fail;refine(Fx A c n _ hA hm Y).mono ?_;exact od
theorem Ck(A:Option Addr)(c:Nat)(n:List (List UInt8))(w:World)(hA:zN w A n)(hm:n.length<=281474976710656):
  Calls prog 8 #[.slice A n.length c] w (uQ (.int .i64 (rR n)) w):=by
 go_enter func8,ntmps8;go_wp2_with fail;go_loop[3] (fun i=>∃k:Nat,k<=n.length/\i= .int .i64 k/\Hid (∀j (hj:j<n.length),j<k->zV n[j]=false)) (fun i=>n.length-(intOf i).toNat)
 case atStart=>exact⟨0,Nat.zero_le _,I,J (fun j hj h=>by omega)⟩
 case round=>
  obtain⟨k,O,rfl,H⟩:=hrel;by_cases aA:k<n.length
  ·
   have h1:(k:Int)<n.length:=Y;obtain⟨b,off,rfl,_,xa⟩:=hA Y;have c1:=xa k aA;clear xa;cases hbd:zV n[k]with
   |true=>
    have R:=J (IC n k aA hbd);by_cases h0:n[k].length<1
    ·have e1:(n[k].length:Int)<1:=Y;clear hbd;exact oP
    ·
     have arO:(63:Int)<n[k].length:=by
      simp[zV]at hbd;rcases hbd with h|h
      ·rw[h]at h0;simp at h0
      ·omega
     have e1:(1:Int)<=n[k].length:=Y;clear h0 hbd;exact oP
   |false=>
    have hl1:1<=n[k].length/\n[k].length<=63:=by exact pV
    have anL:(n[k].length:Int)<=63:=Y;have e1:(1:Int)<=n[k].length:=Y;have HB:=J hbd;clear hbd;exact nB
  ·
   have h1:¬(k:Int)<n.length:=Y;have ajF:∀j (hj:j<n.length),zV n[j]=false:=fun j hj=>H.out j hj Y
   have R:=GJ n ajF;have hbd:=zd n (KY ajF);clear ajF H;by_cases h3:255<1+sq n
   ·have h3':(255:Int)<1+(sq n:Int):=Y;rw[if_pos h3]at R;have RR:=J R;clear R;go_wp2_with fail;refine(zC A c n _ hA hm Y).mono ?_;exact od
   ·have h3':1+(sq n:Int)<=255:=Y;rw[if_neg h3]at R;have RR:=J R;clear R;go_wp2_with fail;refine(zC A c n _ hA hm Y).mono ?_;exact od
theorem U7(A:Option Addr)(c:Nat)(n:List (List UInt8))(w:World)(hA:zN w A n)(hm:n.length<=281474976710656)(E:∀l∈n,l.length<=281474976710656):
  Calls prog 7 #[.slice A n.length c] w (uQ (.bool (decide (sq n<=400))) w):=by
 have HL:=J E;clear E;go_enter func7,ntmps7;go_wp2_with fail;go_loop[3,4] (fun z i=>∃k:Nat,k<=n.length/\i= .int .i64 k/\z= .int .i64 (sq (n.take k))/\sq (n.take k)<=400) (fun _ i=>n.length-(intOf i).toNat)
 case atStart=>exact⟨0,Nat.zero_le _,I,I,by simp[sq]⟩
 case round=>
  obtain⟨k,O,rfl,rfl,Z⟩:=hrel;by_cases aA:k<n.length
  ·
   have h1:(k:Int)<n.length:=Y;obtain⟨b,off,rfl,_,xa⟩:=hA Y;have c1:=xa k aA;have S:=J (Fw n k aA);have hle:=HL.out n[k] (List.getElem_mem aA);clear xa;by_cases arO:sq (n.take k)+(n[k].length+1)<=400
   ·
    have hb':(sq (n.take k):Int)+n[k].length+1<=400:=Y;go_wp2_with fail;go_round
    case rel=>exact⟨k+1,Y,fQ,by rw[S.out];go_num,by rw[S.out];exact arO⟩
    case measure=>simp[intOf];omega
   ·
    have hb':400<(sq (n.take k):Int)+n[k].length+1:=Y;have hno:decide (sq n<=400)=false:=by have:=vK n (k+1);rw[S.out]at this;exact decide_eq_false Y
    have R:=J hno;clear hno;go_wp2_with fail;go_ret;exact uQ.mk (xJ R.out.symm) I
  ·
   have h1:¬(k:Int)<n.length:=Y;have R:decide (sq n<=400)=true:=by rw[List.take_of_length_le Y]at Z;exact decide_eq_true Z
   have RR:=J R;clear R;go_wp2_with fail;go_ret;exact uQ.mk (xJ RR.out.symm) I
theorem KZ(A Hh:Option Addr)(a b:List (List UInt8))(ca cb:Nat)(w:World)(hA:zN w A a)(hB:zN w Hh b)(hm:a.length<=281474976710656)(hm2:b.length<=281474976710656):
  Calls prog 18 #[.slice A a.length ca,.slice Hh b.length cb] w (rW (.bool (decide (a=b))) w):=by
 go_enter func18,ntmps18;go_wp2_with fail;refine(YM A Hh a b ca cb _ hA hB hm hm2).mono ?_;rintro e B ⟨rfl,b1⟩;go_wp2_with fail;go_ret;exact rW.mk I b1
theorem yw{size:Nat}{v:Value}{xs:List Value}(h:w.ownsRow Hh e size v n xs):∀k,v.ownBlock=some k->Hh<=k:=fun k O=>(h.lt k O).1
theorem zD{B':Nat}{e':TypeId}{s s' n':Nat}{v v':Value}{xs xs':List Value}(h:w.ownsRow Hh e s v n xs)(h':w.ownsRow B' e' s' v' n' xs')(hl:e≠e')(hg:w.grownBy w' v'.ownBlock):w'.ownsRow Hh e s v n xs:=by
 refine h.kept hg ?_;rcases h.2 with⟨rfl,_⟩|⟨g,cap,cur,rfl,_,hh,_⟩
 ·exact .inl I
 ·
  right;intro Z;rcases h'.2 with⟨rfl,_⟩|⟨g',aNj,aNe,rfl,_,hh',_⟩
  ·simp[Value.ownBlock]at Z
  ·
   have:g=g':=by simpa[Value.ownBlock]using Z
   subst this;rw[hh]at hh';injection hh' with hh';injection hh' with _ ht;exact hl ht
theorem sT{s:Nat}{v:Value}{xs:List Value}(h:w.ownsRow Hh e s v n xs)(Z:ao w w'):w'.ownsRow Hh e s v n xs:=by
 refine World.ownsRow.kept h (r5 Z none) ?_;cases hv:v.ownBlock with
 |none=>exact .inl I
 |some g=>exact .inr ar
theorem ui{s:Nat}{v:Value}{xs cs:List Value}(Z:N w g t cs)(h:w.ownsRow Hh e s v n xs)(hl:t≠e)(hg:w.grownBy w' v.ownBlock):N w' g t cs:=by
 refine Z.grown hg ?_;rcases h.2 with⟨rfl,_⟩|⟨g',cap,cur,rfl,_,hh,_⟩
 ·simp[Value.ownBlock]
 ·intro he;have:g=g':=jp;exact pM
theorem tp{s:Nat}{v:Value}{xs:List Value}(h:w.ownsRow Hh e s v n xs):∃A c,v= .slice A n c:=by
 rcases h.2 with⟨rfl,rfl⟩|⟨g',cap,cur,rfl,_⟩
 ·exact⟨none,0,I⟩
 ·exact⟨_,cap,I⟩
theorem sX{w0:World}{s:Nat}{v:Value}{xs:List Value}(Z:Below Hh w0 w)(hB:Hh<=w.heap.size)(h:w.ownsRow Hh e s v n xs)(hg:w.grownBy w' v.ownBlock):Below Hh w0 w':=Z.grown hg hB (yw h)
theorem tQ(w:World){o:Oper}{hb:Exit->Act->World->Prop}(hgd:o.guard=none)(s x:Operand)(t:TypeId)
  (ho:o.op= .call {callee:=.builtin .append,args:= #[s,x],argTypes:= #[t,t]})
  (e:TypeId) (z:Value) (size bytes:Nat) (ht:P.underlying t=some (.slice e)) (hi:(P.info? e).map (fun i=>(i.zero,i.size,i.bytes))=some (some z,size,bytes)) (hzs:z.cells.size=size) (hsz:0<size)
  (Hh:Nat) (v:Value) (n:Nat) (xs:List Value) (hs:a.eval s=v) (ad1:w.ownsRow Hh e size v n xs) (hB:Hh<=w.heap.size)
  (ad:Addr) (m c:Nat) (news:List Value) (hx:a.eval x= .slice (some ad) m c) (E:news.length=m*size) (anv:∀j u,news[j]?=some u->w.cell? (ad.add j)=some u) (U:∀u∈news,u.oneCell'=true)
  (hm:0<m) (h63:n+m<=maxLen) (agH:(n+m)*bytes<=140737488355328)
  (h:∀g cap w',w'.ownsRow Hh e size (.slice (some ⟨g,0,none⟩) (n+m) cap) (n+m) (xs++news)->w.grownBy w' v.ownBlock->g<w'.heap.size->wpList P ops hb rest (a.put o.dst (.slice (some ⟨g,0,none⟩) (n+m) cap)) w'):
  wpList P ops hb (o::rest) a w:=by
 obtain⟨i,hi,hz,adR,hby⟩:=info_parts hi;refine wpList_append_own_at w hgd s x t ho Hh e i z size bytes ht hi hz adR hby hzs hsz v n xs hs ad1 ad m c news hx E anv U h63 agH hB ?_;intro v' w' aie hg _ hat;obtain⟨g,cap,rfl⟩:∃g cap,v'= .slice (some ⟨g,0,none⟩) (n+m) cap:=by exact pT
 exact h g cap w' aie hg (aie.lt g I).2
theorem zE(l:List UInt8):Lib.strCells (bs l)=sN l:=by
 simp[Lib.strCells,sN,bs]
theorem Pv(w:World){o:Oper}{hb:Exit->Act->World->Prop}(hgd:o.guard=none)(sl x:Operand)
  (ho:o.op= .call {callee:=.builtin .append,args:= #[sl,x],argTypes:= #[101,9]})
  (Hh:Nat) (v:Value) (q s:List UInt8) (hs:a.eval sl=v) (ad1:w.ownsRow Hh 5 1 v q.length (sN q)) (hB:Hh<=w.heap.size) (hx:a.eval x= .string (bs s)) (E:q.length+s.length<=140737488355328)
  (h:∀A c w',w'.ownsRow Hh 5 1 (.slice A (q++s).length c) (q++s).length (sN (q++s))->w.grownBy w' v.ownBlock->wpList prog ops hb rest (a.put o.dst (.slice A (q++s).length c)) w'):
  wpList prog ops hb (o::rest) a w:=by
 obtain⟨i,hi,hz,adR,hby⟩:=info_parts xf;refine Lib.wpList_append_own_string w hgd sl x _ _ ho Hh 5 i underlying101 underlying9 hi hz adR hby v q.length (sN q) hs ad1 (bs s) hx (by rw[vB];simp only[maxLen];omega) (by rw[vB];exact E) hB ?_;intro v' w' aie hg _;rw[vB,zE,<-xL,<-List.length_append]at aie;obtain⟨A,c,rfl⟩:=tp aie;exact h A c w' aie hg
theorem N.range(h:N w g t L)(o n:Nat)(hn:o+n<=L.length):w.rangeAt g o ((L.drop o).take n):=by
 intro j v hv;rw[h.cell (o+j)];obtain⟨hj,he⟩:=List.getElem?_eq_some_iff.1 hv;have hj':j<n:=by simp at hj;omega
 rw[List.getElem?_take_of_lt hj']at hv;rw[List.getElem?_drop]at hv;exact hv
theorem N.there(h:N w g t L)(o n:Nat)(hn:o+n<=L.length):w.there g o n:=by
 intro j hj;refine⟨?_,h.frozen _⟩;rw[h.cell (o+j),List.getElem?_eq_getElem Y];rfl
theorem N.setCells{w:World}{g:Nat}{t:TypeId}:∀(vs:List Value) (L:List Value) (o:Nat) {w:World},N w g t L->o+vs.length<=L.length->N (w.setCells g o vs) g t (L.take o++vs++L.drop (o+vs.length))
 |[],L,o,w,h,_=>by simpa[World.setCells]using h
 |v::vs,L,o,w,h,E=>by
  rw[World.setCells];have U:=N.setCells (w:=w) (g:=g) (t:=t) vs (L.set o v) (o+1) (h.set o v) aD;have hol:o<L.length:=by simp at E;omega
  have e:(L.set o v).take (o+1)++vs++(L.set o v).drop (o+1+vs.length)=L.take o++v::vs++L.drop (o+(v::vs).length):=by
   rw[List.take_succ_eq_append_getElem (by simpa using hol)];have a1:(L.set o v).take o=L.take o:=by rw[List.take_set];exact List.set_eq_of_length_le aB
   have a2:(L.set o v).drop (o+1+vs.length)=L.drop (o+1+vs.length):=List.drop_set_of_lt Y;rw[a1,a2];simp[Nat.add_assoc,Nat.add_comm 1]
  rw[e]at U;exact U
theorem yr:∀(vs:List Value) (w:World) (g o:Nat),(w.setCells g o vs).heap.size=w.heap.size
 |[],_,_,_=>rfl
 |v::vs,w,g,o=>by rw[World.setCells,yr vs];simp[World.setCell]
theorem xM:∀(vs:List Value) {a w:World} {g o:Nat},a.grownBy w (some g)->a.grownBy (w.setCells g o vs) (some g)
 |[],a,w,g,o,h=>h
 |v::vs,a,w,g,o,h=>by rw[World.setCells];exact xM vs (sd h o v)
theorem rF{o:Oper}{hb:Exit->Act->World->Prop}(p:Op)(_:o.op=p)(h:wpList P ops hb (o::rest) a w):wpList P ops hb (o::rest) a w:=h
theorem rG{hb:Exit->Act->World->Prop}(hgd:op.guard=none)(Q:TypeId)(x:Operand)(ho:op.op= .load Q x)
  (g o:Nat) (hx:a.eval x= .pointer (some ⟨g,o,none⟩)) {t:TypeId} {L:List Value} (Z:N w g t L) (n:Nat) (hn:o+n<=L.length) (d:TypeDesc)
  (hu:P.underlying Q=some d) (hd:d.isRow=true) (hi:(P.info? Q).map (·.size)=some n) (sub:List Value) (ajw:(L.drop o).take n=sub)
  (h:wpList P ops hb rest (a.put op.dst (.agg sub.toArray)) w):wpList P ops hb (op::rest) a w:=by
 have E:sub.length=n:=jP;refine wpList_load_mid hgd Q x ho g o hx sub d (ajw▸Z.range o n hn) hu hd aE h
theorem Ta{hb:Exit->Act->World->Prop}(hgd:op.guard=none)(Q:TypeId)(x y:Operand)(ho:op.op= .store Q x y)
  (g o:Nat) (hx:a.eval x= .pointer (some ⟨g,o,none⟩)) (sub:List Value) (hy:a.eval y= .agg sub.toArray) {t:TypeId} {L:List Value} (Z:N w g t L) (hn:o+sub.length<=L.length)
  (hi:(P.info? Q).map (·.size)=some sub.length) (U:∀v∈sub,v.oneCell'=true)
  (h:∀w',N w' g t (L.take o++sub++L.drop (o+sub.length))->w.grownBy w' (some g)->w'.heap.size=w.heap.size->wpList P ops hb rest (a.put op.dst undef) w'):wpList P ops hb (op::rest) a w:=by
 refine wpList_store_mid hgd Q x y ho g o sub.toArray hx hy aF aG (all_oneCell_toArray U) ?_;exact h _ (N.setCells (w:=w) sub L o Z hn) (xM sub (World.grownBy.refl _ _)) (yr sub w g o)
theorem ab{hb:Exit->Act->World->Prop}{x y:Operand}(ho:op.op= .store Q x y)(g o:Nat)(sub:List Value)(Z:N w g t L)(hn:o+sub.length<=L.length)(hi:(P.info? Q).map (·.size)=some sub.length)(U:∀v∈sub,v.oneCell'=true)(h:∀w',N w' g t (L.take o++sub++L.drop (o+sub.length))->w.grownBy w' (some g)->w'.heap.size=w.heap.size->wpList P ops hb rest (a.put op.dst undef) w')(hgd:op.guard=none:=by exact I)(hx:a.eval x= .pointer (some ⟨g,o,none⟩):=by exact I)(hy:a.eval y= .agg sub.toArray:=by exact I):wpList P ops hb (op::rest) a w:=Ta hgd Q x y ho g o hx sub hy Z hn hi U h
theorem N.tW(Z:N w g t L)(Q:TypeId)(o n:Nat)(hn:o+n<=L.length)(d:TypeDesc)(hu:P.underlying Q=some d)(hd:d.isRow=true)(hi:(P.info? Q).map (·.size)=some n)(sub:List Value)(ajw:(L.drop o).take n=sub):
  (Instr.loadAt Q (.pointer (some ⟨g,o,none⟩))).run P w= .ok (.agg sub.toArray) w:=by
 have E:sub.length=n:=jP;exact run_loadAt_mid w g o Q sub d (ajw▸Z.range o n hn) hu hd aE
theorem tx{fn:Func}{R:Ending->World->Prop}{p:Tmp}(hr:fn.results= #[.cell p Q])(g:Nat)(hp:a.tmps.getD p undef= .pointer (some ⟨g,0,none⟩))(Z:N w g t L)
  (d:TypeDesc) (hu:P.underlying Q=some d) (hd:d.isRow=true) (hi:(P.info? Q).map (·.size)=some L.length) (hdf:a.defers=[]) (h:R (.returned (.agg L.toArray)) w):bodyPost P fn R .ret a w:=by
 refine bodyPost_ret (v:=.agg L.toArray) (results_cell_row hr a.tmps w g t L.toArray (0,0) d hp Z hu ?_ aG) hdf h;cases d<;>first|rfl|cases hd
theorem tj{fn:Func}{R:Ending->World->Prop}{p u:Tmp}(hr:fn.results= #[.cell p Q,.tmp u])(g:Nat)(hp:a.tmps.getD p undef= .pointer (some ⟨g,0,none⟩))(Z:N w g t L)
  (d:TypeDesc) (hu:P.underlying Q=some d) (hd:d.isRow=true) (hi:(P.info? Q).map (·.size)=some L.length) (hdf:a.defers=[]) (v:Value) (hv:a.tmps.getD u undef=v) (h:R (.returned (.tuple #[.agg L.toArray,v])) w):bodyPost P fn R .ret a w:=by
 refine bodyPost_ret (v:=.tuple #[.agg L.toArray,v]) ?_ hdf h;rw[results_cell_tmp hr,hp];have E:=run_loadVar_row (P:=P) w g t Q L.toArray (0,0) d Z hu (by cases d<;>first|rfl|cases hd) aG;simp[asAddr,E,hv]
theorem Cl:∀(xs ys:List Int),xs.length=ys.length->((List.range xs.length).all fun i=>xs.getD i 0==ys.getD i 0)=(xs==ys)
 |[],[],_=>rfl
 |x::xs,y::ys,h=>by
  have ih:=Cl xs ys aw;rw[List.length_cons,List.range_succ_eq_map,List.all_cons,List.all_map];simp only[List.getD_cons_zero,Function.comp_def,List.getD_cons_succ,ih];simp[List.cons_beq_cons]
 |[],_::_,h=>by simp at h
 |_::_,[],h=>by simp at h
theorem zX(w:World)(d:Nat)(t e:TypeId)(n:Nat)(k:IntKind)(ht:P.underlying t=some (.array n e))(he:P.underlying e=some (.int k))(hsz:∀w,(sizeOf e).run P w= .ok 1 w)
  (xs ys:List Int) (hx:xs.length=n) (hy:ys.length=n):
  (Op.equalIn (d+2) t (.agg (xs.map (Value.int k)).toArray) (.agg (ys.map (Value.int k)).toArray)).run P w= .ok (xs==ys) w:=by
 rw[<-Cl xs ys (hx.trans hy.symm),hx,List.range_eq_range',Op.equalIn];simp only[Sem.run_bind,run_underlying ht,Result.andThen_ok,hsz,Std.Legacy.Range.forIn_eq_forIn_range',Std.Legacy.Range.size,Nat.sub_zero,Nat.add_sub_cancel,Nat.div_one];have E:∀i∈List.range' 0 n 1,i<n:=fun i hi=>by simpa using(List.mem_range'_1.1 hi).2
 generalize List.range' 0 n 1=l at E⊢;induction l with
 |nil=>simp
 |cons i l ih=>
  have hi:i<n:=E i ar;have px:(part e (xs.map (Value.int k)).toArray (i*1)).run P w= .ok (.int k (xs.getD i 0)) w:=by simp[part,isAgg,run_underlying he,List.getD,List.getElem?_eq_getElem (show i<xs.length by omega)]
  have py:(part e (ys.map (Value.int k)).toArray (i*1)).run P w= .ok (.int k (ys.getD i 0)) w:=by simp[part,isAgg,run_underlying he,List.getD,List.getElem?_eq_getElem (show i<ys.length by omega)]
  have pe:(Op.equalIn (d+1) e (.int k (xs.getD i 0)) (.int k (ys.getD i 0))).run P w= .ok (xs.getD i 0==ys.getD i 0) w:=by rw[run_equalIn_int w d e k k _ _ he]
  simp only[List.forIn_cons,Sem.run_bind,px,py,pe,Result.andThen_ok,List.all_cons];cases Z:(xs.getD i 0==ys.getD i 0)
  ·simp
  ·simp only[Bool.not_true,Bool.false_eq_true,if_false,Sem.run_pure,Result.andThen_ok,Bool.true_and];exact ih fun j hj=>E j (by simp[hj])
theorem YN(w:World):(sizeOf 3).run prog w= .ok 1 w:=by kernel_rfl
section
variable {P:Program} {ops:Array Oper} {C:World->Prop} {hb:Act->Prop} {rest:List Oper} {o:Oper} {a:Act}
theorem rK{v:Value}(hw:Region.wanted o (yielded ops a.tmps)=true)(hv:∀w,C w->(execOp a.eval o).run P w= .ok (.value v) w)(h:wpQuiet P ops C hb rest (a.put o.dst v)):wpQuiet P ops C hb (o::rest) a:=by
 unfold wpQuiet;rw[if_pos hw];refine⟨v,fun w hC=>?_,h⟩;unfold Oper.quietAt;rw[hv w hC];exact⟨I,I⟩
theorem tE{v:Value}(Q:TypeId)(x:Operand)(ho:o.op= .load Q x)(p:Addr)(hx:a.eval x= .pointer (some p))(hw:Region.wanted o (yielded ops a.tmps)=true)
  (hv:∀w,C w->(Instr.loadAt Q (.pointer (some p))).run P w= .ok v w) (h:wpQuiet P ops C hb rest (a.put o.dst v)):wpQuiet P ops C hb (o::rest) a:=by
 refine rK hw (fun w hC=>?_) h;exact pX
theorem tL{v:Value}(f:FuncId)(vs:Array Value)(hw:Region.wanted o (yielded ops a.tmps)=true)(hr:∀w,(execOp a.eval o).run P w= .ok (.enter f vs) w)
  (hc:∀w,C w->Calls P f vs w fun e w'=>e= .returned v/\C w') (h:wpQuiet P ops C hb rest (a.put o.dst v)):wpQuiet P ops C hb (o::rest) a:=by
 unfold wpQuiet;rw[if_pos hw];refine⟨v,fun w hC=>?_,h⟩;unfold Oper.quietAt;rw[hr w];exact⟨I,hc w hC⟩
theorem vp{id:Nat}{Q':Exit->Act->World->Prop}{l:List Oper}(hm:P.follows .mixedOrders=true)(hB:Region.lexB .any l.toArray=true)
  (h:wpQuiet P l.toArray (fun w'=>ao W w') (fun a'=>∀w',ao W w'->Q' .normal a' w') l a):(Code.region id l.toArray true).wp P Q' a W:=
 wp_region_quiet (C:=fun w'=>ao W w') hm hB ((Below.refl _ _).drew) aw
end
theorem rW.Bc{f:FuncId}{args:Array Value}{v:Value}(hw:ao W w)(h:Calls P f args w (rW v w)):Calls P f args w fun e w'=>e= .returned v/\ao W w':=
 h.mono fun _ _ ⟨he,Z⟩=>⟨he,rC hw hw.size Z⟩
theorem uQ.Bc{f:FuncId}{args:Array Value}{v:Value}(hw:ao W w)(h:Calls P f args w (uQ v w)):Calls P f args w fun e w'=>e= .returned v/\ao W w':=
 h.mono fun _ _ ⟨he,Z⟩=>⟨he,Z▸hw⟩
theorem rQ{p:Addr}{v:Value}{d:TypeDesc}(hu:P.underlying Q=some d)(hd:d.isRow=false)(hc:w.cell? p=some v):(Instr.loadAt Q (.pointer (some p))).run P w= .ok v w:=by
 have aB0:(isAgg Q).run P w= .ok false w:=by unfold isAgg;rw[Sem.run_bind,run_underlying hu w];cases d<;>simp_all
 simp only[Instr.loadAt,Instr.sureAddr,Sem.run_bind,Sem.run_pure,Result.andThen_ok,loadVar,aB0];simp[hc,go_sem]
set_option linter.unusedSimpArgs false
section
variable {P:Program} {ops:Array Oper} {S:World->Prop} {hb:Exit->Act->World->Prop} {o:Oper} {a:Act} {w:World} {aeh:Nat} {ae:Array Bool}
theorem Pw(i:Nat)(d:Option Tmp){v:Value}(hi:ops[i]?=some o)(hd:o.dst=d)(hs:Region.noSelect ops=true)(hf:Region.free .any ops ae i=true)(hr:(Region.ready .any ops ae).contains i=true)
  (hQ:∀c a w,hb (.panic c) (a.put d v) w->hb (.panic c) a w) (hw:Region.wanted o (yielded ops a.tmps)=true) (hv:∀w,S w->(execOp a.eval o).run P w= .ok (.value v) w) (hS:S w)
  (h:wpAnyH P .any ops hb S aeh (ae.setIfInBounds i true) (a.put d v) w):wpAnyH P .any ops hb S (aeh+1) ae a w:=
 by subst hd;exact wpAnyH_take hi hs hf hr hQ (.inl ⟨hw,hv⟩) hS h
theorem ah{S:World->Prop}{hb:Exit->Act->World->Prop}{o:Oper}{ae:Array Bool}(i:Nat)(d:Option Tmp){v:Value}(hi:ops[i]?=some o)(hd:o.dst=d)(O:(Region.noSelect ops&&Region.free .any ops ae i&&(Region.ready .any ops ae).contains i&&Region.wanted o (yielded ops a.tmps))=true)(hv:∀w,S w->(execOp a.eval o).run P w= .ok (.value v) w)(hS:S w)(h:wpAnyH P .any ops hb S aeh (ae.setIfInBounds i true) (a.put d v) w)(hQ:∀c a w,hb (.panic c) (a.put d v) w->hb (.panic c) a w:=by exact fun _ _ _ h=>h):wpAnyH P .any ops hb S (aeh+1) ae a w:=by
  simp only[Bool.and_eq_true]at O;exact Pw i d hi hd O.1.1.1 O.1.1.2 O.1.2 hQ O.2 hv hS h
theorem uW(i:Nat)(d:Option Tmp){v:Value}(Q:TypeId)(x:Operand)(p:Addr)(hi:ops[i]?=some o)(hd:o.dst=d)(ho:o.op= .load Q x)(hx:a.eval x= .pointer (some p))(hs:Region.noSelect ops=true)(hf:Region.free .any ops ae i=true)(hr:(Region.ready .any ops ae).contains i=true)
  (hQ:∀c a w,hb (.panic c) (a.put d v) w->hb (.panic c) a w) (hw:Region.wanted o (yielded ops a.tmps)=true) (hv:∀w,S w->(Instr.loadAt Q (.pointer (some p))).run P w= .ok v w) (hS:S w)
  (h:wpAnyH P .any ops hb S aeh (ae.setIfInBounds i true) (a.put d v) w):wpAnyH P .any ops hb S (aeh+1) ae a w:=by
 refine Pw i d hi hd hs hf hr hQ hw (fun w hC=>?_) hS h;exact pX
theorem su(i:Nat)(d:Option Tmp)(f:FuncId)(vs:Array Value)(hr:Region.ready .any ops ae=[i])(hi:ops[i]?=some o)(hd:o.dst=d)(hw:Region.wanted o (yielded ops a.tmps)=true)(he:(execOp a.eval o).run P w= .ok (.enter f vs) w)
  {R:Ending->World->Prop} (hc:Calls P f vs w R) (h:∀e w',R e w'->∃v,e= .returned v/\S w'/\wpAnyH P .any ops hb S aeh (ae.setIfInBounds i true) (a.put d v) w'):wpAnyH P .any ops hb S (aeh+1) ae a w:=by
 subst hd;refine wpAnyH_all hr ar fun j hj=>?_
 rw[List.mem_singleton]at hj;subst hj;unfold wpOp;simp only[hi,hw,if_true];left;unfold Oper.wp;rw[he];simp only[Oper.upon];refine hc.mono fun e w' hR=>?_
 obtain⟨v,rfl,hS,h'⟩:=h e w' hR;exact⟨hS,h'⟩
theorem Ew(i:Nat)(d:Option Tmp)(hr:Region.ready .any ops ae=[i])(hi:ops[i]?=some o)(hd:o.dst=d)(hw:Region.wanted o (yielded ops a.tmps)=true){v:Value}(he:(execOp a.eval o).run P w= .ok (.value v) w')(hS:S w')
  (h:wpAnyH P .any ops hb S aeh (ae.setIfInBounds i true) (a.put d v) w'):wpAnyH P .any ops hb S (aeh+1) ae a w:=by
 exact oT
theorem Wj(i:Nat)(d:Option Tmp)(hr:Region.ready .any ops ae=[i])(hi:ops[i]?=some o)(hd:o.dst=d)(hw:Region.wanted o (yielded ops a.tmps)=true)(he:(execOp a.eval o).run P w= .ok .skip w')(hS:S w')
  (h:wpAnyH P .any ops hb S aeh (ae.setIfInBounds i true) (a.put d undef) w'):wpAnyH P .any ops hb S (aeh+1) ae a w:=by
 exact oT
end
theorem U8{o:Nat}{sub:List Value}(Z:N w g t L)(hn:o+sub.length<=L.length)(hi:(P.info? Q).map (·.size)=some sub.length)(U:∀v∈sub,v.oneCell'=true):
  (Instr.storeAt Q (.pointer (some ⟨g,o,none⟩)) (.agg sub.toArray)).run P w= .ok () (w.setCells g o sub):=
 run_storeAt_mid w g o Q sub.toArray aF aG (all_oneCell_toArray U)
theorem wL{S:World->Prop}{hb:Exit->Act->World->Prop}{o:Oper}{ae:Array Bool}(i:Nat)(d:Option Tmp)(Q:TypeId)(x y:Operand)(hr:Region.ready .any ops ae=[i])(hi:ops[i]?=some o)(hd:o.dst=d)(ho:o.op= .store Q x y)(hw:Region.wanted o (yielded ops a.tmps)=true)
  (g off:Nat) (hx:a.eval x= .pointer (some ⟨g,off,none⟩)) (sub:List Value) (hy:a.eval y= .agg sub.toArray) {t:TypeId} {L:List Value} (Z:N w g t L) (hn:off+sub.length<=L.length) (anB:(P.info? Q).map (·.size)=some sub.length) (U:∀v∈sub,v.oneCell'=true)
  (h:∀w',N w' g t (L.take off++sub++L.drop (off+sub.length))->w.grownBy w' (some g)->w'.heap.size=w.heap.size->S w'/\wpAnyH P .any ops hb S aeh (ae.setIfInBounds i true) (a.put d undef) w'):wpAnyH P .any ops hb S (aeh+1) ae a w:=by
 obtain⟨F,h3⟩:=h _ (N.setCells (w:=w) sub L off Z hn) (xM sub (World.grownBy.refl _ _)) (yr sub w g off);refine Wj i d hr hi hd hw ?_ F h3;have hst:=U8 (P:=P) Z hn anB U;exact oN
theorem U9{o:Nat}{v:Value}(Z:N w g t L)(hn:o<L.length)(hi:(P.info? Q).map (·.size)=some 1)(U:v.oneCell'=true)(hv:v.cells= #[v]):
  (Instr.storeAt Q (.pointer (some ⟨g,o,none⟩)) v).run P w= .ok () (w.setCell ⟨g,o,none⟩ v):=by
 obtain⟨i,hi1,hi2⟩:=Option.map_eq_some_iff.1 hi;have hc:w.cell? ⟨g,o,none⟩=some L[o]:=(Z.cell o).trans (List.getElem?_eq_getElem hn);have hf:=Z.frozen o;have hst:(store ⟨g,o,none⟩ v).run P w= .ok () (w.setCell ⟨g,o,none⟩ v):=by rw[run_store P w _ v _ U,hc];simp[hf]
 have ahN:(⟨g,o,none⟩:Addr).add 0=⟨g,o,none⟩:=gG;simp[Instr.storeAt,Instr.sureAddr,storeVar,sizeOf,typeInfo,hi1,hi2,hv,storeCells,ahN,hst]
theorem DO{hb:Exit->Act->World->Prop}(hgd:op.guard=none)(Q:TypeId)(x y:Operand)(ho:op.op= .store Q x y)
  (g o:Nat) (hx:a.eval x= .pointer (some ⟨g,o,none⟩)) (v:Value) (hy:a.eval y=v) {t:TypeId} {L:List Value} (Z:N w g t L) (hn:o<L.length)
  (hi:(P.info? Q).map (·.size)=some 1) (U:v.oneCell'=true) (hv:v.cells= #[v])
  (h:∀w',N w' g t (L.set o v)->w.grownBy w' (some g)->w'.heap.size=w.heap.size->wpList P ops hb rest (a.put op.dst undef) w'):wpList P ops hb (op::rest) a w:=by
 refine wpList_plain hgd fun al hK=>?_
 have hst:=U9 (P:=P) Z hn hi U hv;unfold Oper.wp execOp;simp only[ho,hx,hy,Sem.run_bind,hst,Result.andThen_ok,Sem.run_pure];exact hK _ _ (h _ (Z.set o v) (sd (World.grownBy.refl _ _) o v) aH)
theorem af{hb:Exit->Act->World->Prop}{x y:Operand}(ho:op.op= .store Q x y)(g o:Nat)(v:Value)(Z:N w g t L)(hn:o<L.length)(hi:(P.info? Q).map (·.size)=some 1)(h:∀w',N w' g t (L.set o v)->w.grownBy w' (some g)->w'.heap.size=w.heap.size->wpList P ops hb rest (a.put op.dst undef) w')(hgd:op.guard=none:=by exact I)(hx:a.eval x= .pointer (some ⟨g,o,none⟩):=by exact I)(hy:a.eval y=v:=by exact I)(U:v.oneCell'=true:=by exact I)(hv:v.cells= #[v]:=by exact I):wpList P ops hb (op::rest) a w:=DO hgd Q x y ho g o hx v hy Z hn hi U hv h
theorem sy{o:Oper}{hb:Exit->Act->World->Prop}(hgd:o.guard=none)(t:TypeId)(parts:Array (Nat×Operand))(ho:o.op= .build t parts)(uY:Array (Nat×Value))(hv:parts.map (fun(i,x)=>(i,a.eval x))=uY)
  {v:Value} (hr:(Instr.build t uY).run P w= .ok v w) (h:wpList P ops hb rest (a.put o.dst v) w):wpList P ops hb (o::rest) a w:=by
 refine wpList_plain hgd fun al hK=>?_
 unfold Oper.wp execOp;simp only[ho,hv,Sem.run_bind,hr,Result.andThen_ok,Sem.run_pure];exact hK _ _ h
theorem wS:(prog.info? 24).map (·.size)=some 1:=by kernel_rfl
theorem tG:(prog.info? 3).map (·.size)=some 1:=by kernel_rfl
theorem YO:(prog.info? 9).map (·.size)=some 1:=by kernel_rfl
section
variable {P:Program} {ops:Array Oper} {S:World->Prop} {hb:Exit->Act->World->Prop} {al:Act->World->Prop} {o:Oper} {a:Act} {w:World} {aeh:Nat} {ae:Array Bool}
theorem rV(i:Nat)(hr:Region.ready .any ops ae=[i])(h:wpOp P ops hb i (fun a' w'=>S w'/\wpAnyH P .any ops hb S aeh (ae.setIfInBounds i true) a' w') a w):wpAnyH P .any ops hb S (aeh+1) ae a w:=by
 refine wpAnyH_all hr ar fun j hj=>?_
 rw[List.mem_singleton]at hj;subst hj;exact h
theorem uZ(i j:Nat)(hr:Region.ready .any ops ae=[i,j])(U:wpOp P ops hb i (fun a' w'=>S w'/\wpAnyH P .any ops hb S aeh (ae.setIfInBounds i true) a' w') a w)(F:wpOp P ops hb j (fun a' w'=>S w'/\wpAnyH P .any ops hb S aeh (ae.setIfInBounds j true) a' w') a w):wpAnyH P .any ops hb S (aeh+1) ae a w:=by
 refine wpAnyH_all hr ar fun k O=>?_
 simp only[List.mem_cons,List.not_mem_nil,or_false]at O;rcases O with rfl|rfl
 ·exact U
 ·exact F
theorem sx(i:Nat)(d:Option Tmp)(hi:ops[i]?=some o)(hd:o.dst=d)(hw:Region.wanted o (yielded ops a.tmps)=true){v:Value}(he:(execOp a.eval o).run P w= .ok (.value v) w')(h:al (a.put d v) w'):wpOp P ops hb i al a w:=by
 exact qm
theorem Px(i:Nat)(d:Option Tmp)(hi:ops[i]?=some o)(hd:o.dst=d)(hw:Region.wanted o (yielded ops a.tmps)=true)(he:(execOp a.eval o).run P w= .ok .skip w')(h:al (a.put d undef) w'):wpOp P ops hb i al a w:=by
 exact qm
theorem sZ(i:Nat)(d:Option Tmp)(f:FuncId)(vs:Array Value)(hi:ops[i]?=some o)(hd:o.dst=d)(hw:Region.wanted o (yielded ops a.tmps)=true)(he:(execOp a.eval o).run P w= .ok (.enter f vs) w)
  {R:Ending->World->Prop} (hc:Calls P f vs w R) (h:∀e w',R e w'->∃v,e= .returned v/\al (a.put d v) w'):wpOp P ops hb i al a w:=by
 subst hd;unfold wpOp;simp only[hi,hw,if_true];left;unfold Oper.wp;rw[he];simp only[Oper.upon];refine hc.mono fun e w' hR=>?_
 obtain⟨v,rfl,h'⟩:=h e w' hR;exact h'
theorem uj(i:Nat)(d:Option Tmp){v:Value}(Q:TypeId)(x:Operand)(p:Addr)(hi:ops[i]?=some o)(hd:o.dst=d)(ho:o.op= .load Q x)(hx:a.eval x= .pointer (some p))(hw:Region.wanted o (yielded ops a.tmps)=true)
  (hv:(Instr.loadAt Q (.pointer (some p))).run P w= .ok v w) (h:al (a.put d v) w):wpOp P ops hb i al a w:=by
 refine sx i d hi hd hw ?_ h;exact qf
theorem ur(i:Nat)(Q:TypeId)(x y:Operand)(hi:ops[i]?=some o)(hd:o.dst=none)(ho:o.op= .store Q x y)(hw:Region.wanted o (yielded ops a.tmps)=true)
  (g off:Nat) (hx:a.eval x= .pointer (some ⟨g,off,none⟩)) (v:Value) (hy:a.eval y=v) {t:TypeId} {L:List Value} (Z:N w g t L) (hn:off<L.length)
  (anB:(P.info? Q).map (·.size)=some 1) (U:v.oneCell'=true) (hv:v.cells= #[v])
  (h:∀w',N w' g t (L.set off v)->w.grownBy w' (some g)->w'.heap.size=w.heap.size->al (a.put none undef) w'):wpOp P ops hb i al a w:=by
 have hst:=U9 (P:=P) Z hn anB U hv;refine Px i none hi hd hw (w':=w.setCell ⟨g,off,none⟩ v) ?_ (h _ (Z.set off v) (sd (World.grownBy.refl _ _) off v) aH);exact oN
end
def aes(n:Nat)(fz:Nat×Nat):Prop:=fz.2=0\/n<=fz.1
def yx(w:World)(Hh:Nat)(v:Value)(s:List UInt8):Prop:=
 (v= .slice none 0 0/\s=[])\/∃(g cap:Nat) (cur:Array Value) (fz:Nat×Nat),v= .slice (some ⟨g,0,none⟩) s.length cap/\Hh<=g/\w.heap[g]?=some (.cells cur 5 fz)/\aes cur.size fz/\s.length<=cap/\cap<=maxLen/\cur.size=cap/\cur.toList.take s.length=sN s
theorem yx.form{v:Value}(h:yx w Hh v s):∃A c,v= .slice A s.length c:=by
 rcases h with⟨rfl,rfl⟩|⟨g,cap,cur,fz,rfl,_⟩
 ·exact⟨none,0,I⟩
 ·exact⟨_,_,I⟩
theorem yx.base{v:Value}(h:yx w Hh v s):∀k,v.ownBlock=some k->Hh<=k:=by
 intro k O;rcases h with⟨rfl,rfl⟩|⟨g,cap,cur,fz,rfl,hB,_⟩
 ·simp[Value.ownBlock]at O
 ·have:g=k:=jo;omega
theorem yx.ne{v:Value}{cs:Array Value}{fz:Nat×Nat}(h:yx w Hh v s)(Z:w.heap[g]?=some (.cells cs t fz))(ht:t≠5):some g≠v.ownBlock:=by
 rcases h with⟨rfl,rfl⟩|⟨g',cap,cur,fz',rfl,hB,hh,_⟩
 ·simp[Value.ownBlock]
 ·intro he;have:g=g':=jp;subst this;rw[Z]at hh;injection hh with hh;injection hh with _ F;exact ht F
theorem yx.kept{v:Value}{row:Option Nat}(h:yx w Hh v s)(hg:w.grownBy w' row)(hl:v.ownBlock=none\/v.ownBlock≠row):yx w' Hh v s:=by
 rcases h with hn|⟨g,cap,cur,fz,rfl,hB,hh,rest⟩
 ·exact .inl hn
 ·refine .inr ⟨g,cap,cur,fz,I,hB,?_,rest⟩;rw[hg.block g (Array.getElem?_eq_some_iff.1 hh).1 (by simpa[Value.ownBlock]using hl)];exact hh
theorem yx.G{v:Value}(h:yx w Hh v s)(Z:ao w w'):yx w' Hh v s:=by
 refine h.kept (r5 Z none) ?_;cases hv:v.ownBlock with
 |none=>exact .inl I
 |some g=>exact .inr ar
theorem yR(P:Program)(g o:Nat)(t:TypeId)(fz:Nat×Nat):∀(vs:List Value) (i:Nat) (cur:Array Value) (w:World),w.heap[g]?=some (.cells cur t fz)->aes cur.size fz->o+i+vs.length<=cur.size->(∀v∈vs,v.oneCell'=true)->
  (storeCells ⟨g,o,none⟩ vs i).run P w= .ok () (w.setRow g (cur.toList.take (o+i)++vs++cur.toList.drop (o+i+vs.length)).toArray)
 |[],i,cur,w,hg,_,_,_=>by
  simp only[storeCells,List.append_nil,List.length_nil,Nat.add_zero,List.take_append_drop,Array.toArray_toList];rw[setRow_self w g cur t fz hg];rfl
 |v::rest,i,cur,w,hg,hfz,E,U=>by
  have hi:o+i<cur.size:=by simp at E;omega
  have ahN:(⟨g,o,none⟩:Addr).add i=⟨g,o+i,none⟩:=gG;have afQ:w.cell? ⟨g,o+i,none⟩=some cur[o+i]:=by simp[World.cell?,hg,hi]
  have aBA:w.frozen? ⟨g,o+i,none⟩=false:=by obtain⟨lo,hi'⟩:=fz;simp only[World.frozen?,hg,Bool.and_eq_false_iff,decide_eq_false_iff_not];simp only[aes]at hfz;omega
  have hst:(store ((⟨g,o,none⟩:Addr).add i) v).run P w= .ok () (w.setRow g (cur.setIfInBounds (o+i) v)):=by rw[ahN,run_store P w _ v _ (U v ar),afQ];simp[aBA,setCell_eq_setRow w g (o+i) cur t fz v hg]
  have ih:=yR P g o t fz rest (i+1) (cur.setIfInBounds (o+i) v) (w.setRow g (cur.setIfInBounds (o+i) v)) (setRow_heap w g cur _ t _ hg) (by simpa using hfz) aD (fun x hx=>U x aI);simp only[storeCells,Sem.run_bind,hst,Result.andThen_ok,ih,setRow_setRow];congr 3;have e:=list_seg_step cur.toList (o+i) v rest aD;simpa[Array.toList_setIfInBounds,Nat.add_assoc]using e
theorem IE(w:World)(Q:TypeId)(Hh:Nat)(v:Value)(s x:List UInt8)(ad1:yx w Hh v s)(hB:Hh<=w.heap.size)(E:s.length+x.length<=140737488355328):
  ∃v' w',(Builtin.append_ #[101,9] Q #[v,.string (bs x)]).run prog w= .ok v' w'/\yx w' Hh v' (s++x)/\w.grownBy w' v.ownBlock:=by
 obtain⟨i,hi,hz,adR,hby⟩:=info_parts xf;rcases ad1 with⟨rfl,rfl⟩|⟨g,cap,cur,fz,rfl,hbg,hg,hfz,hnc,hcm,hcs,aqa⟩
 ·
  obtain⟨v',w',U,F,h3,h4⟩:=Lib.run_append_own_string (P:=prog) w Hh 101 9 Q 5 i underlying101 underlying9 hi hz adR hby (.slice none 0 0) 0 [] (World.ownsRow_nil _ _ _ _) (bs x) (by rw[vB];simp only[maxLen];simp at E;omega) (by rw[vB];simpa using E) hB;refine⟨v',w',U,?_,h3⟩;rw[vB,zE,Nat.zero_add,List.nil_append]at F;rcases F.2 with⟨rfl,h0⟩|⟨g,cap,cur,hv,Z,hh,hc,hm,hs,ht⟩
  ·have:x=[]:=List.length_eq_zero_iff.1 h0;subst this;exact .inl ⟨I,I⟩
  ·exact .inr ⟨g,cap,cur,(0,0),by simpa using hv,Z,hh,.inl I,by simpa using hc,hm,by simpa using hs,by simpa using ht⟩
 ·
  have hxl:(sN s).length=s.length:=sI s;have hlen:(sN s++sN x).length=s.length+x.length:=by rw[List.length_append,sI,sI]
  by_cases ann:s.length+x.length<=cap
  ·
   have hf:=Lib.run_firstCells_string (P:=prog) w 1 (bs x);have hst:=yR prog g s.length 5 fz (sN x) 0 cur w hg hfz aJ (fun v hv=>by obtain⟨b,_,rfl⟩:=List.mem_map.1 hv;rfl);rw[zE,vB]at hf;simp only[Nat.add_zero,sI]at hst;have hr:(Builtin.append_ #[101,9] Q #[.slice (some ⟨g,0,none⟩) s.length cap,.string (bs x)]).run prog w=
     .ok (.slice (some ⟨g,0,none⟩) (s.length+x.length) cap) (w.setRow g (cur.toList.take s.length++sN x++cur.toList.drop (s.length+x.length)).toArray):=by
    simp[Builtin.append_,run_underlying underlying101,run_underlying underlying9,sizeOf,typeInfo,hi,adR,Builtin.lenOf,ann,hf,Addr.add_lit,hst,vB]
   refine⟨_,_,hr,.inr ⟨g,cap,_,fz,by rw[List.length_append],hbg,setRow_heap w g cur _ _ _ hg,?_,by rw[List.length_append];exact ann,hcm,?_,?_⟩,⟨I,I,I,ar,fun k _ O=>setRow_other w g k _ (fun e=>O (by simp[Value.ownBlock,e]))⟩⟩
   ·
    have:(cur.toList.take s.length++sN x++cur.toList.drop (s.length+x.length)).toArray.size=cur.size:=by exact pi
    rw[this];exact hfz
   ·exact pi
   ·rw[aqa,xL,List.length_append,<-hlen];exact List.take_left
  ·
   have holds:∀j u,(sN s)[j]?=some u->w.cell? ((⟨g,0,none⟩:Addr).add j)=some u:=by
    intro j u hu;have ahN:(⟨g,0,none⟩:Addr).add j=⟨g,j,none⟩:=gG;rw[ahN,cell_of_row w g j cur _ fz hg];rw[<-aqa,List.getElem?_take]at hu;split at hu
    ·simpa using hu
    ·cases hu
   have hr:=Lib.run_append_grow_string (P:=prog) w 101 9 Q 5 i (.int .u8 0) underlying101 underlying9 hi hz ⟨g,0,none⟩ s.length cap (sN s) (by rw[adR,sI,Nat.mul_one]) holds (bs x) aK aK (by rw[hby,vB];exact growslice_fits Y Y);rw[vB,zE]at hr;have hge:=grownCap_ge w (s.length+x.length) cap 5;have aBN:grownCap w (s.length+x.length) cap 5<=maxLen:=grownCap_le_maxLen w (s.length+x.length) cap _ aL;refine⟨_,_,hr,.inr ⟨w.heap.size,_,_,(0,0),by rw[List.length_append],hB,heap_alloc_new w.drew _,.inl I,by rw[List.length_append];exact hge,aBN,?_,?_⟩,⟨I,I,I,ar,fun k O _=>Below.heap_alloc w.drew _ k O⟩⟩
   ·have hz1:(Value.int IntKind.u8 0).cells.size=1:=rfl;simp only[Array.size_append,List.size_toArray,size_zeroCells,hz1,sI];omega
   ·simp only[Array.toList_append,List.append_assoc];rw[<-List.append_assoc,xL,List.length_append,<-hlen];exact List.take_left
theorem ab2(w:World)(s:List UInt8)(E:s.length<=maxLen):
  ∃A c w',(convert 9 101 (.string (bs s))).run prog w= .ok (.slice A s.length c) w'/\yx w' w.heap.size (.slice A s.length c) s/\ao w w':=by
 have hr:=run_bytes_of_string (P:=prog) w 9 101 5 (bs s) underlying9 underlying101 underlying5;rw[vB]at hr;have hge:=grownCap_ge w s.length 0 5;have hcm:=grownCap_le_maxLen w s.length 0 5 E;generalize grownCap w s.length 0 5=cap at*;have hbr:(bytesRow (bs s) cap).size=cap:=by simp[bytesRow,bs,ByteArray.size];omega
 refine⟨_,_,_,hr,.inr ⟨w.heap.size,cap,_,_,I,Nat.le_refl _,heap_alloc_new w.drew _,.inr ar,hge,hcm,hbr,?_⟩,((Below.refl _ _).drew).alloc (Nat.le_refl _) _⟩;have e1:(bytesRow (bs s) cap).toList=sN s++List.replicate (cap-s.length) (.int .u8 0):=by simp[bytesRow,bs,sN,ByteArray.size]
 rw[e1];exact List.take_left' (sI s)
theorem yx.str{v:Value}(h:yx w Hh v s):(convert 101 9 v).run prog w= .ok (.string (bs s)) w:=by
 rcases h with⟨rfl,rfl⟩|⟨g,cap,cur,fz,rfl,hB,hh,_,_,_,_,ht⟩
 ·kernel_rfl
 ·
  refine run_convert_bytes_back w 101 9 5 ⟨g,0,none⟩ cap s underlying101 underlying5 underlying9 ?_;intro j hj;have ahN:(⟨g,0,none⟩:Addr).add j=⟨g,j,none⟩:=gG;rw[ahN,cell_of_row w g j cur _ fz hh];have e:cur.toList[j]?=(cur.toList.take s.length)[j]?:=by rw[List.getElem?_take_of_lt hj]
  rw[show cur[j]?=cur.toList[j]? by simp,e,ht,zW s j hj]
theorem Ex(w:World){o:Oper}{hb:Exit->Act->World->Prop}(hgd:o.guard=none)(sl x:Operand)
  (ho:o.op= .call {callee:=.builtin .append,args:= #[sl,x],argTypes:= #[101,9]})
  (Hh:Nat) (v:Value) (q s:List UInt8) (hs:a.eval sl=v) (ad1:yx w Hh v q) (hB:Hh<=w.heap.size) (hx:a.eval x= .string (bs s)) (E:q.length+s.length<=140737488355328)
  (h:∀A c w',yx w' Hh (.slice A (q++s).length c) (q++s)->w.grownBy w' v.ownBlock->wpList prog ops hb rest (a.put o.dst (.slice A (q++s).length c)) w'):
  wpList prog ops hb (o::rest) a w:=by
 refine wpList_plain hgd fun al hK=>?_
 obtain⟨v',w',hr,F,h3⟩:=IE w o.type Hh v q s ad1 hB E;obtain⟨A,c,rfl⟩:=F.form;unfold Oper.wp execOp;simp only[ho,resolve,invoke,builtin,Sem.run_bind,Sem.run_pure,Result.andThen_ok,List.map_toArray,List.map_cons,List.map_nil,hs,hx,hr];exact hK _ _ (h A c w' F h3)
end Go.Proofs.YtakkipnmpmobbaaGreat
