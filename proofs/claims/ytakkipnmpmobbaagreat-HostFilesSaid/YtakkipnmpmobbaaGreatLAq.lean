/-
  Layer 5,plainly:which name a text is.
-/
import Derived.Test.YtakkipnmpmobbaaGreatIC2q
namespace Go.Proofs.YtakkipnmpmobbaaGreat
open _root_.Go.Proofs.Tryz
set_option maxHeartbeats 8000000
open Go.RowKit
set_option maxRecDepth 100000
set_option linter.unusedVariables false
set_option linter.unusedSimpArgs false
variable {t:List UInt8} {f Hh:Nat} {w w':World} {v:Value} {cs:List Value}
def wk(c:UInt8):Bool:=decide (48<=c.toNat)&&decide (c.toNat<=57)
def DD(c d e:UInt8):Nat:=100*(c.toNat-48)+10*(d.toNat-48)+(e.toNat-48)
def Fj:List UInt8->Option (UInt8×Nat)
 |[]=>none
 |c::t=>if wk c=false then some (c,1)else match t with
  |d::e::_=>if(wk d&&wk e)=true then(if 255<DD c d e then none else some (UInt8.ofNat (DD c d e),3))else none
  |_=>none
theorem Ir{s:List UInt8}{c:UInt8}{k:Nat}(h:Fj s=some (c,k)):1<=k/\k<=s.length:=by
 match s with
 |[]=>simp[Fj]at h
 |[a]=>exact qG
 |[a,b]=>exact qG
 |a::b::d::t=>
  simp only[Fj]at h;split at h
  ·simp at h;simp[<-h.2]
  ·
   split at h
   ·
    split at h
    ·simp at h
    ·simp at h;simp[<-h.2]
   ·simp at h
def yj(s b:List UInt8):Except Int (List UInt8×List UInt8):=
 match s with
 |[]=>.ok (b,[])
 |c::t=>if c=46 then .ok (b,c::t)else if c=92 then(match h:Fj t with
   |none=>.error 5
   |some (e,k)=>yj (t.drop k) (b++[e]))else yj t (b++[c])
termination_by s.length
decreasing_by all_goals(simp only[List.length_drop,List.length_cons];omega)
theorem BO(b:List UInt8):yj [] b= .ok (b,[]):=by rw[yj]
theorem Dp(t b:List UInt8):yj (46::t) b= .ok (b,46::t):=by rw[yj,if_pos I]
theorem Is{b:List UInt8}(h:Fj t=none):yj (92::t) b= .error 5:=by
 rw[yj,if_neg K,if_pos I];split
 ·rfl
 ·rename_i e k F;rw[h]at F;cases F
theorem Dq{b:List UInt8}{e:UInt8}{k:Nat}(h:Fj t=some (e,k)):yj (92::t) b=yj (t.drop k) (b++[e]):=by
 rw[yj,if_neg K,if_pos I];split
 ·rename_i F;rw[h]at F;cases F
 ·rename_i e2 k2 F;rw[h]at F;cases F;rfl
theorem Fk{c:UInt8}(t b:List UInt8)(U:c≠46)(F:c≠92):yj (c::t) b=yj t (b++[c]):=by rw[yj,if_neg U,if_neg F]
theorem afe:∀(m:Nat) (s b b' r:List UInt8),s.length<=m->yj s b= .ok (b',r)->∃n,n<=s.length/\r=s.drop n/\(r=[]\/∃t,r=46::t)/\b'.length<=b.length+n/\∃x,b'=b++x:=by
 intro m;induction m with
 |zero=>intro s b b' r hs h;obtain rfl:s=[]:=gE;exact qI
 |succ m ih=>
  intro s b b' r hs h;cases s with
  |nil=>exact qI
  |cons c t=>
   simp only[List.length_cons]at hs;by_cases U:c=46
   ·subst U;rw[Dp]at h;cases h;exact⟨0,ar,I,.inr ⟨t,I⟩,Y,[],ar⟩
   by_cases F:c=92
   ·
    subst F;cases he:Fj t with
    |none=>rw[Is he]at h;cases h
    |some x=>obtain⟨e,k⟩:=x;obtain⟨k1,k2⟩:=Ir he;rw[Dq he]at h;obtain⟨n,a1,a2,a3,a4,y,a5⟩:=ih _ _ _ _ aB h;simp only[List.length_drop,List.length_append,List.length_singleton]at a1 a4;exact⟨1+k+n,aB,by rw[a2,List.drop_drop,show 1+k+n=(k+n)+1 by omega,List.drop_succ_cons],a3,Y,[e]++y,by rw[a5,List.append_assoc]⟩
   ·rw[Fk t b U F]at h;obtain⟨n,a1,a2,a3,a4,y,a5⟩:=ih _ _ _ _ Y h;simp only[List.length_append,List.length_singleton]at a4;exact⟨n+1,aB,by rw[a2,List.drop_succ_cons],a3,Y,[c]++y,by rw[a5,List.append_assoc]⟩
def xx(x:Except Int (List UInt8×List UInt8)):Except Int (List UInt8×List UInt8):=match x with
 | .error e=>.error e
 | .ok (b,r)=>if b=[]then .error 8 else if 63<b.length then .error 7 else .ok (b,r)
def yP:Nat->List UInt8->List (List UInt8)->Except Int (List (List UInt8)×Bool)
 |0,_,n=>.ok (n,false)
 |f+1,s,n=>match xx (yj s [])with
  | .error e=>.error e
  | .ok (b,r)=>if r.length<=1 then .ok (n++[b],r.length==1)else yP f (r.drop 1) (n++[b])
def parse(s:List UInt8):Except Int (List (List UInt8)×Bool):=
 if s=[46]then .ok ([],true)else if s=[]then .error 8 else match yP s.length s []with
  | .error e=>.error e
  | .ok (n,d)=>if 255<1+sq n then .error 3 else .ok (n,d)
theorem J9{s:List UInt8}{n:List (List UInt8)}{e:Int}(h:xx (yj s [])= .error e):yP (f+1) s n= .error e:=by rw[yP,h]
theorem CX{s b r:List UInt8}{n:List (List UInt8)}(h:xx (yj s [])= .ok (b,r))(hr:r.length<=1):yP (f+1) s n= .ok (n++[b],r.length==1):=by rw[yP,h];simp only;rw[if_pos hr]
theorem Dr{s b r:List UInt8}{n:List (List UInt8)}(h:xx (yj s [])= .ok (b,r))(hr:¬r.length<=1):yP (f+1) s n=yP f (r.drop 1) (n++[b]):=by rw[yP,h];simp only;rw[if_neg hr]
theorem V0{s b r:List UInt8}(h:xx (yj s [])= .ok (b,r)):b≠[]/\b.length<=63/\yj s []= .ok (b,r):=by
 cases E:yj s []with
 |error e=>rw[E]at h;cases h
 |ok x=>
  obtain⟨b',r'⟩:=x;rw[E]at h;simp only[xx]at h;split at h
  ·cases h
  ·
   split at h
   ·cases h
   ·cases h;rename_i U F;exact⟨U,Y,rfl⟩
theorem adD:∀(f:Nat) (s:List UInt8) (n n':List (List UInt8)) (d:Bool),(∀l∈n,l≠[]/\l.length<=63)->yP f s n= .ok (n',d)->(∀l∈n',l≠[]/\l.length<=63)/\(0<f->n'≠[])/\n.length<=n'.length:=by
 intro f;induction f with
 |zero=>intro s n n' d hn h;cases h;exact⟨hn,fun h=>absurd h Y,Nat.le_refl _⟩
 |succ f ih=>
  intro s n n' d hn h;cases ho:xx (yj s [])with
  |error e=>rw[J9 ho]at h;cases h
  |ok x=>
   obtain⟨b,r⟩:=x;obtain⟨U,F,_⟩:=V0 ho;have hn2:∀l∈n++[b],l≠[]/\l.length<=63:=by
    intro l E;rcases List.mem_append.1 E with E|E
    ·exact hn l E
    ·rw[List.mem_singleton.1 E];exact⟨U,F⟩
   by_cases hr:r.length<=1
   ·rw[CX ho hr]at h;cases h;exact⟨hn2,fun _=>by simp,ar⟩
   ·rw[Dr ho hr]at h;obtain⟨a1,a2,a3⟩:=ih _ _ _ _ hn2 h;refine⟨a1,fun _ hc=>?_,by simp at a3;omega⟩;subst hc;simp at a3
theorem Sc{s:List UInt8}{n:List (List UInt8)}{d:Bool}(h:parse s= .ok (n,d)):rR n=0/\(∀l∈n,l≠[]/\l.length<=63)/\1+sq n<=255/\(n=[]->s=[46]):=by
 unfold parse at h;split at h
 ·rename_i hs;cases h;exact⟨K,ar,K,fun _=>hs⟩
 split at h
 ·cases h
 rename_i U F;cases hp:yP s.length s []with
 |error e=>rw[hp]at h;cases h
 |ok x=>
  obtain⟨n',d'⟩:=x;rw[hp]at h;simp only at h;split at h
  ·cases h
  rename_i h3;cases h;obtain⟨a1,a2,_⟩:=adD _ _ _ _ _ ar hp;refine⟨?_,a1,Y,fun hn=>absurd hn (a2 (by cases s with|nil=>exact absurd rfl F|cons=>simp))⟩;unfold rR;rw[if_neg,if_neg h3];intro hc;obtain⟨l,E,Z⟩:=List.any_eq_true.1 hc;obtain⟨b1,b2⟩:=a1 l E;simp only[zV,Bool.or_eq_true,decide_eq_true_eq,List.isEmpty_iff,beq_iff_eq]at Z;rcases Z with Z|Z
  ·exact b1 (List.length_eq_zero_iff.1 Y)
  ·omega
theorem Gs(c:UInt8)(w:World):Calls prog 101 #[.int .u8 (c.toNat:Int)] w (uQ (.bool (wk c)) w):=by
 have hc:=c.toNat_lt;unfold wk;generalize c.toNat=n at*;by_cases U:48<=n
 ·
  have h1':(48:Int)<=n:=Y;by_cases F:n<=57
  ·have h2':(n:Int)<=57:=Y;rw[decide_eq_true U,decide_eq_true F];clear U F;go_enter func101,ntmps101;exact mV
  ·have h2':¬(n:Int)<=57:=Y;rw[decide_eq_true U,decide_eq_false F];clear U F;go_enter func101,ntmps101;exact mV
 ·have h1':¬(48:Int)<=n:=Y;rw[decide_eq_false U];clear U;go_enter func101,ntmps101;exact mV
def OZ(o:Option (UInt8×Nat)):Value:=match o with
 |none=>.tuple #[.int .u8 0,.int .i64 0,.bool false]
 |some (e,k)=>.tuple #[.int .u8 (e.toNat:Int),.int .i64 k,.bool true]
theorem aec{s:List UInt8}(h:0<s.length)(hd:wk s[0]=false):Fj s=some (s[0],1):=by
 match s,h with
 |c::t,_=>unfold Fj;simp at hd;simp[hd]
theorem aed{s:List UInt8}(h:0<s.length)(hd:wk s[0]=true)(h3:s.length<3):Fj s=none:=by
 match s,h with
 |[c],_=>unfold Fj;simp at hd;simp[hd]
 |[c,d],_=>unfold Fj;simp at hd;simp[hd]
 |c::d::e::t,_=>simp at h3;omega
theorem aee{s:List UInt8}(h3:3<=s.length)(hd:wk s[0]=true):Fj s=if(wk s[1]&&wk s[2])=true then(if 255<DD s[0] s[1] s[2]then none else some (UInt8.ofNat (DD s[0] s[1] s[2]),3))else none:=by
 match s,h3 with
 |c::d::e::t,_=>simp at hd;simp[Fj,hd]
theorem Kc{c:UInt8}(h:wk c=true):(48:Int)<=c.toNat/\(c.toNat:Int)<=57:=by
 have:48<=c.toNat/\c.toNat<=57:=by simpa[wk]using h
 omega
theorem Sd(s:List UInt8)(E:s.length<=17592186044416)(w:World):Calls prog 89 #[.string (bs s)] w (rW (OZ (Fj s)) w):=by
 by_cases h0:s=[]
 ·subst h0;go_enter func89,ntmps89;go_wp2_with fail;go_ret3;exact nH
 have hp:0<s.length:=gJ;have hl:(s==[])=false:=gL;have arn:s.isEmpty=false:=gL;have D0:=J (fun w=>Gs s[0] w);cases hd:wk s[0]with
 |false=>have hE:=aec hp hd;rw[hd]at D0;rw[hE];simp only[OZ];clear hd hE h0;go_enter func89,ntmps89;go_wp2_with fail;refine(D0.out _).mono ?_;rintro _ B ⟨rfl,rfl⟩;go_wp2_with fail;go_ret3;exact nH
 |true=>
 rw[hd]at D0;by_cases h3:s.length<3
 ·have hE:=aed hp hd h3;have h3':(s.length:Int)<3:=Y;rw[hE];simp only[OZ];clear hd hE h0 h3;go_enter func89,ntmps89;go_wp2_with fail;refine(D0.out _).mono ?_;rintro _ B ⟨rfl,rfl⟩;go_wp2_with fail;go_ret3;exact nH
 have h3':¬(s.length:Int)<3:=Y;have g1:1<s.length:=Y;have g2:2<s.length:=Y;have hE:=aee (show 3<=s.length from g2) hd;have D1:=J (fun w=>Gs s[1] w);have D2:=J (fun w=>Gs s[2] w);have HE:Hid (wk s[1]=false\/wk s[2]=false->Fj s=none):=J (by
  rintro(h|h)<;>rw[hE,h]<;>simp)
 cases U:wk s[1]with
 |false=>rw[U]at D1;rw[HE.out (.inl U)];simp only[OZ];clear hd hE U D2 HE h0 h3;go_enter func89,ntmps89;go_wp2_with fail;refine(D0.out _).mono ?_;rintro _ B ⟨rfl,rfl⟩;go_wp2_with fail;refine(D1.out _).mono ?_;rintro _ B ⟨rfl,rfl⟩;go_wp2_with fail;go_ret3;exact nH
 |true=>
 rw[U]at D1;cases F:wk s[2]with
 |false=>rw[F]at D2;rw[HE.out (.inr F)];simp only[OZ];clear hd hE U F HE h0 h3;go_enter func89,ntmps89;go_wp2_with fail;refine(D0.out _).mono ?_;rintro _ B ⟨rfl,rfl⟩;go_wp2_with fail;refine(D1.out _).mono ?_;rintro _ B ⟨rfl,rfl⟩;go_wp2_with fail;refine(D2.out _).mono ?_;rintro _ B ⟨rfl,rfl⟩;go_wp2_with fail;go_ret3;exact nH
 |true=>
 rw[F]at D2;rw[U,F,Bool.and_self,if_pos I]at hE;obtain⟨b01,b02⟩:=Kc hd;obtain⟨b11,b12⟩:=Kc U;obtain⟨b21,b22⟩:=Kc F;have HV:Hid (((DD s[0] s[1] s[2]:Nat):Int)=(100:Int)*((s[0].toNat:Int)-(48:Int))+(10:Int)*((s[1].toNat:Int)-(48:Int))+((s[2].toNat:Int)-(48:Int))):=J (by unfold DD;omega);have HU:Hid (¬255<DD s[0] s[1] s[2]->(UInt8.ofNat (DD s[0] s[1] s[2])).toNat=DD s[0] s[1] s[2]):=J (fun h=>by rw[UInt8.toNat_ofNat'];omega);have HEE:=J hE;clear hd U F HE h0 h3 hE;generalize UInt8.ofNat (DD s[0] s[1] s[2])=awr at*;generalize DD s[0] s[1] s[2]=V at*;have aA:(255<V↔(255:Int)<(100:Int)*((s[0].toNat:Int)-(48:Int))+(10:Int)*((s[1].toNat:Int)-(48:Int))+((s[2].toNat:Int)-(48:Int))):=by have:=HV.out;omega
 by_cases h5:255<V
 ·have h5':=aA.1 h5;have HE2:Hid (Fj s=none):=J (by rw[HEE.out,if_pos h5]);rw[HE2.out];simp only[OZ];clear h5 HU HV aA HEE HE2;go_enter func89,ntmps89;go_wp2_with fail;refine(D0.out _).mono ?_;rintro _ B ⟨rfl,rfl⟩;go_wp2_with fail;refine(D1.out _).mono ?_;rintro _ B ⟨rfl,rfl⟩;go_wp2_with fail;refine(D2.out _).mono ?_;rintro _ B ⟨rfl,rfl⟩;go_wp2_with fail;go_quiet(fail);go_wp2_with fail;go_ret3;exact rm
 ·
  have h5':=fun h=>h5 (aA.2 h)
  have HE2:Hid (Fj s=some (awr,3)):=J (by rw[HEE.out,if_neg h5]);have HU2:=J (HU.out h5);rw[HE2.out];simp only[OZ];rw[HU2.out];clear h5 HU HU2 aA HEE HE2;go_enter func89,ntmps89;go_wp2_with fail;refine(D0.out _).mono ?_;rintro _ B ⟨rfl,rfl⟩;go_wp2_with fail;refine(D1.out _).mono ?_;rintro _ B ⟨rfl,rfl⟩;go_wp2_with fail;refine(D2.out _).mono ?_;rintro _ B ⟨rfl,rfl⟩;go_wp2_with fail;go_quiet(fail);go_wp2_with fail;go_ret3;exact rW.mk (by rw[HV.out];rfl) (below_drewN (Below.refl _ _) _)
def UJ(s:List UInt8):Value:=match xx (yj s [])with
 | .error e=>.tuple #[.string (bs []),.int .i64 0,.int .i64 e]
 | .ok (b,r)=>.tuple #[.string (bs b),.int .i64 ((s.length:Int)-(r.length:Int)),.int .i64 0]
theorem Fl{s:List UInt8}{e:Int}(h:xx (yj s [])= .error e):UJ s= .tuple #[.string (bs []),.int .i64 0,.int .i64 e]:=by unfold UJ;rw[h]
theorem V1{s b r:List UInt8}(h:xx (yj s [])= .ok (b,r)):UJ s= .tuple #[.string (bs b),.int .i64 ((s.length:Int)-(r.length:Int)),.int .i64 0]:=by unfold UJ;rw[h]
theorem drop_cons{s:List UInt8}{k:Nat}(h:k<s.length):s.drop k=s[k]::s.drop (k+1):=List.drop_eq_getElem_cons h
theorem adG{s b r:List UInt8}(h:yj s []= .ok (b,r)):UJ s=if b=[]then .tuple #[.string (bs []),.int .i64 0,.int .i64 8]else if 63<b.length then .tuple #[.string (bs []),.int .i64 0,.int .i64 7]else .tuple #[.string (bs b),.int .i64 ((s.length:Int)-(r.length:Int)),.int .i64 0]:=by
 by_cases U:b=[]
 ·rw[if_pos U];exact Fl (by rw[h];simp only[xx];rw[if_pos U])
 by_cases F:63<b.length
 ·rw[if_neg U,if_pos F];exact Fl (by rw[h];simp only[xx];rw[if_neg U,if_pos F])
 ·rw[if_neg U,if_neg F];exact V1 (by rw[h];simp only[xx];rw[if_neg U,if_neg F])
theorem adH(s:List UInt8)(E:s.length<=17592186044416)(w:World):Calls prog 67 #[.string (bs s)] w (rW (UJ s) w):=by
 obtain⟨R,hR⟩:=aq (UJ s);rw[hR.out];go_enter func67,ntmps67;go_wp2_with fail;go_loopw[5,6] (fun v iv wr=>∃(k:Nat) (b:List UInt8),k<=s.length/\iv= .int .i64 k/\wr.ownsRow w.heap.size 5 1 v b.length (sN b)/\b.length<=k/\Hid (yj s []=yj (s.drop k) b)/\ao w wr) (fun _ iv _=>s.length-(intOf iv).toNat)
 case atStart=>exact⟨0,[],Nat.zero_le _,I,World.ownsRow_nil _ _ _ _,Nat.le_refl _,J I,Below.refl _ _⟩
 obtain⟨k,b,O,rfl,Z,hbk,HL,hB⟩:=hrel;obtain⟨A,c,hv⟩:=tp Z;subst hv;by_cases aA:k<s.length
 case neg=>have h1:¬(k:Int)<s.length:=Y;have HR:Hid (yj s []= .ok (b,[])):=J (by rw[HL.out,List.drop_of_length_le Y,BO]);have hrl:(s.length:Int)-(([]:List UInt8).length:Int)=k:=aB;clear HL aA;exact mW
 have h1:(k:Int)<s.length:=Y;have hc:=s[k].toNat_lt;have HD:=J (drop_cons aA);by_cases U:s[k]=46
 ·have e1:((s[k].toNat:Int) !=46)=false:=mc;have HR:Hid (yj s []= .ok (b,s.drop k)):=J (by rw[HL.out,HD.out,U,Dp]);have hrl:(s.length:Int)-((s.drop k).length:Int)=k:=aB;clear HL U;generalize s.drop k=r at*;exact mW
 have n1:s[k].toNat≠46:=fun h=>U (UInt8.toNat_inj.1 h)
 have e1:((s[k].toNat:Int) !=46)=true:=aB;by_cases F:s[k]=92
 ·
  have e2:((s[k].toNat:Int)==92)=true:=by rw[F];rfl
  have HL2:Hid (yj s []=yj (92::s.drop (k+1)) b):=J (by rw[HL.out,HD.out,F]);have ES:=J (fun W=>Sd (s.drop (k+1)) aB W);clear HL U F n1 HD;cases he:Fj (s.drop (k+1))with
  |none=>rw[he]at ES;simp only[OZ]at ES;have HR:Hid (R= .tuple #[.string (bs []),.int .i64 0,.int .i64 5]):=J (hR.out.symm.trans (Fl (by rw[HL2.out,Is he];rfl)));clear HL2 he;go_wp2_with fail;refine(ES.out _).mono ?_;rintro _ B ⟨rfl,b1⟩;have hB1:=rC hB hB.size b1;go_wp2_with fail;go_ret3;exact rW.mk dZ hB1
  |some x=>
   obtain⟨e,n⟩:=x;rw[he]at ES;simp only[OZ]at ES;obtain⟨k1,k2⟩:=Ir he;simp only[List.length_drop]at k2;have HL2:Hid (yj s []=yj (s.drop (k+1+n)) (b++[e])):=J (by rw[HL2.out,Dq he,List.drop_drop]);have hec:=e.toNat_lt;clear he;go_wp2_with fail;refine(ES.out _).mono ?_;rintro _ B ⟨rfl,b1⟩;have hB:=rC hB hB.size b1;have Z:=sT Z b1;clear b1 ES;go_wp2_with(at_builtin;go_must(refine tQ _ I (.tmp 42) (.tmp 44) 101 I 5 (.int .u8 0) 1 1 underlying101 xf I K w.heap.size _ b.length _ I (World.ownsRow.alloc Z _) aS ⟨_,0,none⟩ 1 1 [.int .u8 ((e.toNat:Int))] I I (vJ _ _ _ _ I) (uA I) K aL Y ?_));intro g2 ahd w2 hb2 afp ahg;have hB2:=sX (hB.alloc hB.size _) aS (Z.alloc _) afp;have hb3:w2.ownsRow w.heap.size 5 1 (.slice (some ⟨g2,0,none⟩) (b.length+1) ahd) (b++[e]).length (sN (b++[e])):=by exact pu
   have hbl:(b++[e]).length=b.length+1:=ar;clear Z hb2 afp hB;go_wp2_with fail;go_roundw
   case rel=>exact⟨(k+1+n),b++[e],Y,fQ,hb3,Y,HL2,hB2⟩
   case measure=>simp[intOf];omega
 have n2:s[k].toNat≠92:=fun h=>F (UInt8.toNat_inj.1 h)
 have e2:((s[k].toNat:Int)==92)=false:=aB;have HL2:Hid (yj s []=yj (s.drop (k+1)) (b++[s[k]])):=J (by rw[HL.out,HD.out,Fk _ _ U F]);clear HL U F n1 n2 HD;go_wp2_with(at_builtin;go_must(refine tQ _ I (.tmp 42) (.tmp 44) 101 I 5 (.int .u8 0) 1 1 underlying101 xf I K w.heap.size _ b.length _ I (World.ownsRow.alloc Z _) aS ⟨_,0,none⟩ 1 1 [.int .u8 ((s[k].toNat:Int))] I I (vJ _ _ _ _ I) (uA I) K aL Y ?_));intro g2 ahd w2 hb2 afp ahg;have hB2:=sX (hB.alloc hB.size _) aS (Z.alloc _) afp;have hb3:w2.ownsRow w.heap.size 5 1 (.slice (some ⟨g2,0,none⟩) (b.length+1) ahd) (b++[s[k]]).length (sN (b++[s[k]])):=by exact pu
 have hbl:(b++[s[k]]).length=b.length+1:=ar;clear Z hb2 afp hB;go_wp2_with fail;go_roundw
 case rel=>exact⟨(k+1),b++[s[k]],Y,fQ,hb3,Y,HL2,hB2⟩
 case measure=>simp[intOf];omega
def CY(x:Except Int (List (List UInt8)×Bool))(w:World)(e:Ending)(w':World):Prop:=match x with
 | .error k=>e= .returned (.tuple #[.slice none 0 0,.bool false,.int .i64 k])/\ao w w'
 | .ok (n,d)=>∃v,e= .returned (.tuple #[v,.bool d,.int .i64 0])/\tw w' v n/\ao w w'
theorem MX:parse [46]= .ok ([],true):=by unfold parse;rw[if_pos I]
theorem MY:parse []= .error 8:=by unfold parse;rw[if_neg K,if_pos I]
theorem Yl{s:List UInt8}{e:Int}(U:s≠[46])(F:s≠[])(h:yP s.length s []= .error e):parse s= .error e:=by unfold parse;rw[if_neg U,if_neg F,h]
theorem Ym{s:List UInt8}{n:List (List UInt8)}{d:Bool}(U:s≠[46])(F:s≠[])(h:yP s.length s []= .ok (n,d)):parse s=if 255<1+sq n then .error 3 else .ok (n,d):=by unfold parse;rw[if_neg U,if_neg F,h]
theorem abv{s b r:List UInt8}(h:xx (yj s [])= .ok (b,r)):0<s.length-r.length/\r.length<=s.length/\r=s.drop (s.length-r.length)/\(r=[]\/∃t,r=46::t)/\b.length<=63:=by
 obtain⟨U,F,h3⟩:=V0 h;obtain⟨n,a1,a2,a3,a4,_⟩:=afe s.length s [] b r (Nat.le_refl _) h3;have Z:0<b.length:=List.length_pos_iff.2 U;simp at a4;have hr:r.length=s.length-n:=by rw[a2];simp
 refine⟨Y,Y,?_,a3,F⟩;rw[hr,show s.length-(s.length-n)=n by omega];exact a2
theorem CZ{n:Nat}{l:List (List UInt8)}(h:w.ownsRow Hh 9 1 v n (l.map fun t=>Value.string (bs t))):tw w v l:=by
 have:=h.1;simp at this;subst this;exact⟨h.1,h.2.imp id (fun⟨g,cap,cur,U,_,h3⟩=>⟨g,cap,cur,U,Nat.zero_le _,h3⟩)⟩
theorem adI:∀(m:Nat) (s b:List UInt8) (e:Int),s.length<=m->yj s b= .error e->e=5:=by
 intro m;induction m with
 |zero=>intro s b e hs h;obtain rfl:s=[]:=gE;rw[BO]at h;cases h
 |succ m ih=>
  intro s b e hs h;cases s with
  |nil=>rw[BO]at h;cases h
  |cons c t=>
   simp only[List.length_cons]at hs;by_cases U:c=46
   ·subst U;rw[Dp]at h;cases h
   by_cases F:c=92
   ·
    subst F;cases he:Fj t with
    |none=>rw[Is he]at h;cases h;rfl
    |some x=>obtain⟨e',k⟩:=x;obtain⟨k1,k2⟩:=Ir he;rw[Dq he]at h;exact ih _ _ _ aB h
   ·rw[Fk t b U F]at h;exact ih _ _ _ Y h
theorem Se{s:List UInt8}{e:Int}(h:xx (yj s [])= .error e):e=5\/e=7\/e=8:=by
 cases E:yj s []with
 |error x=>rw[E]at h;cases h;exact .inl (adI _ _ _ _ (Nat.le_refl _) E)
 |ok x=>
  obtain⟨b,r⟩:=x;rw[E]at h;simp only[xx]at h;split at h
  ·cases h;exact .inr (.inr rfl)
  ·
   split at h
   ·cases h;exact .inr (.inl rfl)
   ·cases h
theorem Gt(s:List UInt8)(E:s.length<=1000000)(w:World):Calls prog 36 #[.string (bs s)] w (CY (parse s) w):=by
 by_cases U:s=[46]
 ·subst U;rw[MX];unfold CY;go_enter func36,ntmps36;exact qH
 by_cases F:s=[]
 ·subst F;rw[MY];unfold CY;go_enter func36,ntmps36;go_wp2_with fail;go_ret3;exact⟨I,Below.refl _ _⟩
 have e1:(s==[46])=false:=iJ;have e2:(s==[])=false:=fT;have PE:=J (fun e h=>Yl (e:=e) U F h);have PG:=J (fun n d h=>Ym (n:=n) (d:=d) U F h);obtain⟨R,hR⟩:=aq (parse s);rw[hR.out]at PE PG⊢;obtain⟨S,hS⟩:∃S,S=s:=gh;obtain⟨hk,hX⟩:=aq (yP s.length s []);rw[hX.out]at PE PG;have hs0:0<s.length:=List.length_pos_iff.2 F;clear U F hR;go_enter func36,ntmps36;go_wp2_with fail;go_loopw[0,5,6] (fun sv nv dv wr=>∃(r:List UInt8) (n:List (List UInt8)) (d:Bool),sv= .string (bs r)/\dv= .bool d/\wr.ownsRow w.heap.size 9 1 nv n.length (n.map fun t=>Value.string (bs t))/\n.length+r.length<=s.length/\(∀l∈n,l.length<=63)/\Hid ((r=[]/\hk= .ok (n,d))\/(0<r.length/\∃f,r.length<=f/\hk=yP f r n))/\ao w wr) (fun sv _ _ _=>match sv with| .string x=>x.size|_=>0)
 case atStart=>exact⟨s,[],false,I,I,World.ownsRow_nil _ _ _ _,ar,ar,J (.inr ⟨hs0,s.length,Nat.le_refl _,hX.out.symm⟩),Below.refl _ _⟩
 obtain⟨r,n,d,rfl,rfl,Z,hlen,h63,HX,hB⟩:=hrel;obtain⟨A,c,hv⟩:=tp Z;subst hv;by_cases h0:r=[]
 case pos=>subst h0;have HXe:Hid (hk= .ok (n,d)):=J (by rcases HX.out with h|h;exact h.2;exact absurd h.1 ar);have HR:=J (PG.out n d HXe.out);have HT:=CZ Z;obtain⟨A2,c2,e2',hTR,_⟩:=HT.form;injection e2' with q1 q2 q3;subst q1 q3;have hls:=zd n h63;have DS:=J (fun W (hW:ao wr W)=>Fx A c n W (hTR.G hW) Y Y);have DS1:=J (DS.out wr (Below.refl _ _));have HTT:=J HT;clear HX HXe PE PG hX DS h63 Z HT hTR;exact mI
 have hl:(r==[])=false:=gL;have arn:r.isEmpty=false:=gL;have hp:0<r.length:=gJ;have HXf:Hid (∃f,r.length<=f+1/\hk=yP (f+1) r n):=J (by
  rcases HX.out with h|⟨_,f,U,F⟩
  ·exact absurd h.1 h0
  ·
   exact⟨f-1,Y,by rw[show f-1+1=f by omega];exact F⟩)
 obtain⟨f,hf,hXX⟩:=HXf.out;have HXX:=J hXX;have ON:=J (fun W=>adH r Y W);clear HX HXf hXX h0;cases ho:xx (yj r [])with
 |error e=>
  have HV:=Fl ho;rw[HV]at ON;have hee:=Se ho;have he:(e !=0)=true:=by rcases hee with h|h|h<;>(subst h;rfl)
  have HR:=J (PE.out e (by rw[HXX.out,J9 ho]));clear ho HV hee PE PG hX HXX Z h63;go_wp2_with fail;refine(ON.out _).mono ?_;exact pA
 |ok x=>
  obtain⟨b,r'⟩:=x;have HV:=V1 ho;rw[HV]at ON;obtain⟨k1,k2,k3,k4,anL⟩:=abv ho;obtain⟨m,hm⟩:∃m,r.length-r'.length=m:=gh;have hm2:(r.length:Int)-(r'.length:Int)=m:=Y;rw[hm]at k1 k3;rw[hm2]at ON;have HOK:=J ho;clear ho HV;rcases k4 with k4|⟨t,k4⟩
  ·
   subst k4;have hmr:m=r.length:=by simpa using hm.symm
   have HX2:Hid (hk= .ok (n++[b],false)):=J (by rw[HXX.out,CX HOK.out ar];rfl);have hdr:Hid (r.drop m=[]):=J k3.symm;have hml:¬(m:Int)<r.length:=Y;clear k3 HOK HXX k2 hm2;go_wp2_with fail;refine(ON.out _).mono ?_;rintro _ B ⟨rfl,b1⟩;have hB:=rC hB hB.size b1;have Z:=sT Z b1;clear b1 ON;go_wp2_with(at_builtin;go_must(refine tQ _ I (.tmp 25) (.tmp 27) 24 I 9 (.string ⟨#[]⟩) 1 16 underlying24 xK I K w.heap.size _ n.length _ I (World.ownsRow.alloc Z _) aS ⟨_,0,none⟩ 1 1 [.string (bs b)] I I (vJ _ _ _ _ I) (uA I) K aL Y ?_));intro g2 ahd w2 hb2 afp ahg;have hB2:=sX (hB.alloc hB.size _) aS (Z.alloc _) afp;have hb3:w2.ownsRow w.heap.size 9 1 (.slice (some ⟨g2,0,none⟩) (n.length+1) ahd) (n++[b]).length ((n++[b]).map fun t=>Value.string (bs t)):=by exact pb
   have hnl:(n++[b]).length=n.length+1:=ar;have h63:∀l∈n++[b],l.length<=63:=by exact nK
   clear Z hb2 afp hB;go_wp2_with fail;go_roundw
   case rel=>exact⟨[],n++[b],false,I,I,hb3,aB,h63,J (.inl ⟨I,HX2.out⟩),hB2⟩
   case measure=>simp;omega
  ·
   have hrl:r'.length=t.length+1:=by rw[k4];rfl
   have hdr:Hid (r.drop (m+1)=t):=J (by
    have:r.drop (m+1)=(r.drop m).drop 1:=by rw[List.drop_drop]
    rw[this,<-k3,k4];rfl)
   have HX2:Hid ((t=[]/\hk= .ok (n++[b],true))\/(0<t.length/\∃f,t.length<=f/\hk=yP f t (n++[b]))):=J (by
    by_cases ht:t=[]
    ·refine .inl ⟨ht,?_⟩;rw[HXX.out,CX HOK.out (by rw[hrl,ht];decide),hrl,ht];rfl
    ·
     have htp:0<t.length:=List.length_pos_iff.2 ht;refine .inr ⟨htp,f,Y,?_⟩;rw[HXX.out,Dr HOK.out Y,k4];rfl)
   have hml:(m:Int)<r.length:=Y;clear k3 k4 HOK HXX;go_wp2_with fail;refine(ON.out _).mono ?_;rintro _ B ⟨rfl,b1⟩;have hB:=rC hB hB.size b1;have Z:=sT Z b1;clear b1 ON;go_wp2_with(at_builtin;go_must(refine tQ _ I (.tmp 25) (.tmp 27) 24 I 9 (.string ⟨#[]⟩) 1 16 underlying24 xK I K w.heap.size _ n.length _ I (World.ownsRow.alloc Z _) aS ⟨_,0,none⟩ 1 1 [.string (bs b)] I I (vJ _ _ _ _ I) (uA I) K aL Y ?_));intro g2 ahd w2 hb2 afp ahg;have hB2:=sX (hB.alloc hB.size _) aS (Z.alloc _) afp;have hb3:w2.ownsRow w.heap.size 9 1 (.slice (some ⟨g2,0,none⟩) (n.length+1) ahd) (n++[b]).length ((n++[b]).map fun t=>Value.string (bs t)):=by exact pb
   have hnl:(n++[b]).length=n.length+1:=ar;have h63:∀l∈n++[b],l.length<=63:=by exact nK
   clear Z hb2 afp hB;go_wp2_with fail;go_roundw
   case rel=>exact⟨t,n++[b],true,by rw[hdr.out],I,hb3,Y,h63,HX2,hB2⟩
   case measure=>rw[hdr.out];simp;omega
def abw(n:List (List UInt8))(w:World)(e:Ending)(w':World):Prop:=∃A k c,e= .returned (.tuple #[.slice A k c,.int .i64 (rR n)])/\(rR n=0->y7 w' (.slice A k c) n)/\ao w w'
theorem abx(w:World)(m:Nat)(hm:m<=1000000):∃ahX:List Value,(∀W:World,(Instr.makeSlice 24 (.int .i64 0) (.int .i64 (m:Int))).run prog W= .ok (.slice (some ⟨W.heap.size,0,none⟩) 0 m) (W.alloc (.cells ahX.toArray 9)))/\(w.alloc (.cells ahX.toArray 9)).ownsRow w.heap.size 9 1 (.slice (some ⟨w.heap.size,0,none⟩) 0 m) 0 []:=by
 obtain⟨i,hi,hz,adR,hby⟩:=info_parts xK;refine⟨(madeCells (Value.string ⟨#[]⟩).cells (m*i.size)).toList,fun W=>?_,?_⟩
 ·have h:=run_make (P:=prog) (w:=W) 24 9 i _ underlying24 hi hz .i64 .i64 (0:Int) (m:Int) Y Y (by rw[hby];omega) Y;rw[Array.toArray_toList];simpa using h
 ·refine⟨I,.inr ⟨w.heap.size,m,(madeCells (Value.string ⟨#[]⟩).cells (m*i.size)),I,Nat.le_refl _,?_,Nat.zero_le _,by simp only[maxLen];omega,by simp[madeCells,adR],ar⟩⟩;rw[Array.toArray_toList];exact heap_alloc_new w _
theorem adJ(A Hh:Option Addr)(ca cb:Nat)(a b:List (List UInt8))(w:World)(hA:wA w A ca a)(hB:wA w Hh cb b)(ha:a.length<=100000)(Z:b.length<=100000):
  Calls prog 66 #[.slice A a.length ca,.slice Hh b.length cb] w (abw (a++b) w):=by
 obtain⟨ahX,hmk,hO⟩:=abx w (a.length+b.length) Y;have H0:Below w.heap.size w (w.alloc (.cells ahX.toArray 9)):=fZ;have RA:=(hA.G H0).range;have RB:=J (fun V (k:ao w V)=>(hB.G k).range);have avm:(((a.length+b.length:Nat):Int))=(a.length:Int)+(b.length:Int):=Y;rw[avm]at hmk;have hsa:(strs a).length=a.length*1:=by simp[strs]
 have hsb:(strs b).length=b.length*1:=by simp[strs]
 have h1a:∀u∈strs a,u.oneCell'=true:=fun u hu=>by obtain⟨x,_,rfl⟩:=List.mem_map.1 hu;rfl
 have h1b:∀u∈strs b,u.oneCell'=true:=fun u hu=>by obtain⟨x,_,rfl⟩:=List.mem_map.1 hu;rfl
 have HS:Hid (strs (a++b)=strs a++strs b):=J (by simp[strs]);have HL:Hid ((a++b).length=a.length+b.length):=J ar;clear hA hB;generalize a++b=n at*;generalize strs a=sa at*;generalize strs b=sb at*;generalize a.length=la,b.length=lb at*;go_enter func66,ntmps66;go_wp2_with(at_builtin;go_must(refine uR _ I (.tmp 14) (.tmp 15) 24 I 9 (.string ⟨#[]⟩) 1 16 underlying24 xK I K w.heap.size _ 0 [] I hO ar A la ca sa I RA hsa h1a aL Y la Y ?_));intro A1 c1 B ho1 hg1;have H1:=sX H0 H0.size hO hg1;have RB1:=RB.out _ H1;clear hO hg1 H0 RA;go_wp2_with(at_builtin;go_must(refine uR _ I (.tmp 16) (.tmp 17) 24 I 9 (.string ⟨#[]⟩) 1 16 underlying24 xK I K w.heap.size _ la _ I ho1 H1.size Hh lb cb sb I RB1 hsb h1b aL Y (la+lb) I ?_));intro A2 c2 w2 ho2 hg2;have H2:=sX H1 H1.size ho1 hg2;have T2:tw w2 (.slice A2 (la+lb) c2) n:=by rw[<-HL.out];rw[<-HL.out]at ho2;have:=HS.out;unfold strs at this;rw[<-this]at ho2;exact CZ ho2
 obtain⟨A3,c3,e3,hTR,_⟩:=T2.form;rw[HL.out]at e3;injection e3 with q1 q2 q3;subst q1 q3;have DC:=J (wK A2 c2 n w2 hTR (by rw[HL.out];omega));rw[HL.out]at DC;have HT:=J T2;clear ho1 hg2 H1 RB1 ho2 T2 hTR;obtain⟨ck,hck⟩:=aq (rR n);rw[hck.out]at DC;go_wp2_with fail;refine DC.out.mono ?_;rintro _ w3 ⟨rfl,rfl⟩;by_cases h0:ck=0
 ·subst h0;go_wp2_with fail;go_ret2;exact⟨_,_,_,by rw[hck.out];rfl,fun _=>⟨HT.out,hck.out⟩,H2⟩
 ·have h0':(ck !=0)=true:=gL;have HN:Hid (rR n≠0):=J (by rw[hck.out];exact h0);clear h0;go_wp2_with fail;go_ret2;exact⟨_,_,_,by rw[hck.out];rfl,fun h=>absurd h HN.out,H2⟩
theorem Sf{s:List UInt8}{e:Int}(h:parse s= .error e):(e !=0)=true:=by
 unfold parse at h;split at h
 ·cases h
 split at h
 ·cases h;rfl
 split at h
 ·
  rename_i e' U;cases h;have key:∀(f:Nat) (s:List UInt8) (n:List (List UInt8)) (e:Int),yP f s n= .error e->e=5\/e=7\/e=8:=by
   intro f;induction f with
   |zero=>intro s n e h;cases h
   |succ f ih=>
    intro s n e h;cases ho:xx (yj s [])with
    |error x=>rw[J9 ho]at h;cases h;exact Se ho
    |ok x=>
     obtain⟨b,r⟩:=x;by_cases hr:r.length<=1
     ·rw[CX ho hr]at h;cases h
     ·rw[Dr ho hr]at h;exact ih _ _ _ h
  rcases key _ _ _ _ U with h|h|h<;>(subst h;rfl)
 ·
  split at h
  ·cases h;rfl
  ·cases h
def CdI(w:World)(cs:List Value)(n:List (List UInt8)):Prop:=∃v,cs=[v]/\y7 w v n
abbrev Ei(w:World)(Hh:Nat)(v:Value)(l:List (List (List UInt8))):Prop:=rJ w Hh 24 1 (CdI w) v l
theorem CdI.rM{n:List (List UInt8)}(h:CdI w cs n)(k:rZ w w'):CdI w' cs n:=by
 obtain⟨v,U,F⟩:=h;exact⟨v,U,F.rM k⟩
theorem Ei.G{l:List (List (List UInt8))}(h:Ei w Hh v l)(k:ao w w'):Ei w' Hh v l:=rJ.G h k (fun _ _ x=>x.rM (rZ.G k))
theorem CdI.len{n:List (List UInt8)}(h:CdI w cs n):cs.length=1:=by obtain⟨v,rfl,_⟩:=h;rfl
def aby(x:Except Int (List (List UInt8)×Bool))(w:World)(e:Ending)(w':World):Prop:=ao w w'/\((e= .returned (.tuple #[.slice none 0 0,.int .i64 8])/\∀n d,x= .ok (n,d)->n=[])\/∃n d A c l,x= .ok (n,d)/\n≠[]/\e= .returned (.tuple #[.slice A (l:List (List (List UInt8))).length c,.int .i64 0])/\Ei w' 0 (.slice A l.length c) l/\l≠[]/\l.length<=7)
theorem MZ(w0:World)(cs:List Value)(r:Rs)(s:List UInt8)(w:World)(h:Bk w0 w cs r)(hw:ao w0 w)(hs:s.length<=1000000):
  Calls prog 35 #[.agg cs.toArray,.string (bs s)] w (aby (parse s) w):=by
 have hcl:=h.len;have PA:=J (fun W=>Gt s hs W);have HD:=J (fun W (Z:ao w W)=>Ea w0 cs r W (h.G Z) (rC hw hw.size Z));have RB:Hid (∀W,(Instr.build 33 #[(0,.agg cs.toArray)]).run prog W= .ok (.agg (cs++[rI,rI,rI]).toArray) W):=gP;have HX:Below w.heap.size w (w.alloc (.cells cs.toArray 29)):=fZ;have hk:=N.new w 29 cs;have hse:(rT r).se.length<=6:=by show(sL xu r.se 6).length<=6;unfold sL;simp;omega
 have hsl:∀x∈(rT r).se,x.length<=100000:=by intro x hx;have U:x∈(r.se.filter xu).take 6:=hx;have F:=(List.mem_filter.1 (List.mem_of_mem_take U)).2;unfold xu at F;simp only[Bool.and_eq_true,decide_eq_true_eq,beq_iff_eq]at F;have:=(ud F.2).2;have:=yV x;omega
 have HSL:=J hsl;clear hsl;have HW:=J hw;obtain⟨P,hP⟩:=aq (parse s);have PN:=J (fun e (h:parse s= .error e)=>Sf h);have PO:=J (fun n d (h:parse s= .ok (n,d))=>Sc h);rw[hP.out]at PA PN PO⊢;clear h hw hs hP;go_enter func35,ntmps35;go_wp2_with fail;refine(PA.out _).mono ?_;intro e1 B hp;cases P with
 |error k=>obtain⟨rfl,b1⟩:=hp;have O:=PN.out k I;have H1:=rC HX HX.size b1;clear PA HD RB hk PN PO;go_wp2_with fail;go_ret2;exact⟨H1,.inl ⟨I,fun n d c=>by cases c⟩⟩
 |ok nd=>
 obtain⟨n,d⟩:=nd;obtain⟨v,rfl,hT,b1⟩:=hp;obtain⟨p1,p2,p3,-⟩:=PO.out n d I;have H1:=rC HX HX.size b1;have X1:=hk.G b1 hk.lt;have N1:y7 B v n:=⟨hT,p1⟩;obtain⟨A,c,hv,hNR⟩:=N1.form;subst hv;have aFv:n.length<=255:=by have:=yV n;omega
 have HN1:=J N1;clear PA PN PO hk b1 hT hNR p1 p2 p3 HX N1;by_cases h0:n=[]
 ·subst h0;clear HD RB X1;go_wp2_with fail;go_ret2;exact⟨H1,.inl ⟨I,fun n d c=>by injection c with c;injection c with c1 c2;exact c1.symm⟩⟩
 have hnp:0<n.length:=gJ;have h0':((n.length:Int)==0)=false:=aB;have HN0:=J h0;clear h0;cases d with
 |true=>have kz:Below B.heap.size B (B.alloc (.cells #[.slice A n.length c] 24)):=fZ;have O2:Ei (B.alloc (.cells #[.slice A n.length c] 24)) 0 (.slice (some ⟨B.heap.size,0,none⟩) ([n]:List (List (List UInt8))).length 1) [n]:=rJ.one 1 (N.new B 24 [.slice A n.length c]) I ⟨_,I,HN1.out.rM (rZ.G kz)⟩;have HO2:=J O2;have H2:=rC H1 H1.size kz;clear HD RB X1 O2 kz;go_wp2_with fail;go_ret2;exact⟨H2,.inr ⟨n,true,_,_,[n],I,HN0.out,I,HO2.out,ar,ar⟩⟩
 |false=>
 have HD1:=J (HD.out B H1);go_wp2_with(first
  |(refine rF (.load 29 (.tmp 2)) rfl ?_;go_must(refine rG rfl _ _ rfl w.heap.size 0 rfl X1 10 Y _ underlying29 rfl wE cs (uH Y) ?_))
  |(refine rF (.build 33 #[(0,.tmp 31)]) rfl ?_;go_must(refine sy rfl 33 _ rfl #[(0,.agg cs.toArray)] cY (RB.out _) ?_)))
 refine HD1.out.mono ?_;rintro _ w2 ⟨T,u1,u2,u3,rfl,RO,b2⟩;have af0:=RO.len;have hT1:=RO.one;have X2:=X1.G b2 X1.lt;have H2:=rC H1 H1.size b2;have N2:=J (HN1.out.rM (rZ.G b2));have HRO:=J RO;clear HD HD1 RB X1 b2 HN1 RO H1;go_wp2_with(first
  |(refine rF (.field 33 (.tmp 33) 0) rfl ?_;go_must(refine Bl rfl 33 (.tmp 33) 0 rfl rfl (Il T af0 u1 u2 u3 _) ?_))
  |(refine rF (.store 29 (.tmp 2) (.tmp 34)) rfl (ab rfl w.heap.size 0 T X2 Y (by rw[af0];exact wE) hT1 ?_)))
 intro w3 X3 g3 sw;clear sw;have X3':N w3 w.heap.size 29 T:=tH X3 Y;have H3:=rE H2 g3 H2.size (Nat.le_refl _);have N3:=J (N2.out.rM (rZ.sD g3 X2 K));obtain⟨v1,v2,v3,hTe,r1,r2,r3⟩:=HRO.out;have r2:=r2.sD g3 X2 K;obtain⟨Ase,cse,hv2⟩:=r2.form;subst hv2;have d1:w3.cell? ⟨w.heap.size,1,none⟩=some (.slice Ase (rT r).se.length cse):=X3'.rD 1 (by rw[hTe];rfl);have d3:w3.cell? ⟨w.heap.size,3,none⟩=some (.int .i64 (rT r).nd):=X3'.rD 3 (by rw[hTe];rfl);have aA9:=X3'.lt;have HSE:=J (r2.Ma (fun _ _ ⟨_,_,h,_⟩=>by rw[h];rfl));have HWB:=J (rC HW.out HW.out.size H3);obtain⟨W3,hW3⟩:=aq w3;clear X2 X3 X3' g3 hT1 af0 hTe r1 r2 r3 HRO N2 H2;generalize(rT r).nd=ndv at*;generalize(rT r).se=ses at*;obtain⟨f,hf⟩:∃f,decide (ndv<=(n.length:Int)-1)=f:=gh;have hff:ndv<=(n.length:Int)-1↔f=true:=by rw[<-hf];simp
 obtain⟨q,hq⟩:∃q:Nat,q=if f then 1 else 0:=gh
 have HQ:=J hq;have hq1:q<=1:=by rw[hq];split<;>omega
 clear hq;go_upto_if 41 with fail;go_cut[10] (fun lv wx=>∃(l:List (List (List UInt8))) (Al:Option Addr) (cl:Nat),lv= .slice Al l.length cl/\Hid (Ei wx w3.heap.size (.slice Al l.length cl) l)/\l.length<=q/\Hid (f=true->l≠[])/\ao w3 wx)
 case first=>
  cases f with
  |false=>
   go_wp2_with fail;go_meet
   case rel=>exact⟨[],none,0,I,J (rJ.nil _ _ _ _ _),Nat.zero_le _,J (fun c=>by cases c),Below.refl _ _⟩
  |true=>
   obtain⟨l,hle⟩:∃l:List (List (List UInt8)),l=[]:=gh;have hl0:l.length=0:=by rw[hle];rfl
   have HO:Hid (Ei w3 w3.heap.size (.slice none 0 0) l):=J (by rw[hle];exact rJ.nil _ _ _ _ _);have HB:=Below.refl w3.heap.size w3;clear hle;have kz:Below (w3).heap.size w3 ((w3).alloc (.cells #[(.slice A n.length c)] 24)):=fZ;have HOz:=J (Ei.G HO.out kz);have Nz:=J (y7.rM N3.out (rZ.G kz));have HBz:=rC HB HB.size kz;have hBs:=HB.size;go_wp2_with(at_builtin;go_must(refine sJ _ I (.tmp 42) (.tmp 44) 26 I 24 _ 1 24 underlying26 EU (by kernel_rfl) K w3.heap.size _ l I HOz.out HBz.size (w3).heap.size [(.slice A n.length c)] n I (N.new _ _ _) (rJ.ne HO.out (Nat.le_refl _)) I aO ⟨_,I,Nz.out⟩ aL Y ?_));intro v2 w8 O8 g8;have K8:rZ ((w3).alloc (.cells #[(.slice A n.length c)] 24)) w8:=gY;have O8':=J (rJ.rM (R':=CdI w8) O8 (fun _ x=>x) (fun _ _ x=>x.rM K8));have H8:=HBz.grown g8 HBz.size HOz.out.base;obtain⟨A8,c8,hv8⟩:=O8'.out.form;have hl8:(l++[n]).length=l.length+1:=ar;obtain⟨l8,amf⟩:∃l8,l++[n]=l8:=gh;have HNE:Hid (l8≠[]):=J ec;rw[amf]at O8' hv8 hl8;subst hv8;clear kz HOz Nz HBz O8 g8 K8 HO HB;go_wp2_with fail;go_meet
   case rel=>exact⟨l8,A8,c8,I,O8',by have:=HQ.out;simp at this;omega,J (fun _=>HNE.out),H8⟩
 obtain⟨l,Al,cl,rfl,HO,hl1,HF,HB⟩:=hcut;obtain⟨w4,rfl⟩:∃w4,w4=wc:=gh;have e1:=(HB.cell (p:=⟨w.heap.size,1,none⟩) aA9).trans d1;clear d1 d3;go_wp2_with fail;go_loopw[10,49] (fun lv iv wr=>∃(k:Nat) (l:List (List (List UInt8))) (Al:Option Addr) (cl:Nat),k<=ses.length/\iv= .int .i64 k/\lv= .slice Al l.length cl/\Hid (Ei wr w3.heap.size (.slice Al l.length cl) l)/\l.length<=k+q/\Hid (f=true->l≠[])/\ao w3 wr) (fun _ iv _=>ses.length-(intOf iv).toNat)
 case atStart=>exact⟨0,l,Al,cl,Nat.zero_le _,I,I,HO,Y,HF,HB⟩
 clear HO HF HB hl1 e1;obtain⟨k,l,Al,cl,O,rfl,rfl,HO,hl1,HF,HB⟩:=hrel;by_cases aA:k<ses.length
 case pos=>
  have h1:(k:Int)<ses.length:=Y;obtain⟨b,off,rfl,Z,hr⟩:=HSE.out Y;obtain⟨cx,hcx,Ax,c2,rfl,hnx⟩:=hr k aA;have ce:=(HB.cell (p:=⟨b,off+k,none⟩) Z).trans (by simpa using hcx 0 _ I);have hnl:=hnx.2.2.1;have CT:=J (adJ A Ax c c2 n ses[k] wr (by obtain⟨A',c',e',h'⟩:=(N3.out.rM (rZ.G HB)).form;injection e' with q1 q2 q3;subst q1 q3;exact h') (hnx.G (rC HWB.out HWB.out.size HB)) Y (HSL.out _ (List.getElem_mem aA)));obtain⟨m,hm⟩:=aq (n++ses[k]);rw[hm.out]at CT;unfold abw at CT;obtain⟨nl,auX⟩:∃nl,ses[k].length=nl:=gh;rw[auX]at CT ce hnl;clear hnx hr hcx auX;go_wp2_with fail;refine CT.out.mono ?_;rintro _ w5 ⟨Ac,nc,cc,rfl,hNc,b5⟩;have HO:=J (Ei.G HO.out b5);have HB:=rC HB HB.size b5;have HNC:=J hNc;clear CT b5 hNc;by_cases hck:rR m=0
  ·
   have alp:(rR m==0)=true:=iD;have NC:=J (HNC.out hck);clear hck HNC;have kz:Below (w5).heap.size w5 ((w5).alloc (.cells #[(.slice Ac nc cc)] 24)):=fZ;have HOz:=J (Ei.G HO.out kz);have Nz:=J (y7.rM NC.out (rZ.G kz));have HBz:=rC HB HB.size kz;have hBs:=HB.size;go_wp2_with(at_builtin;go_must(refine sJ _ I (.tmp 61) (.tmp 63) 26 I 24 _ 1 24 underlying26 EU (by kernel_rfl) K w3.heap.size _ l I HOz.out HBz.size (w5).heap.size [(.slice Ac nc cc)] m I (N.new _ _ _) (rJ.ne HO.out (Nat.le_refl _)) I aO ⟨_,I,Nz.out⟩ aL Y ?_));intro v2 w8 O8 g8;have K8:rZ ((w5).alloc (.cells #[(.slice Ac nc cc)] 24)) w8:=gY;have O8':=J (rJ.rM (R':=CdI w8) O8 (fun _ x=>x) (fun _ _ x=>x.rM K8));have H8:=HBz.grown g8 HBz.size HOz.out.base;obtain⟨A8,c8,hv8⟩:=O8'.out.form;have hl8:(l++[m]).length=l.length+1:=ar;obtain⟨l8,amf⟩:∃l8,l++[m]=l8:=gh;have HNE:Hid (l8≠[]):=J ec;rw[amf]at O8' hv8 hl8;subst hv8;clear kz HOz Nz HBz O8 g8 K8 HO HB;go_wp2_with fail;go_roundw
   case rel=>exact⟨k+1,l8,A8,c8,Y,fQ,I,O8',Y,J (fun _=>HNE.out),H8⟩
   case measure=>simp[intOf];omega
  ·
   have alp:(rR m==0)=false:=iD;clear hck HNC;go_wp2_with fail;go_roundw
   case rel=>exact⟨k+1,l,Al,cl,Y,fQ,I,HO,Y,HF,HB⟩
   case measure=>simp[intOf];omega
 have h1:¬(k:Int)<ses.length:=Y;clear HSE;cases f with
 |true=>have hl:=HF.out I;have HNL:=J hl;clear hl HF;go_wp2_with fail;go_ret2;exact⟨rC H3 H3.size HB,.inr ⟨n,false,_,_,l,I,HN0.out,I,rJ.zero HO.out,HNL.out,Y⟩⟩
 |false=>
  have hq0:q=0:=by have:=HQ.out;simpa using this
  have N4:=J (N3.out.rM (rZ.G HB));have kz:Below (wr).heap.size wr ((wr).alloc (.cells #[(.slice A n.length c)] 24)):=fZ;have HOz:=J (Ei.G HO.out kz);have Nz:=J (y7.rM N4.out (rZ.G kz));have HBz:=rC HB HB.size kz;have hBs:=HB.size;go_wp2_with(at_builtin;go_must(refine sJ _ I (.tmp 68) (.tmp 70) 26 I 24 _ 1 24 underlying26 EU (by kernel_rfl) K w3.heap.size _ l I HOz.out HBz.size (wr).heap.size [(.slice A n.length c)] n I (N.new _ _ _) (rJ.ne HO.out (Nat.le_refl _)) I aO ⟨_,I,Nz.out⟩ aL Y ?_));intro v2 w8 O8 g8;have K8:rZ ((wr).alloc (.cells #[(.slice A n.length c)] 24)) w8:=gY;have O8':=J (rJ.rM (R':=CdI w8) O8 (fun _ x=>x) (fun _ _ x=>x.rM K8));have H8:=HBz.grown g8 HBz.size HOz.out.base;obtain⟨A8,c8,hv8⟩:=O8'.out.form;have hl8:(l++[n]).length=l.length+1:=ar;obtain⟨l8,amf⟩:∃l8,l++[n]=l8:=gh;have HNE:Hid (l8≠[]):=J ec;rw[amf]at O8' hv8 hl8;subst hv8;clear kz HOz Nz HBz O8 g8 K8 HO HB;go_wp2_with fail;go_ret2;exact⟨rC H3 H3.size H8,.inr ⟨n,false,_,_,l8,I,HN0.out,I,rJ.zero O8'.out,HNE.out,Y⟩⟩
def zA(l:List UInt8):Nat:=l.foldl (fun n c=>10*n+(c.toNat-48)) 0
theorem Yn(l:List UInt8)(c:UInt8):zA (l++[c])=10*zA l+(c.toNat-48):=by simp[zA]
theorem Nc(l:List UInt8)(k:Nat)(h:k<l.length):zA (l.take (k+1))=10*zA (l.take k)+(l[k].toNat-48):=by
 rw[List.take_succ_eq_append_getElem h,Yn]
theorem V2:∀(l:List UInt8),(∀c∈l,wk c=true)->zA l<10^l.length:=by
 have h:∀(l:List UInt8) (n k:Nat),(∀c∈l,wk c=true)->n<10^k->l.foldl (fun n c=>10*n+(c.toNat-48)) n<10^(k+l.length):=by
  intro l;induction l with
  |nil=>intro n k _ h;simpa using h
  |cons c l ih=>intro n k hd h;obtain⟨U,F⟩:=Kc (hd c ar);rw[List.foldl_cons,List.length_cons,show k+(l.length+1)=(k+1)+l.length by omega];exact ih _ (k+1) (fun x hx=>hd x aI) ay
 intro l hd;simpa[zA]using h l 0 0 hd K
def O0(l:List UInt8):Value:=if l.all wk=true then(if 255<zA l then .tuple #[.int .i64 0,.int .i64 4]else .tuple #[.int .i64 (zA l),.int .i64 0])else .tuple #[.int .i64 0,.int .i64 5]
theorem abz{l:List UInt8}{k:Nat}(h:k<l.length)(hd:wk l[k]=false):O0 l= .tuple #[.int .i64 0,.int .i64 5]:=by
 unfold O0;rw[if_neg];intro c;rw[List.all_eq_true]at c;rw[c _ (List.getElem_mem h)]at hd;cases hd
theorem abA{l:List UInt8}(h:∀i (hi:i<l.length),wk l[i]=true):O0 l=if 255<zA l then .tuple #[.int .i64 0,.int .i64 4]else .tuple #[.int .i64 (zA l),.int .i64 0]:=by
 unfold O0;rw[if_pos];rw[List.all_eq_true];intro x hx;obtain⟨i,hi,rfl⟩:=List.getElem_of_mem hx;exact h i hi
theorem Sh(l:List UInt8)(hp:0<l.length)(h3:l.length<=3)(w:World):Calls prog 72 #[.string (bs l),.int .i64 255] w (rW (O0 l) w):=by
 have hl:(l==[])=false:=by exact qT
 have arn:l.isEmpty=false:=by exact qT
 have NB:=J (fun k h hd=>abz (l:=l) (k:=k) h hd);have NA:=J (fun h=>abA (l:=l) h);obtain⟨R,hR⟩:=aq (O0 l);rw[hR.out]at NB NA⊢;clear hR;go_enter func72,ntmps72;go_wp2_with fail;go_loop[6] (fun iv=>∃k:Nat,k<=l.length/\iv= .int .i64 k/\Hid (∀i (hi:i<l.length),i<k->wk l[i]=true)) (fun iv=>l.length-(intOf iv).toNat)
 case atStart=>exact⟨0,Nat.zero_le _,I,J (fun i hi c=>absurd c Y)⟩
 obtain⟨k,O,rfl,HD⟩:=hrel;by_cases aA:k<l.length
 case pos=>
  have h1:(k:Int)<l.length:=Y;have hc:=l[k].toNat_lt;cases hd:wk l[k]with
  |false=>
   have HR:=J (NB.out k aA hd);have Z:l[k].toNat<48\/57<l[k].toNat:=by simp[wk]at hd;omega
   clear hd NA NB HD;by_cases U:l[k].toNat<48
   ·have h1':(l[k].toNat:Int)<48:=Y;clear U Z;exact oV
   ·have h1':¬(l[k].toNat:Int)<48:=Y;have h2':(57:Int)<l[k].toNat:=Y;clear U Z;exact oV
  |true=>
   obtain⟨b1,b2⟩:=Kc hd;have h1':¬(l[k].toNat:Int)<48:=Y;have h2':¬(57:Int)<l[k].toNat:=Y;have HD2:Hid (∀i (hi:i<l.length),i<k+1->wk l[i]=true):=J (fun i hi c=>by
    by_cases e:i=k
    ·subst e;exact hd
    ·
     exact HD.out i hi Y)
   clear hd HD;go_wp2_with fail;go_round
   case rel=>exact⟨k+1,Y,fQ,HD2⟩
   case measure=>simp[intOf];omega
 have h1:¬(k:Int)<l.length:=Y;have HA:Hid (∀i (hi:i<l.length),wk l[i]=true):=J (fun i hi=>HD.out i hi Y);have HR:=J (NA.out HA.out);clear NA NB HD;go_wp2_with fail;go_loop[7] (fun iv=>∃k:Nat,k+1<=l.length/\iv= .int .i64 k/\Hid (zA (l.take k)=0)) (fun iv=>l.length-(intOf iv).toNat)
 case atStart=>exact⟨0,Y,I,J I⟩
 obtain⟨k2,hk2,rfl,HZ⟩:=hrel;clear O aA h1;have ahg:k2<l.length:=Y;have aFD:(k2:Int)<l.length:=Y;by_cases hz:k2<l.length-1/\l[k2].toNat=48
 case pos=>
  obtain⟨z1,z2⟩:=hz;have z1':(k2:Int)<(l.length:Int)-1:=Y;have z2':((l[k2].toNat:Int)==48)=true:=by rw[z2];rfl
  have HZ2:Hid (zA (l.take (k2+1))=0):=J (by rw[Nc _ _ ahg,HZ.out,z2]);clear z2 HZ;go_wp2_with fail;go_round
  case rel=>exact⟨k2+1,Y,fQ,HZ2⟩
  case measure=>simp[intOf];omega
 have hx:¬(k2:Int)<(l.length:Int)-1\/((k2:Int)<(l.length:Int)-1/\((l[k2].toNat:Int)==48)=false):=by
  by_cases z1:k2<l.length-1
  ·
   refine .inr ⟨Y,?_⟩;have:¬l[k2].toNat=48:=fun h=>hz ⟨z1,h⟩
   simp;omega
  ·exact .inl Y
 have h19:¬(19:Int)<(l.length:Int)-k2:=Y;clear hz;rcases hx with hx|⟨hx,hx2⟩;all_goals
  go_wp2_with fail;go_loop[8,9] (fun nv iv=>∃j:Nat,j<=l.length/\iv= .int .i64 j/\nv= .int .u64 (zA (l.take j))) (fun _ iv=>l.length-(intOf iv).toNat)
  case atStart=>exact⟨k2,Y,I,by rw[HZ.out];rfl⟩
  obtain⟨j,hj,rfl,rfl⟩:=hrel;by_cases hjl:j<l.length
  case pos=>
   have akQ:(j:Int)<l.length:=Y;obtain⟨b1,b2⟩:=Kc (HA.out j hjl);have hc:=l[j].toNat_lt;have S:=J (Nc l j hjl);have hv:zA (l.take j)<1000:=by refine Nat.lt_of_lt_of_le (V2 _ (fun c hc=>?_)) (Nat.pow_le_pow_right (n:=10) K (j:=3) aB);obtain⟨i,hi,rfl⟩:=List.getElem_of_mem hc;rw[List.getElem_take];exact HA.out i (by simp at hi;omega)
   have hv':(zA (l.take j):Int)<1000:=Y;generalize zA (l.take j)=v at*;clear HZ;go_wp2_with fail;go_round
   case rel=>exact⟨j+1,Y,fQ,by rw[S.out];go_num⟩
   case measure=>simp[intOf];omega
  have akQ:¬(j:Int)<l.length:=Y;have hte:l.take j=l:=kN;rw[hte];have hv:zA l<1000:=by refine Nat.lt_of_lt_of_le (V2 _ (fun c hc=>?_)) (Nat.pow_le_pow_right (n:=10) K (j:=3) Y);obtain⟨i,hi,rfl⟩:=List.getElem_of_mem hc;exact HA.out i hi
  have hv':(zA l:Int)<1000:=Y;generalize zA l=v at*;clear hte HA HZ;by_cases h5:255<v
  ·have h5':(255:Int)<v:=Y;rw[if_pos h5]at HR;clear h5;exact oV
  ·have h5':¬(255:Int)<v:=Y;rw[if_neg h5]at HR;clear h5;exact oV
def Kd(o:Option (UInt8×Nat)):Value:=match o with
 |none=>.tuple #[.int .u8 0,.int .i64 0]
 |some (e,k)=>.tuple #[.int .u8 (e.toNat:Int),.int .i64 k]
theorem agf{s:List UInt8}(h:3<=s.length):s.take 3=[s[0],s[1],s[2]]:=by
 match s,h with
 |a::b::c::t,_=>rfl
theorem adL{s:List UInt8}(h3:3<=s.length)(hd:wk s[0]=true):
  (Fj s=none/\∃e:Int,(e !=0)=true/\O0 (s.take 3)= .tuple #[.int .i64 0,.int .i64 e])\/(∃V:Nat,V<=255/\Fj s=some (UInt8.ofNat V,3)/\O0 (s.take 3)= .tuple #[.int .i64 V,.int .i64 0]):=by
 have hE:=aee h3 hd;have hT:=agf h3;have hdn:zA (s.take 3)=DD s[0] s[1] s[2]:=by rw[hT];unfold zA DD;simp;omega
 have ha:(s.take 3).all wk=(wk s[1]&&wk s[2]):=by rw[hT];simp[hd]
 unfold O0;rw[ha,hdn,hE];by_cases U:(wk s[1]&&wk s[2])=true
 ·
  rw[if_pos U,if_pos U];by_cases F:255<DD s[0] s[1] s[2]
  ·rw[if_pos F,if_pos F];exact .inl ⟨I,4,I,I⟩
  ·rw[if_neg F,if_neg F];exact .inr ⟨_,Y,I,I⟩
 ·rw[if_neg U,if_neg U];exact .inl ⟨I,5,I,I⟩
theorem UK(s:List UInt8)(E:s.length<=17592186044416)(w:World):Calls prog 42 #[.string (bs s)] w (rW (Kd (Fj s)) w):=by
 by_cases h0:s=[]
 ·subst h0;go_enter func42,ntmps42;go_wp2_with fail;go_ret2;exact nH
 have hp:0<s.length:=gJ;have hl:(s==[])=false:=gL;have arn:s.isEmpty=false:=gL;have hc:=s[0].toNat_lt;cases hd:wk s[0]with
 |false=>
  rw[aec hp hd];simp only[Kd];have Z:s[0].toNat<48\/57<s[0].toNat:=by simp[wk]at hd;omega
  clear hd h0;by_cases U:s[0].toNat<48
  ·have h1':(s[0].toNat:Int)<48:=Y;clear U Z;go_enter func42,ntmps42;go_wp2_with fail;go_ret2;exact nH
  ·have h1':¬(s[0].toNat:Int)<48:=Y;have h2':(57:Int)<s[0].toNat:=Y;clear U Z;go_enter func42,ntmps42;go_wp2_with fail;go_ret2;exact nH
 |true=>
 obtain⟨b1,b2⟩:=Kc hd;have h1':¬(s[0].toNat:Int)<48:=Y;have h2':¬(57:Int)<s[0].toNat:=Y;by_cases h3:s.length<3
 ·have h3':(s.length:Int)<3:=Y;rw[aed hp hd h3];simp only[Kd];clear hd h0 h3;go_enter func42,ntmps42;go_wp2_with fail;go_ret2;exact nH
 have h3':¬(s.length:Int)<3:=Y;have hN:=adL (show 3<=s.length by omega) hd;have NM:=J (fun W=>Sh (s.take 3) aB aB W);clear hd h0 h3;rcases hN with⟨hE,e,he,hV⟩|⟨V,aMK,hE,hV⟩
 ·rw[hV]at NM;rw[hE];simp only[Kd];clear hV hE;exact pc
 ·
  rw[hV]at NM;rw[hE];simp only[Kd];have hU:(UInt8.ofNat V).toNat=V:=by rw[UInt8.toNat_ofNat'];omega
  rw[hU];have hv':(V:Int)<=255:=Y;clear hV hE hU;exact pc
def DK(f:Nat)(n:List (List UInt8))(x:Except Int (List UInt8×List UInt8)):Except Int (List (List UInt8)×Bool):=match x with
 | .error e=>.error e
 | .ok (b,r)=>if r.length<=1 then .ok (n++[b],r.length==1)else yP f (r.drop 1) (n++[b])
theorem Nd(f:Nat)(s:List UInt8)(n:List (List UInt8)):yP (f+1) s n=DK f n (xx (yj s [])):=by
 rw[yP];unfold DK;cases xx (yj s [])with
 |error e=>rfl
 |ok x=>rfl
def adM(x:Except Int (List (List UInt8)×Bool)):Except Int (List (List UInt8)×Bool):=match x with
 | .error e=>.error e
 | .ok (n,d)=>if 255<1+sq n then .error 3 else .ok (n,d)
theorem Yo{s:List UInt8}(h:s≠[46]):parse s=adM (DK (s.length-1) [] (xx (yj s []))):=by
 by_cases h0:s=[]
 ·subst h0;rw[MY,BO];rfl
 ·
  have hp:0<s.length:=gJ;unfold parse;rw[if_neg h,if_neg h0,<-Nd,show s.length-1+1=s.length by omega];unfold adM;cases yP s.length s []with
  |error e=>rfl
  |ok x=>rfl
theorem Nf(f:Nat)(n:List (List UInt8))(b r:List UInt8):DK f n (xx (.ok (b,r)))=if b=[]then .error 8 else if 63<b.length then .error 7 else if r.length<=1 then .ok (n++[b],r.length==1)else yP f (r.drop 1) (n++[b]):=by
 unfold xx DK;simp only;by_cases U:b=[]
 ·rw[if_pos U,if_pos U]
 ·
  rw[if_neg U,if_neg U];by_cases F:63<b.length
  ·rw[if_pos F,if_pos F]
  ·rw[if_neg F,if_neg F]
def abB(s:List UInt8)(hk:Except Int (List (List UInt8)×Bool))(k:Nat)(n:List (List UInt8))(b:List UInt8)(d:Bool):Prop:=(k=s.length/\d=true/\hk= .ok (n,true))\/(k=s.length+1/\hk= .ok (n,false)/\d=false)\/((k<s.length\/(k=s.length/\d=false))/\∃f,s.length-k<=f+1/\hk=DK f n (xx (yj (s.drop k) b)))
theorem Pb(s:List UInt8)(E:s.length<=1000000)(w:World):Calls prog 21 #[.string (bs s)] w (CY (parse s) w):=by
 by_cases U:s=[46]
 ·subst U;rw[MX];unfold CY;go_enter func21,ntmps21;exact qH
 have e1:(s==[46])=false:=iJ;have PF:=J (Yo U);obtain⟨R,hR⟩:=aq (parse s);rw[hR.out]at PF⊢;obtain⟨hk,hX⟩:∃hk,Hid (hk=DK (s.length-1) [] (xx (yj s []))):=ji;rw[<-hX.out]at PF;clear U hR;go_enter func21,ntmps21;go_wp2_with fail;go_loopw[5,6,7,8] (fun nv bv dv iv wr=>∃(k:Nat) (n:List (List UInt8)) (b:List UInt8) (d:Bool),iv= .int .i64 k/\dv= .bool d/\wr.ownsRow w.heap.size 9 1 nv n.length (n.map fun t=>Value.string (bs t))/\wr.ownsRow w.heap.size 5 1 bv b.length (sN b)/\k<=s.length+1/\n.length+b.length<=k/\(∀l∈n,l.length<=63)/\Hid (abB s hk k n b d)/\ao w wr) (fun _ _ _ iv _=>s.length+1-(intOf iv).toNat)
 case atStart=>exact⟨0,[],[],false,I,I,World.ownsRow_nil _ _ _ _,World.ownsRow_nil _ _ _ _,Nat.zero_le _,Nat.le_refl _,ar,J (.inr (.inr ⟨by rcases Nat.eq_zero_or_pos s.length with h|h;exact .inr ⟨h.symm,I⟩;exact .inl h,s.length-1,Y,hX.out⟩)),Below.refl _ _⟩
 obtain⟨k,n,b,d,rfl,rfl,hn,Z,O,hlen,h63,HX,hB⟩:=hrel;obtain⟨An,cn,hv⟩:=tp hn;subst hv;obtain⟨Ab,cb,hv⟩:=tp Z;subst hv;by_cases hkE:k=s.length+1
 case pos=>
  have hk1:¬(k:Int)<=s.length:=Y;have HXe:Hid (hk= .ok (n,d)):=J (by
   rcases HX.out with h|h|h
   ·omega
   ·rw[h.2.2];exact h.2.1
   ·
    omega)
  have HR:=J PF.out;rw[HXe.out]at HR;have HT:=CZ hn;obtain⟨A2,c2,e2',hTR,_⟩:=HT.form;injection e2' with q1 q2 q3;subst q1 q3;have hls:=zd n h63;have DS1:=J (zC An cn n wr hTR Y Y);have HTT:=J HT;have HFI:Hid (adM (.ok (n,d))=if 255<1+sq n then .error 3 else .ok (n,d)):=jO;rw[HFI.out]at HR;clear HX HXe PF hX h63 hn HT hTR HFI;exact mI
 have hk1:(k:Int)<=s.length:=Y;by_cases aA:k<s.length
 case neg=>
  obtain rfl:k=s.length:=Y;have h1:¬(s.length:Int)<s.length:=Y;have hke:((s.length:Int)==(s.length:Int))=true:=ar;cases d with
  |true=>
   have HXe:Hid (hk= .ok (n,true)):=J (by
    rcases HX.out with h|h|h
    ·exact h.2.2
    ·omega
    ·
     rcases h.1 with h|h
     ·omega
     ·
      cases h.2)
   have HR:=J PF.out;rw[HXe.out]at HR;have HT:=CZ hn;obtain⟨A2,c2,e2',hTR,_⟩:=HT.form;injection e2' with q1 q2 q3;subst q1 q3;have hls:=zd n h63;have DS1:=J (zC An cn n wr hTR Y Y);have HTT:=J HT;have HFI:Hid (adM (.ok (n,true))=if 255<1+sq n then .error 3 else .ok (n,true)):=jO;rw[HFI.out]at HR;clear HX HXe PF hX h63 hn HT hTR HFI;exact mI
  |false=>
   have HXE:Hid (∃f,hk=DK f n (xx (yj (s.drop s.length) b))):=J (by
    rcases HX.out with h|h|h
    ·cases h.2.1
    ·omega
    ·
     obtain⟨_,f,_,h⟩:=h;exact⟨f,h⟩)
   obtain⟨f,hXX⟩:=HXE.out;rw[List.drop_of_length_le Y,BO,Nf]at hXX;have HXE:=J hXX;have HX3:Hid (¬b=[]->¬63<b.length->abB s hk (s.length+1) (n++[b]) [] false):=J (fun U F=>by
    rw[if_neg U,if_neg F]at hXX;exact .inr (.inl ⟨Y,hXX,I⟩))
   clear hXX;by_cases h0:b=[]
   ·rw[if_pos h0]at HXE;have HR:=J PF.out;rw[HXE.out]at HR;have h0':((b.length:Int)==0)=true:=fG;clear h0 HX PF hX HXE;exact nU
   have hbp:0<b.length:=gJ;have h0':((b.length:Int)==0)=false:=aB;rw[if_neg h0]at HXE;by_cases h6:63<b.length
   ·rw[if_pos h6]at HXE;have HR:=J PF.out;rw[HXE.out]at HR;have h6':(63:Int)<b.length:=Y;clear h0 h6 HX PF hX HXE;exact nU
   have h6':¬(63:Int)<b.length:=Y;have HX3:=J (HX3.out h0 h6);have hcv:=yz Z;have anL:b.length<=63:=Y;clear h0 h6 HX hX HXE;go_wp2_with(at_builtin;go_must(refine tQ _ I (.tmp 76) (.tmp 79) 23 I 9 (.string ⟨#[]⟩) 1 16 underlying23 xK I K w.heap.size _ n.length _ I (World.ownsRow.alloc hn _) aS ⟨_,0,none⟩ 1 1 [.string (bs b)] I I (vJ _ _ _ _ I) (uA I) K aL Y ?_));intro g2 ahd w2 hb2 afp ahg;have hB2:=sX (hB.alloc hB.size _) aS (hn.alloc _) afp;have hn3:w2.ownsRow w.heap.size 9 1 (.slice (some ⟨g2,0,none⟩) (n.length+1) ahd) (n++[b]).length ((n++[b]).map fun t=>Value.string (bs t)):=by exact pb
   have hnl:(n++[b]).length=n.length+1:=ar;have h63:∀l∈n++[b],l.length<=63:=by exact nK
   clear hn hb2 afp hB hcv Z;go_wp2_with fail;go_roundw
   case rel=>exact⟨s.length+1,n++[b],[],_,fQ,I,hn3,World.ownsRow_nil _ _ _ _,Y,by rw[hnl];show n.length+1+0<=_;omega,h63,HX3,hB2⟩
   case measure=>simp[intOf]<;>omega
 have h1:(k:Int)<s.length:=Y;have hke:((k:Int)==(s.length:Int))=false:=aB;have hc:=s[k].toNat_lt;have HXf:Hid (∃f,s.length-k<=f+1/\hk=DK f n (xx (yj (s[k]::s.drop (k+1)) b))):=J (by
  rw[<-drop_cons aA];rcases HX.out with h|h|h
  ·omega
  ·omega
  ·
   exact h.2)
 obtain⟨f,hf,hXX⟩:=HXf.out;have HXX:=J hXX;clear HX HXf hXX;by_cases U:s[k]=46
 ·
  have q1:((s[k].toNat:Int)==92)=false:=mc;have q2:((s[k].toNat:Int) !=46)=false:=mc;have HXE:Hid (hk=if b=[]then .error 8 else if 63<b.length then .error 7 else if(s.drop k).length<=1 then .ok (n++[b],(s.drop k).length==1)else yP f (s.drop (k+1)) (n++[b])):=J (by
   rw[HXX.out,U,Dp,Nf,drop_cons aA,U];rfl)
  have HX3:Hid (¬b=[]->¬63<b.length->abB s hk (k+1) (n++[b]) [] true):=J (fun U F=>by
   have hXX:=HXE.out;rw[if_neg U,if_neg F]at hXX;by_cases h3:(s.drop k).length<=1
   ·
    rw[if_pos h3]at hXX;have h4:(s.drop k).length=1:=by simp at h3⊢;omega
    rw[h4]at hXX;simp at h4;exact .inl ⟨Y,I,hXX⟩
   ·
    rw[if_neg h3]at hXX;simp at h3;refine .inr (.inr ⟨.inl Y,f-1,Y,?_⟩);rw[<-Nd,show f-1+1=f by omega];exact hXX)
  clear U HXX;have HX:=HX3;by_cases h0:b=[]
  ·rw[if_pos h0]at HXE;have HR:=J PF.out;rw[HXE.out]at HR;have h0':((b.length:Int)==0)=true:=fG;clear h0 HX PF hX HXE;exact nU
  have hbp:0<b.length:=gJ;have h0':((b.length:Int)==0)=false:=aB;rw[if_neg h0]at HXE;by_cases h6:63<b.length
  ·rw[if_pos h6]at HXE;have HR:=J PF.out;rw[HXE.out]at HR;have h6':(63:Int)<b.length:=Y;clear h0 h6 HX PF hX HXE;exact nU
  have h6':¬(63:Int)<b.length:=Y;have HX3:=J (HX3.out h0 h6);have hcv:=yz Z;have anL:b.length<=63:=Y;clear h0 h6 HX hX HXE;go_wp2_with(at_builtin;go_must(refine tQ _ I (.tmp 76) (.tmp 79) 23 I 9 (.string ⟨#[]⟩) 1 16 underlying23 xK I K w.heap.size _ n.length _ I (World.ownsRow.alloc hn _) aS ⟨_,0,none⟩ 1 1 [.string (bs b)] I I (vJ _ _ _ _ I) (uA I) K aL Y ?_));intro g2 ahd w2 hb2 afp ahg;have hB2:=sX (hB.alloc hB.size _) aS (hn.alloc _) afp;have hn3:w2.ownsRow w.heap.size 9 1 (.slice (some ⟨g2,0,none⟩) (n.length+1) ahd) (n++[b]).length ((n++[b]).map fun t=>Value.string (bs t)):=by exact pb
  have hnl:(n++[b]).length=n.length+1:=ar;have h63:∀l∈n++[b],l.length<=63:=by exact nK
  clear hn hb2 afp hB hcv Z;go_wp2_with fail;go_roundw
  case rel=>exact⟨k+1,n++[b],[],_,fQ,I,hn3,World.ownsRow_nil _ _ _ _,Y,by rw[hnl];show n.length+1+0<=_;omega,h63,HX3,hB2⟩
  case measure=>simp[intOf]<;>omega
 have n1:s[k].toNat≠46:=fun h=>U (UInt8.toNat_inj.1 h)
 have q2:((s[k].toNat:Int) !=46)=true:=aB;by_cases F:s[k]=92
 ·
  have q1:((s[k].toNat:Int)==92)=true:=by rw[F];rfl
  have HX2:Hid (hk=DK f n (xx (yj (92::s.drop (k+1)) b))):=J (by rw[HXX.out,F]);have ES:=J (fun W=>UK (s.drop (k+1)) aB W);clear U F n1 HXX;cases he:Fj (s.drop (k+1))with
  |none=>rw[he]at ES;simp only[Kd]at ES;have HR:=J PF.out;rw[HX2.out,Is he]at HR;clear HX2 he PF hX;go_wp2_with fail;refine(ES.out _).mono ?_;exact pA
  |some x=>
   obtain⟨e,m⟩:=x;rw[he]at ES;simp only[Kd]at ES;obtain⟨k1,k2⟩:=Ir he;simp only[List.length_drop]at k2;have HL2:Hid (abB s hk (k+1+m) n (b++[e]) false):=J (by
    refine .inr (.inr ⟨by by_cases h:k+1+m<s.length;exact .inl h;exact .inr ⟨Y,I⟩,f,Y,?_⟩);rw[HX2.out,Dq he,List.drop_drop])
   have hec:=e.toNat_lt;have hm0:((m:Int)==0)=false:=aB;clear he HX2;go_wp2_with fail;refine(ES.out _).mono ?_;rintro _ B ⟨rfl,b1⟩;have hB:=rC hB hB.size b1;have Z:=sT Z b1;have hn:=sT hn b1;clear b1 ES;go_wp2_with(at_builtin;go_must(refine tQ _ I (.tmp 37) (.tmp 39) 101 I 5 (.int .u8 0) 1 1 underlying101 xf I K w.heap.size _ b.length _ I (World.ownsRow.alloc Z _) aS ⟨_,0,none⟩ 1 1 [.int .u8 ((e.toNat:Int))] I I (vJ _ _ _ _ I) (uA I) K aL Y ?_));intro g2 ahd w2 hb2 afp ahg;have hB2:=sX (hB.alloc hB.size _) aS (Z.alloc _) afp;have hb3:w2.ownsRow w.heap.size 5 1 (.slice (some ⟨g2,0,none⟩) (b.length+1) ahd) (b++[e]).length (sN (b++[e])):=by exact pu
   have hn3:=zD (hn.alloc (.cells #[.int .u8 ((e.toNat:Int))] 5)) (Z.alloc _) K afp;have hbl:(b++[e]).length=b.length+1:=ar;clear Z hb2 afp hB hn;go_wp2_with fail;go_roundw
   case rel=>exact⟨(k+1+m),n,b++[e],false,I,I,hn3,hb3,Y,Y,h63,HL2,hB2⟩
   case measure=>simp[intOf];omega
 have n2:s[k].toNat≠92:=fun h=>F (UInt8.toNat_inj.1 h)
 have q1:((s[k].toNat:Int)==92)=false:=aB;have HL2:Hid (abB s hk (k+1) n (b++[s[k]]) false):=J (by
  refine .inr (.inr ⟨by by_cases h:k+1<s.length;exact .inl h;exact .inr ⟨Y,I⟩,f,Y,?_⟩);rw[HXX.out,Fk _ _ U F])
 clear U F n1 n2 HXX;go_wp2_with(at_builtin;go_must(refine tQ _ I (.tmp 55) (.tmp 59) 101 I 5 (.int .u8 0) 1 1 underlying101 xf I K w.heap.size _ b.length _ I (World.ownsRow.alloc Z _) aS ⟨_,0,none⟩ 1 1 [.int .u8 ((s[k].toNat:Int))] I I (vJ _ _ _ _ I) (uA I) K aL Y ?_));intro g2 ahd w2 hb2 afp ahg;have hB2:=sX (hB.alloc hB.size _) aS (Z.alloc _) afp;have hb3:w2.ownsRow w.heap.size 5 1 (.slice (some ⟨g2,0,none⟩) (b.length+1) ahd) (b++[s[k]]).length (sN (b++[s[k]])):=by exact pu
 have hn3:=zD (hn.alloc (.cells #[.int .u8 ((s[k].toNat:Int))] 5)) (Z.alloc _) K afp;have hbl:(b++[s[k]]).length=b.length+1:=ar;clear Z hb2 afp hB hn;go_wp2_with fail;go_roundw
 case rel=>exact⟨(k+1),n,b++[s[k]],false,I,I,hn3,hb3,Y,Y,h63,HL2,hB2⟩
 case measure=>simp[intOf];omega
def Ng:Nat->Nat->List UInt8->List UInt8
 |0,_,s=>s
 |f+1,m,s=>if m=0 then s else Ng f (m/10) (([48,49,50,51,52,53,54,55,56,57]:List UInt8).getD (m%10) 0::s)
def adN(n:Nat):List UInt8:=if n=0 then[48]else Ng 20 n []
theorem Si(n:Nat)(hn:n<=1000000)(w:World):Calls prog 38 #[.int .i64 n] w (uQ (.string (bs (adN n))) w):=by
 obtain⟨R,hR⟩:=aq (adN n);rw[hR.out];by_cases h0:n=0
 case pos=>
  subst h0;obtain rfl:R=[48]:=by rw[<-hR.out];rfl
  go_enter func38,ntmps38;go_wp2_with fail;go_ret;exact⟨I,I⟩
 have hF:Hid (Ng 20 n []=R):=J (by rw[<-hR.out];unfold adN;rw[if_neg h0]);have h0':(((n:Nat):Int)==0)=false:=aB;have aAZ:¬((n:Nat):Int)<0:=Y;clear hR;go_enter func38,ntmps38;go_wp2_with fail;go_loopw[3,4,5] (fun mv sv iv wr=>∃(k m:Nat) (s:List UInt8),k<=20/\m<=1000000/\s.length<=k/\mv= .int .u64 m/\sv= .string (bs s)/\iv= .int .i64 k/\Hid (Ng (20-k) m s=R)/\wr=w) (fun _ _ iv _=>20-(intOf iv).toNat)
 case atStart=>exact⟨0,n,[],Y,hn,Nat.zero_le _,by first|rfl|(congr 1;done)|go_num,I,I,hF,I⟩
 clear hF h0 h0' aAZ;obtain⟨k,m,s,O,hm,hs,rfl,rfl,rfl,HD,hwr⟩:=hrel;subst hwr;by_cases hc:k<20/\0<m
 case pos=>
  have c1:(k:Int)<20:=Y;have c2:(0:Int)<m:=Y;obtain⟨d,hd⟩:=aq (([48,49,50,51,52,53,54,55,56,57]:List UInt8).getD (m%10) 0);have he:ByteArray.extract {data:= #[48,49,50,51,52,53,54,55,56,57]} (m%10) (m%10+1)=bs [d]:=by
   rw[<-hd.out];have h10:m%10<10:=Nat.mod_lt _ K;generalize m%10=j at*;match j,h10 with
   |0,_|1,_|2,_|3,_|4,_|5,_|6,_|7,_|8,_|9,_=>rfl
  have HN:Hid (Ng (20-(k+1)) (m/10) (d::s)=R):=J (by
   rw[<-HD.out,show 20-k=(20-(k+1))+1 by omega,<-hd.out];show _=if m=0 then s else _
   rw[if_neg Y])
  clear HD hd;go_wp2_with fail;exact⟨⟨k+1,m/10,d::s,Y,Y,aB,fY,aN,fY,HN,trivial⟩,by simp[intOf];omega⟩
 have HS:Hid (s=R):=J (by
  rw[<-HD.out];by_cases h:m=0
  ·
   cases hk':20-k with
   |zero=>rfl
   |succ f=>unfold Ng;rw[if_pos h]
  ·
   rw[show 20-k=0 by omega];rfl)
 by_cases hk2:k<20
 case pos=>obtain rfl:m=0:=Y;have c1:(k:Int)<20:=Y;exact qW
 case neg=>have c1:¬(k:Int)<20:=Y;exact qW
def Ej(c:UInt8):List UInt8:=if c=46\/c=92 then[92,c]else if 33<=c.toNat/\c.toNat<=126 then[c]else[92,UInt8.ofNat (48+c.toNat/100),UInt8.ofNat (48+c.toNat/10%10),UInt8.ofNat (48+c.toNat%10)]
def vX(l:List UInt8):List UInt8:=l.flatMap Ej
def xm(ls:List (List UInt8)):List UInt8:=ls.flatMap (fun l=>46::vX l)
def uV:List (List UInt8)->List UInt8
 |[]=>[]
 |l::ls=>vX l++xm ls
theorem abC(c:UInt8):1<=(Ej c).length/\(Ej c).length<=4:=by
 unfold Ej;split
 ·exact⟨ar,ar⟩
 ·
  split
  ·exact⟨ar,ar⟩
  ·exact⟨ar,ar⟩
theorem C8(l:List UInt8):l.length<=(vX l).length/\(vX l).length<=4*l.length:=by
 induction l with
 |nil=>exact⟨ar,by simp[vX]⟩
 |cons c l ih=>have:=abC c;have e:vX (c::l)=Ej c++vX l:=rfl;rw[e,List.length_append,List.length_cons];omega
theorem Nh(ls:List (List UInt8)):ls.length<=(xm ls).length/\(xm ls).length<=4*sq ls:=by
 induction ls with
 |nil=>exact⟨ar,by simp[xm]⟩
 |cons l ls ih=>
  have:=C8 l;have e:xm (l::ls)=46::(vX l++xm ls):=by simp[xm]
  have e2:sq (l::ls)=l.length+1+sq ls:=by simp[sq]
  rw[e];exact rb
theorem Ni(ls:List (List UInt8)):(uV ls).length<=4*sq ls:=by
 cases ls with
 |nil=>simp[uV]
 |cons l ls=>
  have U:=C8 l;have F:=Nh ls;have e2:sq (l::ls)=l.length+1+sq ls:=by simp[sq]
  simp only[uV,List.length_append];omega
theorem UL(ls:List (List UInt8))(l:List UInt8):uV (ls++[l])=uV ls++(if ls=[]then[]else[46])++vX l:=by
 cases ls with
 |nil=>simp[uV,xm]
 |cons a ls=>simp[uV,xm,List.flatMap_append]
theorem Yp(l:List UInt8)(c:UInt8):vX (l++[c])=vX l++Ej c:=by simp[vX,List.flatMap_append]
theorem V4(k:Nat)(h:k<=9):(UInt8.ofNat (48+k)).toNat=48+k:=by rw[UInt8.toNat_ofNat'];exact Nat.mod_eq_of_lt Y
theorem UM(k:Nat)(h:k<=9):wk (UInt8.ofNat (48+k))=true:=by unfold wk;rw[V4 k h];simp;omega
theorem UO(k:Nat)(h:k<=9):adN k=[UInt8.ofNat (48+k)]:=by
 match k,h with
 |0,_|1,_|2,_|3,_|4,_|5,_|6,_|7,_|8,_|9,_=>rfl
theorem abD(c:UInt8)(t b:List UInt8):yj (Ej c++t) b=yj t (b++[c]):=by
 unfold Ej;by_cases U:c=46\/c=92
 ·
  rw[if_pos U];have he:Fj (c::t)=some (c,1):=by
   have hd:wk c=false:=by rcases U with rfl|rfl<;>rfl
   simp[Fj,hd]
  exact Dq he
 rw[if_neg U];by_cases F:33<=c.toNat/\c.toNat<=126
 ·rw[if_pos F];exact Fk t b (fun h=>U (.inl h)) (fun h=>U (.inr h))
 rw[if_neg F];have hc:=c.toNat_lt;have av2:c.toNat/100<=9:=Y;have h10:c.toNat/10%10<=9:=Y;have h0:c.toNat%10<=9:=Y;have hd:DD (UInt8.ofNat (48+c.toNat/100)) (UInt8.ofNat (48+c.toNat/10%10)) (UInt8.ofNat (48+c.toNat%10))=c.toNat:=by unfold DD;rw[V4 _ av2,V4 _ h10,V4 _ h0];omega
 have he:Fj (UInt8.ofNat (48+c.toNat/100)::UInt8.ofNat (48+c.toNat/10%10)::UInt8.ofNat (48+c.toNat%10)::t)=some (c,3):=by simp only[Fj,UM _ av2,UM _ h10,UM _ h0,hd];rw[if_neg K,if_pos K,if_neg Y];simp
 exact Dq he
theorem Ke:∀(l r b:List UInt8),(r=[]\/∃t,r=46::t)->yj (vX l++r) b= .ok (b++l,r):=by
 intro l;induction l with
 |nil=>
  intro r b h;rcases h with rfl|⟨t,rfl⟩
  ·simp[vX,BO]
  ·simp[vX,Dp]
 |cons c l ih=>intro r b h;rw[show vX (c::l)++r=Ej c++(vX l++r)by simp[vX],abD,ih r _ h,List.append_assoc];rfl
theorem UP:∀(ls:List (List UInt8)) (l:List UInt8) (f:Nat) (n:List (List UInt8)),ls.length<f->(∀x∈l::ls,x≠[]/\x.length<=63)->yP f (vX l++xm ls) n= .ok (n++l::ls,false):=by
 intro ls;induction ls with
 |nil=>
  intro l f n hf E;obtain⟨f,rfl⟩:∃g,f=g+1:=⟨f-1,Y⟩;obtain⟨U,F⟩:=E l ar;have Z:xx (yj (vX l++xm []) [])= .ok (l,[]):=by rw[show xm []=[]from I,Ke l [] [] (.inl I)];exact qU
  rw[CX Z ar];rfl
 |cons a ls ih=>
  intro l f n hf E;obtain⟨f,rfl⟩:∃g,f=g+1:=⟨f-1,Y⟩;obtain⟨U,F⟩:=E l ar;have er:xm (a::ls)=46::(vX a++xm ls):=by simp[xm]
  have Z:xx (yj (vX l++xm (a::ls)) [])= .ok (l,xm (a::ls)):=by rw[Ke l _ [] (.inr ⟨_,er⟩)];exact qU
  have ha:=C8 a;have ha1:=(E a ar).1;have ha2:0<a.length:=List.length_pos_iff.2 ha1;have h3:¬(xm (a::ls)).length<=1:=by rw[er];exact rb
  rw[Dr Z h3,er];simp only[List.drop_succ_cons,List.drop_zero];have hf2:ls.length+1<f+1:=hf;rw[ih a f (n++[l]) Y (fun x hx=>E x (List.mem_cons_of_mem _ hx))];simp
theorem Sj{n:List (List UInt8)}(hc:rR n=0)(hn:n≠[]):parse (uV n)= .ok (n,false):=by
 obtain⟨l,ls,rfl⟩:∃l ls,n=l::ls:=by cases n with|nil=>exact absurd rfl hn|cons l ls=>exact⟨l,ls,rfl⟩
 obtain⟨hl0,hs0⟩:=ud hc;have hs:¬255<1+sq (l::ls):=Y;have E:∀x∈l::ls,x≠[]/\x.length<=63:=by intro x hx;obtain⟨x1,x2⟩:=hl0 x hx;exact⟨fun e=>by subst e;simp at x1,x2⟩
 have hl1:=C8 l;have hl2:0<l.length:=List.length_pos_iff.2 (E l ar).1;have hr:=Nh ls;have hlen:(uV (l::ls)).length=(vX l).length+(xm ls).length:=by simp[uV]
 have h46:uV (l::ls)≠[46]:=by
  intro e;have e2:(uV (l::ls)).length=1:=by rw[e];rfl
  have hls:ls=[]:=gE;subst hls;have:=Ke l [] [] (.inl I);rw[show vX l++[]=uV [l]by simp[uV,xm],e,Dp]at this;injection this with this;injection this with U F;cases F
 have hl:uV (l::ls)≠[]:=fun e=>by rw[e]at hlen;simp at hlen;omega
 unfold parse;rw[if_neg h46,if_neg hl];rw[show uV (l::ls)=vX l++xm ls from I,UP ls l _ [] ee E];simp only[List.nil_append];rw[if_neg hs]
def preB(n:List (List UInt8))(i:Nat):List UInt8:=uV (n.take i)++(if i=0 then[]else[46])
theorem Yq{n:List (List UInt8)}{i:Nat}(h:i<n.length):preB n i++vX n[i]=uV (n.take (i+1)):=by
 rw[List.take_succ_eq_append_getElem h,UL];unfold preB;congr 2;by_cases h0:i=0
 ·subst h0;simp
 ·rw[if_neg h0,if_neg];intro e;have:=congrArg List.length e;rw[List.length_take,List.length_nil]at this;omega
theorem Yr{l:List UInt8}{k:Nat}(h:k<l.length):vX (l.take (k+1))=vX (l.take k)++Ej l[k]:=by rw[List.take_succ_eq_append_getElem h,Yp]
theorem aff{l:List UInt8}{k:Nat}(h:k<l.length):(l.drop k).take 1=[l[k]]:=by rw[List.drop_eq_getElem_cons h];rfl
theorem adO(n:List (List UInt8))(i:Nat):sq (n.take i)<=sq n:=by
 have:=Eo (n.take i) (n.drop i);rw[List.take_append_drop]at this;omega
theorem abE:∀(n:List (List UInt8)) (l:List UInt8),l∈n->l.length+1<=sq n:=by
 intro n;induction n with
 |nil=>intro l h;simp at h
 |cons a n ih=>
  intro l h;have e:sq (a::n)=a.length+1+sq n:=rfl;rcases List.mem_cons.1 h with rfl|h
  ·omega
  ·have:=ih l h;omega
theorem UQ(A:Option Addr)(ca:Nat)(n:List (List UInt8))(w:World)(hA:wA w A ca n)(hn:sq n<=254)(hl:n≠[]):
  Calls prog 12 #[.slice A n.length ca] w (uQ (.string (bs (uV n))) w):=by
 obtain⟨tA,cA,lA,mA⟩:=hA;have DG:=J (fun(k:Nat) (h:k<=1000000) W=>Si k h W);have JL:=J (fun i=>Nat.le_trans (Ni (n.take i)) (Nat.mul_le_mul_left 4 (adO n i)));have aid:0<n.length:=List.length_pos_iff.2 hl;have HL:=J (abE n);go_enter func12,ntmps12;go_wp2_with fail;go_loopw[3,4] (fun sv iv wr=>∃i:Nat,i<=n.length/\iv= .int .i64 i/\sv= .string (bs (uV (n.take i)))/\wr=w) (fun _ iv _=>n.length-(intOf iv).toNat)
 case atStart=>exact⟨0,Nat.zero_le _,I,I,I⟩
 obtain⟨i,hi,rfl,rfl,hwr⟩:=hrel;subst hwr;by_cases aA:i<n.length
 case pos=>
  have h1:(i:Int)<n.length:=Y;obtain⟨ba,oa,rfl,la,xa⟩:=tA Y;have c1:wr.cell? ⟨ba,oa+i,none⟩=some (.string (bs n[i])):=xa i aA;have hJ:(uV (n.take i)).length<=1016:=Nat.le_trans (JL.out i) (Nat.mul_le_mul_left 4 hn);have PN:=Yq aA;have avb:n[i].length<=253:=by have:=HL.out _ (List.getElem_mem aA);omega
  have hP:(preB n i).length<=1017:=by
   unfold preB;rw[List.length_append];split
   ·simp;omega
   ·simp;omega
  have hPd:Hid (preB n i=uV (n.take i)++(if i=0 then[]else[46])):=jO;obtain⟨J1,HJ1⟩:=aq (uV (n.take (i+1)));rw[HJ1.out]at PN;replace PN:=J PN;generalize preB n i=P at*;generalize uV (n.take i)=aIN at*;generalize n[i]=l at*;clear xa JL;go_upto_if 14 with fail;go_cut[3] (fun sv wx=>sv= .string (bs P)/\wx=wr)
  case first=>
   by_cases h0:i=0
   case pos=>
    subst h0;have:P=aIN:=by rw[hPd.out,if_pos I,List.append_nil]
    subst this;exact pJ
   have h0':(0:Int)<i:=Y;have avw:bs P=bs aIN++⟨#[46]⟩:=by rw[hPd.out,if_neg h0];rfl
   have aD6:=J avw;clear h0 PN hPd hP avw;go_wp2_with fail;go_meet
   case rel=>exact⟨by rw[aD6.out];rfl,I⟩
  obtain⟨rfl,rfl⟩:=hcut;clear hPd hJ;go_wp2_with fail;go_loopw[3,5] (fun sv iv wx=>∃k:Nat,k<=l.length/\iv= .int .i64 k/\sv= .string (bs (P++vX (l.take k)))/\wx=wc) (fun _ iv _=>l.length-(intOf iv).toNat)
  case atStart=>exact⟨0,Nat.zero_le _,I,by simp[vX],I⟩
  obtain⟨k,O,rfl,rfl,hwx⟩:=hrel;subst hwx;by_cases hlk:k<l.length
  case pos=>
   have aBc:(k:Int)<l.length:=Y;have hQ:(P++vX (l.take k)).length<=2100:=by have:=(C8 (l.take k)).2;rw[List.length_append];have h3:(l.take k).length<=l.length:=aB;omega
   have HQ1:Hid (P++vX (l.take (k+1))=(P++vX (l.take k))++Ej l[k]):=J (by rw[Yr hlk,List.append_assoc]);generalize P++vX (l.take k)=hb at*;have hSl:(l.take (k+1)).drop k=[l[k]]:=by rw[List.drop_take,show k+1-k=1 by omega];exact aff hlk
   have hc:=(l[k]).toNat_lt;by_cases h46:l[k]=46
   case pos=>
    have HX:Hid (P++vX (l.take (k+1))=hb++92::(l.take (k+1)).drop k):=J (by rw[HQ1.out,hSl];unfold Ej;rw[if_pos (.inl h46)]);have e46:((l[k]).toNat:Int)=46:=by rw[h46];rfl
    clear HQ1 hSl h46;exact nD
   have n46:¬((l[k]).toNat:Int)=46:=fun h=>h46 (UInt8.toNat_inj.1 (by show _=46;omega))
   by_cases h92:l[k]=92
   case pos=>
    have HX:Hid (P++vX (l.take (k+1))=hb++92::(l.take (k+1)).drop k):=J (by rw[HQ1.out,hSl];unfold Ej;rw[if_pos (.inr h92)]);have e92:((l[k]).toNat:Int)=92:=by rw[h92];rfl
    clear HQ1 hSl h46 h92;exact nD
   have n92:¬((l[k]).toNat:Int)=92:=fun h=>h92 (UInt8.toNat_inj.1 (by show _=92;omega))
   have hor:¬(l[k]=46\/l[k]=92):=fun h=>h.elim h46 h92
   have q46:(((l[k]).toNat:Int)==46)=false:=by simpa using n46
   have q92:(((l[k]).toNat:Int)==92)=false:=by simpa using n92
   clear h46 h92 n46 n92;by_cases hpr:33<=(l[k]).toNat/\(l[k]).toNat<=126
   case pos=>have HX:Hid (P++vX (l.take (k+1))=hb++(l.take (k+1)).drop k):=J (by rw[HQ1.out,hSl];unfold Ej;rw[if_neg hor,if_pos hpr]);have p1:(33:Int)<=(l[k]).toNat:=Y;have p2:((l[k]).toNat:Int)<=126:=Y;clear HQ1 hSl hor hpr;exact nD
   have HX:Hid (P++vX (l.take (k+1))=hb++[92,UInt8.ofNat (48+(l[k]).toNat/100),UInt8.ofNat (48+(l[k]).toNat/10%10),UInt8.ofNat (48+(l[k]).toNat%10)]):=J (by rw[HQ1.out];unfold Ej;rw[if_neg hor,if_neg hpr]);have D1:Hid (∀W,Calls prog 38 #[.int .i64 (((l[k]).toNat:Int)/100)] W (uQ (.string (bs [UInt8.ofNat (48+(l[k]).toNat/100)])) W)):=J (fun W=>by have:=DG.out ((l[k]).toNat/100) Y W;rw[UO _ Y]at this;exact this);have D2:Hid (∀W,Calls prog 38 #[.int .i64 (((l[k]).toNat:Int)/10%10)] W (uQ (.string (bs [UInt8.ofNat (48+(l[k]).toNat/10%10)])) W)):=J (fun W=>by have:=DG.out ((l[k]).toNat/10%10) Y W;rw[UO _ Y]at this;exact this);have D3:Hid (∀W,Calls prog 38 #[.int .i64 (((l[k]).toNat:Int)%10)] W (uQ (.string (bs [UInt8.ofNat (48+(l[k]).toNat%10)])) W)):=J (fun W=>by have:=DG.out ((l[k]).toNat%10) Y W;rw[UO _ Y]at this;exact this);generalize UInt8.ofNat (48+(l[k]).toNat/100)=x1 at*;generalize UInt8.ofNat (48+(l[k]).toNat/10%10)=x2 at*;generalize UInt8.ofNat (48+(l[k]).toNat%10)=x3 at*;clear HQ1 hSl hor;by_cases p1:33<=(l[k]).toNat
   case pos=>have p1':(33:Int)<=(l[k]).toNat:=Y;have p2:¬((l[k]).toNat:Int)<=126:=Y;clear hpr p1;go_wp2_with fail;refine(D1.out _).mono ?_;rintro _ _ ⟨rfl,rfl⟩;go_wp2_with fail;refine(D2.out _).mono ?_;rintro _ _ ⟨rfl,rfl⟩;go_wp2_with fail;refine(D3.out _).mono ?_;rintro _ _ ⟨rfl,rfl⟩;exact nD
   have p1':¬(33:Int)<=(l[k]).toNat:=Y;clear hpr p1;go_wp2_with fail;refine(D1.out _).mono ?_;rintro _ _ ⟨rfl,rfl⟩;go_wp2_with fail;refine(D2.out _).mono ?_;rintro _ _ ⟨rfl,rfl⟩;go_wp2_with fail;refine(D3.out _).mono ?_;rintro _ _ ⟨rfl,rfl⟩;exact nD
  obtain rfl:k=l.length:=Y;have aBc:¬(l.length:Int)<l.length:=Y;have HP:Hid (P++vX (l.take l.length)=J1):=J (by rw[List.take_of_length_le (Nat.le_refl _)];exact PN.out);rw[HP.out];clear HP PN hlk O avb;go_wp2_with fail;exact⟨⟨i+1,Y,fY,by rw[HJ1.out],trivial⟩,by simp[intOf];omega⟩
 obtain rfl:i=n.length:=Y;have h1:¬(n.length:Int)<n.length:=Y;have hn0:((n.length:Int)==0)=false:=aB;rw[List.take_of_length_le (Nat.le_refl n.length)];clear JL HL DG aA hi;go_wp2_with fail;go_ret;exact⟨I,I⟩
end Go.Proofs.YtakkipnmpmobbaaGreat
