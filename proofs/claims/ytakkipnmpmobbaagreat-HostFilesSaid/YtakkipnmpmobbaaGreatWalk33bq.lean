/-
  Layer 33 (walk):which source comes next.
-/
import Derived.Test.YtakkipnmpmobbaaGreatWalk33q
namespace Go.Proofs.YtakkipnmpmobbaaGreat
open _root_.Go.Proofs.Tryz
open Go.RowKit
def afd(w:World)(A:Option Addr)(n:Nat)(al:Nat->Int)(S:Nat->Nat->Bool):Prop:=
 0<n->∃b off,A=some ⟨b,off,none⟩/\b<w.heap.size/\∀i,i<n->w.cell? ⟨b,off+i*5,none⟩=some (.int .i64 (al i))/\∀j,j<4->w.cell? ⟨b,off+i*5+1+j,none⟩=some (.bool (S i j))
def stat(st:Int):Nat:=if 0<=st/\st<=3 then st.toNat else 2
theorem VY{st:Int}(h:0<=st/\st<=3):stat st=st.toNat:=if_pos h
theorem Sb{st:Int}(h:¬(0<=st/\st<=3)):stat st=2:=if_neg h
theorem VZ(st:Int):stat st<4:=by unfold stat;split<;>omega
theorem abu(A:Option Addr)(n c:Nat)(k st:Int)(w:World)(hn:n<=1000000)(h:k<0\/n-1<=k):
  Calls prog 90 #[.slice A n c,.int .i64 k,.int .i64 st] w (uQ (.tuple #[.int .i64 0,.bool false]) w):=by
 by_cases h0:k<0
 ·exact nY
 ·have U:(n:Int)-1<=k:=Y;clear h;exact nY
theorem UI(A:Option Addr)(n c:Nat)(al:Nat->Int)(S:Nat->Nat->Bool)(k st:Int)(w:World)(hn:n<=1000000)(h:afd w A n al S)(h0:0<=k)(U:k<n-1)(hs:S k.toNat (stat st)=true):
  Calls prog 90 #[.slice A n c,.int .i64 k,.int .i64 st] w (uQ (.tuple #[.int .i64 0,.bool false]) w):=by
 obtain⟨b,off,rfl,Z,hc⟩:=h Y;obtain⟨i,rfl⟩:=Int.eq_ofNat_of_zero_le h0;have afQ:=(hc i Y).2 (stat st) (VZ st);rw[Int.toNat_natCast]at hs;rw[hs]at afQ;clear hc hs h;by_cases hst:0<=st/\st<=3
 ·rw[VY hst]at afQ;obtain⟨s0,s1⟩:=hst;obtain⟨j,rfl⟩:=Int.eq_ofNat_of_zero_le s0;rw[Int.toNat_natCast]at afQ;exact nY
 ·
  rw[Sb hst]at afQ;have alq:w.cell? {block:=b,off:=off+i*5+1+2}=some (Value.bool true):=afQ;by_cases s0:st<0;all_goals
   have aAJ:st<0\/3<st:=Y;exact nY
theorem Yk(A:Option Addr)(n c:Nat)(al:Nat->Int)(S:Nat->Nat->Bool)(k st:Int)(w:World)(hn:n<=1000000)(h:afd w A n al S)(h0:0<=k)(U:k<n-1)(hs:S k.toNat (stat st)=false):
  Calls prog 90 #[.slice A n c,.int .i64 k,.int .i64 st] w (uQ (.tuple #[.int .i64 (k+1),.bool true]) w):=by
 obtain⟨b,off,rfl,Z,hc⟩:=h Y;obtain⟨i,rfl⟩:=Int.eq_ofNat_of_zero_le h0;have afQ:=(hc i Y).2 (stat st) (VZ st);rw[Int.toNat_natCast]at hs;rw[hs]at afQ;clear hc hs h;by_cases hst:0<=st/\st<=3
 ·rw[VY hst]at afQ;obtain⟨s0,s1⟩:=hst;obtain⟨j,rfl⟩:=Int.eq_ofNat_of_zero_le s0;rw[Int.toNat_natCast]at afQ;exact nY
 ·
  rw[Sb hst]at afQ;by_cases s0:st<0;all_goals
   have aAJ:st<0\/3<st:=Y;exact nY
end Go.Proofs.YtakkipnmpmobbaaGreat
