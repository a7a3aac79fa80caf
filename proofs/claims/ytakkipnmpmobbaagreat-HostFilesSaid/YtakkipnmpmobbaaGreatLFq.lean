/-
  Layer 34 (host),with the sources that are none given:the own hosts,then DNS.
-/
import Derived.Test.YtakkipnmpmobbaaGreatLEq
namespace Go.Proofs.YtakkipnmpmobbaaGreat
open _root_.Go.Proofs.Tryz
set_option maxHeartbeats 8000000
open Go.RowKit
set_option maxRecDepth 100000
set_option linter.unusedVariables false
set_option linter.unusedSimpArgs false
variable {n:List (List UInt8)} {dt:Bool} {w0 w:World} {b g gl h2 TK H:Nat}
theorem abP{r:Rs}{nm:List (List UInt8)}{t:Int}{L:Lt}(hN:rR nm=0):(Dz r nm (tU 4) t L).2.2.length=1:=by
 have F:=(Gu r nm 4 t L hN).2;have h3:(Dz r nm (tU 4) t L).2.2.length<=1:=by
  have ht:tU 4=[1]:=K;have Z:(tT (rT r) nm (tU 4) t).bg.length<(tT (rT r) nm (tU 4) t).tys.length:=by rw[ht];exact Nat.zero_lt_one
  have hw:ya (tT (rT r) nm (tU 4) t)=false:=lY;unfold Dz;rw[Gp _ _ Z hw];have hn:¬((Fh (tT (rT r) nm (tU 4) t) L).bg.length<(Fh (tT (rT r) nm (tU 4) t) L).tys.length):=by show ¬(([]++[_]:List Xc).length<(tU 4).length);rw[ht];simp
  unfold tS;rw[if_neg (fun c=>hn c.1)];have:=OR (tT (rT r) nm (tU 4) t) L;simpa using this
 cases h:(Dz r nm (tU 4) t L).2.2 with
 |nil=>exact absurd h F
 |cons a l=>rw[h]at h3;simp at h3⊢;exact h3
section
variable {w0 w:World} {b gl:Nat} {cs:List Value} {r:Rs} {Ah As Asv:Option Addr} {ch cS csv:Nat} {hs:List xC} {ss:List Src} {vs:List He} {s:List UInt8} {fam turn:Int} {L:Lt}
theorem Kp(h:Bk w0 w cs r)(hw:ao w0 w)(hH:wH w0 19 (yY w0) Ah hs)(hhl:hs.length<=100)(hhn:∀h∈hs,h.ns.length<=100)(hSr:wH w0 5 uK As ss)(hsl:ss.length<=17592186044416)(hSv:wH w0 3 wG Asv vs)(hvl:vs.length<=1000)(hs1:s.length<=1000000)(E:sE w gl L)(hus:L.us=0)(hds:L.ds.length<=17592186044416)(hb0:w0.heap.size<=b)(hbw:b<=w.heap.size)(hbg:b<=gl)(hp:parse s= .ok (n,dt))(hl:n≠[])(hS:sP ss=Gj)(hf:(sQ (tI hs) n (yQ fam)).1≠[]):
  Calls prog 11 #[.agg (cs++[Value.slice Ah hs.length ch,Value.slice As ss.length cS,Value.slice Asv vs.length csv]).toArray,.string (bs s),.int .i64 fam,.int .i64 turn,.pointer (some ⟨gl,0,none⟩)] w (Ft (fun g v w'=>v= .slice none 0 0/\∃D c,Sn w0 w' b g gl D c 1/\c.r0=1/\c.r6=0/\uG w' 0 c.r1 ((sQ (tI hs) n (yQ fam)).1.take 64)/\tw w' c.r2 (sQ (tI hs) n (yQ fam)).2/\Below b w w')):=by
 refine Km h hw hH hhl hhn hSr hsl hSv hvl hs1 E hus hds hb0 hbw hbg hp hl _ (fun B g c1 cd S1 HP hcd ah5 b1 hg=>?_);have aij:=Nat.le_trans hbw b1.size;have O:(yT (sP ss) 0).kd=1:=l9;have hl0:0<(sP ss).length:=j3;have hsn:=S1.sn;rw[ah5]at hsn;refine It S1 HP aij hl0 Y _ (fun _ w2 c2 vd A k cc vn xs S2 b2 k2 hw2 ajf hxs hvn hF=>?_) (fun h=>by rw[O]at h;cases h) (fun h=>absurd O h);rcases hF with⟨hF,_⟩|⟨_,rfl,rfl,hT⟩
 ·exact absurd hF hf
 have hst:Hs (sP ss) 0 1=true:=j3;refine(Fo S2.rU HP 1 _ _ 0 ⟨_,hxs⟩ hvn hl0 hst).mono (vG.AY ?_);rintro v w' ⟨rfl,hA,hF2⟩;have hc2:c2.r6=0:=by have:=S2.sn;rw[ajf,ah5]at this;simpa using this
 exact⟨I,_,_,⟨hA,⟨S2.nm.an,S2.nm.bg,S2.nm.nx⟩,S2.sn,I,S2.pp,by show(1:Int)<=1;decide,by show(1:Int)<=5;decide⟩,I,hc2,(hxs.fr hF2).1,hF2.rM _ _ hT,(b1.mono hbw).trans (b2.trans (hF2.tD (Below.refl _ _) (Nat.le_trans aij b2.size) (Nat.le_refl b)))⟩
theorem Kq(h:Bk w0 w cs r)(hw:ao w0 w)(hH:wH w0 19 (yY w0) Ah hs)(hhl:hs.length<=100)(hhn:∀h∈hs,h.ns.length<=100)(hSr:wH w0 5 uK As ss)(hsl:ss.length<=17592186044416)(hSv:wH w0 3 wG Asv vs)(hvl:vs.length<=1000)(hs1:s.length<=1000000)(E:sE w gl L)(hus:L.us=0)(hds:L.ds.length<=17592186044416)(hb0:w0.heap.size<=b)(hbw:b<=w.heap.size)(hbg:b<=gl)(hp:parse s= .ok (n,dt))(hl:n≠[])(hS:sP ss=Gj)(hf:(sQ (tI hs) n (yQ fam)).1=[]):
  Calls prog 11 #[.agg (cs++[Value.slice Ah hs.length ch,Value.slice As ss.length cS,Value.slice Asv vs.length csv]).toArray,.string (bs s),.int .i64 fam,.int .i64 turn,.pointer (some ⟨gl,0,none⟩)] w (Ft (fun g v w'=>∃o D c M,tf 0 w' v o/\o≠[]/\(fam=4->o.length=1)/\KT w0 w' b g gl D c 2 M 0 0 0 false/\Below b w w')):=by
 refine Km h hw hH hhl hhn hSr hsl hSv hvl hs1 E hus hds hb0 hbw hbg hp hl _ (fun B g c1 cd S1 HP hcd ah5 b1 hg=>?_);have aij:=Nat.le_trans hbw b1.size;have O:(yT (sP ss) 0).kd=1:=l9;have hk2:(yT (sP ss) 1).kd=2:=l9;have hl0:1<(sP ss).length:=j3;refine It S1 HP aij (Nat.lt_trans Nat.zero_lt_one hl0) Y _ (fun _ w2 c2 vd A k cc vn xs S2 b2 k2 hw2 ajf hxs hvn hF=>?_) (fun h=>by rw[O]at h;cases h) (fun h=>absurd O h);rcases hF with⟨_,rfl⟩|⟨hF,_⟩
 case inr=>exact absurd hf hF
 have hst:Hs (sP ss) 0 3=false:=j3;have als:=Nat.le_trans aij b2.size;refine Fp S2.rU HP 3 _ _ 0 ⟨_,hxs⟩ (Nat.lt_trans Nat.zero_lt_one hl0) hst _ (fun W hW=>?_);have S3:=S2.yu (p:=fun _=>False) (b':=b) (Fr.G hW) (Nat.le_refl _) id id id;have alr:=Nat.le_trans als hW.size;refine It S3 HP alr hl0 (by rw[ajf,ah5];omega) _ (fun h=>by rw[hk2]at h;cases h) (fun _ w4 c4 S4 b4 k4 hw4 avt hnx _ _=>?_) (fun _ h=>absurd hk2 h);have avq:=Nat.le_trans alr hw4;refine V8 (lo:=w4.heap.size) (H:=0) (.inl S4) HP avq K _ [] (tf.nil _ _) avq (Nat.le_refl _) ar _ (fun w5 c5 L5 vd r1 r2 r3 xs h5 hB hK hw5 hc=>?_) (fun w5 v5 c5 L5 i t LL hi h5 hO5 hB5 hK5 aMg=>?_)
 ·exfalso;have:=(hc S4.pp).1;rw[hnx]at this;exact hcd (List.length_eq_zero_iff.1 this.symm)
 ·
  have hck:rR (cd.getD i [])=0:=by rw[List.getD_eq_getElem?_getD,List.getElem?_eq_getElem hi];exact HP.cn _ (List.getElem_mem hi)
  exact⟨_,_,c5,L5,tf.mono hO5 (Nat.zero_le _),by rw[List.nil_append];exact(Gu _ _ _ t LL hck).2,fun h4=>by subst h4;rw[List.nil_append];exact abP hck,h5,(b1.mono hbw).trans (b2.trans ((hW.mono als).trans (b4.trans hB5)))⟩
end
def Cd:Rs:=⟨[],[],[],0,0,0,false,false,false,false⟩
def Sx:List xC:=[⟨tX 1 2 3 4,[[[97]]]⟩]
theorem agU:parse [65,46]= .ok ([[65]],true):=by kernel_rfl
theorem agV:parse [98]= .ok ([[98]],false):=by kernel_rfl
theorem agn:(sQ (tI Sx) [[65]] (yQ 0)).1.length=1:=by kernel_rfl
theorem agW:(sQ (tI Sx) [[98]] (yQ 4)).1=[]:=by kernel_rfl
theorem s34:sP []=Gj:=by kernel_rfl
theorem ago(g:Nat)(W:World):(Instr.build 33 #[(1,.slice (some ⟨g,0,none⟩) 1 1)]).run prog W= .ok (.agg (zQ rI rI rI Cd++[.slice (some ⟨g,0,none⟩) 1 1,rI,rI]).toArray) W:=by kernel_rfl
theorem agY(w:World):Calls prog 25 #[.int .i64 1,.int .i64 2,.int .i64 3,.int .i64 4] w (rW (.agg (tX 1 2 3 4).cells.toArray) w):=by
 have B2:=N.new w 67 sg.zero.cells;have CB:Below w.heap.size w (w.alloc (.cells sg.zero.cells.toArray 67)):=fZ;go_enter func25,ntmps25;go_wp2_with(refine rF (.store 67 (.tmp 8) (.tmp 18)) I (ab I w.heap.size 0 (tX 1 2 3 4).cells B2 K uq (sg.tm _) ?_));intro w3 B3 g3 _;replace B3:N w3 w.heap.size 67 (tX 1 2 3 4).cells:=B3;exact oK
theorem agp(a d:Int)(A Hh:Option Addr)(n c m e:Nat)(W:World):(Instr.field 50 (.agg [Value.int .i64 a,.slice A n c,.slice Hh m e,.int .i64 d].toArray) 1).run prog W= .ok (.slice A n c) W:=by kernel_rfl
theorem yH(w:World):Calls prog 5 #[] w (rW (.bool true) w):=by
 have RBH:=J (fun A x y W=>Oj (tX 1 2 3 4).cells aN A x y W);have RBC:=J (fun g W=>ago g W);have OF:=J (fun W=>agY W);obtain⟨qc,hqc⟩:=aq ((tX 1 2 3 4).cells);have hql:qc.length=18:=by rw[<-hqc.out];rfl
 rw[hqc.out]at RBH OF;go_enter func5,ntmps5;go_wp2_with fail;refine(OF.out _).mono ?_;rintro _ B ⟨rfl,b1⟩;clear OF;have A0:=N.new B 9 [.string (bs [97])];have A1:=(A0.alloc (.cells #[.slice (some ⟨B.heap.size,0,none⟩) 1 1] 24));have N1:=N.uE (B.alloc (.cells #[.string (bs [97])] 9)) 24 [.slice (some ⟨B.heap.size,0,none⟩) 1 1] (B.heap.size+1) ar;have H1:Below B.heap.size B ((B.alloc (.cells #[.string (bs [97])] 9)).alloc (.cells #[.slice (some ⟨B.heap.size,0,none⟩) 1 1] 24)):=gF;obtain⟨hc,hhc⟩:=aq (qc++[.slice (some ⟨B.heap.size+1,0,none⟩) 1 1]);have hhl:hc.length=19:=by rw[<-hhc.out];simp[hql]
 have aso:=J (fun W=>RBH.out (some ⟨B.heap.size+1,0,none⟩) 1 1 W);rw[hhc.out]at aso;have A2:=A1.alloc (.cells hc.toArray 74);have N2:=N1.alloc (.cells hc.toArray 74);have C2:=N.uE ((B.alloc (.cells #[.string (bs [97])] 9)).alloc (.cells #[.slice (some ⟨B.heap.size,0,none⟩) 1 1] 24)) 74 hc (B.heap.size+1+1) ar;have H2:=H1.alloc H1.size (.cells hc.toArray 74);have A3:=A2.alloc (.cells Nq.toArray 33);have N3:=N2.alloc (.cells Nq.toArray 33);have C3:=C2.alloc (.cells Nq.toArray 33);have H3:=H2.alloc H2.size (.cells Nq.toArray 33);have Y3:=N.uE (((B.alloc (.cells #[.string (bs [97])] 9)).alloc (.cells #[.slice (some ⟨B.heap.size,0,none⟩) 1 1] 24)).alloc (.cells hc.toArray 74)) 33 Nq (B.heap.size+1+1+1) ar;go_wp2_with(first
  |(refine rF (.build 74 #[(0,.tmp 6),(1,.tmp 8)]) rfl ?_;go_must(refine sy rfl 74 _ rfl #[(0,.agg qc.toArray),(1,.slice (some ⟨B.heap.size+1,0,none⟩) 1 1)] cY (aso.out _) ?_))
  |(refine rF (.buildSlice 22 1 #[(0,.tmp 9)]) rfl ?_;go_must(refine uT rfl 22 74 _ 19 56 underlying22 yD K K (.tmp 9) rfl hc rfl hhl ?_))
  |(refine rF (.build 33 #[(1,.tmp 10)]) rfl ?_;go_must(refine sy rfl 33 _ rfl #[(1,.slice (some ⟨B.heap.size+2,0,none⟩) 1 1)] cY (RBC.out _ _) ?_))
  |(refine rF (.store 33 (.tmp 1) (.tmp 11)) rfl (ab rfl (B.heap.size+1+1+1) 0 (zQ rI rI rI Cd++[.slice (some ⟨B.heap.size+2,0,none⟩) 1 1,rI,rI]) Y3 (Nat.le_refl 13) xv (by simp[zQ,Value.oneCell',rI]) ?_)))
 intro w4 X4 g4 sw;clear sw;have B4:N w4 (B.heap.size+1+1+1) 33 (zQ rI rI rI Cd++[.slice (some ⟨B.heap.size+2,0,none⟩) 1 1,rI,rI]):=X4;have A4:=A3.grown g4 di;have N4:=N3.grown g4 di;have C4:=C3.grown g4 di;have H4:=J (rC (Below.refl w.heap.size w|>.trans b1) b1.size (rE H3 g4 H3.size Y));clear A0 A1 A2 A3 N1 N2 N3 C2 C3 H1 H2 H3 Y3 X4 g4 RBH aso RBC;have hn4:wA w4 (some ⟨B.heap.size,0,none⟩) 1 [[97]]:=by refine⟨fun hp=>⟨B.heap.size,0,I,A4.lt,fun i hi=>?_⟩,K,K,K⟩;have:i=0:=kO;subst this;exact A4.rD 0 I
 have hms:Cb w4 (some ⟨B.heap.size+1,0,none⟩) [[[97]]]:=fun _=>⟨B.heap.size+1,0,I,N4.lt,fun i hi=>by
  have:i=0:=kO;subst this;exact⟨_,_,N4.rD 0 I,hn4⟩⟩
 have hH:wH w4 19 (yY w4) (some ⟨B.heap.size+2,0,none⟩) Sx:=fun _=>⟨B.heap.size+2,0,I,C4.lt,fun i hi=>by
  have:i=0:=by simp[Sx]at hi;omega
  subst this;exact⟨hc,fun j v hv=>by have:=C4.rD j hv;simpa using this,some ⟨B.heap.size+1,0,none⟩,1,by rw[<-hhc.out,<-hqc.out];rfl,aN,hms⟩⟩
 have hR:Bk w4 w4 (zQ rI rI rI Cd) Cd:=⟨none,0,none,0,none,0,I,fun h=>absurd h K,fun h=>absurd h K,fun h=>absurd h K,K,K,K⟩;have hSr:wH w4 5 uK none ([]:List Src):=fun h=>absurd h K
 have hSv:wH w4 3 wG none ([]:List He):=fun h=>absurd h K
 have hhn:∀h∈Sx,h.ns.length<=100:=K;have fne:(sQ (tI Sx) [[65]] (yQ 0)).1≠[]:=fun h=>by have:=agn;rw[h]at this;cases this
 have NA:=J (fun V b gl (hV:ao w4 V) (E:sE V gl ⟨[],0⟩) (h0:w4.heap.size<=b) (Z:b<=V.heap.size) (hbg:b<=gl)=>Kp (s:=[65,46]) (fam:=0) (turn:=0) (ch:=1) (cS:=0) (csv:=0) (hR.G hV) hV hH K hhn hSr K hSv K K E I K h0 Z hbg agU K s34 fne);have NB:=J (fun V b gl (hV:ao w4 V) (E:sE V gl ⟨[],0⟩) (h0:w4.heap.size<=b) (Z:b<=V.heap.size) (hbg:b<=gl)=>Kq (s:=[98]) (fam:=4) (turn:=0) (ch:=1) (cS:=0) (csv:=0) (hR.G hV) hV hH K hhn hSr K hSv K K E I K h0 Z hbg agV K s34 agW);clear hn4 hms hH hR hSr hSv hhn fne A4 N4 C4;change Hid (∀(V:World) (b gl:Nat),ao w4 V->sE V gl ⟨[],0⟩->w4.heap.size<=b->b<=V.heap.size->b<=gl->Calls prog 11 #[.agg (zQ rI rI rI Cd++[.slice (some ⟨B.heap.size+2,0,none⟩) 1 1,rI,rI]).toArray,.string ⟨#[65,46]⟩,.int .i64 0,.int .i64 0,.pointer (some ⟨gl,0,none⟩)] V _)at NA;change Hid (∀(V:World) (b gl:Nat),ao w4 V->sE V gl ⟨[],0⟩->w4.heap.size<=b->b<=V.heap.size->b<=gl->Calls prog 11 #[.agg (zQ rI rI rI Cd++[.slice (some ⟨B.heap.size+2,0,none⟩) 1 1,rI,rI]).toArray,.string ⟨#[98]⟩,.int .i64 4,.int .i64 0,.pointer (some ⟨gl,0,none⟩)] V _)at NB;obtain⟨CS,hCS⟩:=aq (zQ rI rI rI Cd++[.slice (some ⟨B.heap.size+2,0,none⟩) 1 1,rI,rI]);have aiE:CS.length=13:=by rw[<-hCS.out];rfl
 rw[hCS.out]at NA NB B4⊢;unfold Ft at NA NB;obtain⟨g1,hg1⟩:=aq (B.heap.size+1+1+1);rw[hg1.out]at B4⊢;have h14:g1<w4.heap.size:=B4.lt;go_wp2_with fail;refine wp_region_held_drew (S:=fun V=>N V g1 33 CS) (by kernel_rfl) B4.drew (fun hS=>?_);refine rS hS 1 [0] I (by kernel_rfl) (fun _ _ _ _ _ h=>h) I I ?_
 (refine aj _ I I (fun V hV=>(rX 33 (.tmp 1) ⟨g1,0,none⟩ I I (hV.tW 33 0 13 Y _ underlying33 I xv CS (uH Y)))) ?_;simp only[X])
 simp only[sS];refine su 1 (some 14) 13 #[.slice none 0 0] (by kernel_rfl) I I (by kernel_rfl) bc (EP none 0 [] _ (fun h=>absurd h K) K) ?_;rintro _ w5 ⟨gl,rfl,hL,b5,hgl⟩;have S5:=hS.G b5 hS.lt;have b45:=rC ((Below.refl w4.heap.size w4).drew) (Nat.le_refl _) b5;refine⟨_,I,S5,?_⟩;simp only[X];refine su 2 (some 15) 11 _ (by kernel_rfl) I I (by kernel_rfl) bc (NA.out w5 w4.heap.size gl b45 hL (Nat.le_refl _) b45.size hgl) ?_;rintro _ w6 ⟨ga,va,rfl,rfl,D1,c1,hE,hr0,hsn,hA,hT,b6⟩;have S6:=S5.G b6 h14;have b46:=J (b45.trans b6);refine⟨_,I,S6,?_⟩;have HE:=J (And.intro hE (And.intro hA hT));clear hS hL hgl S5 b5 b45 b6 NA hE hA hT hr0 hsn;have hS:=S6;simp only[X];refine rS hS 5 [3,4,5,6,7] I (by kernel_rfl) (fun _ _ _ _ _ h=>h) I I ?_
 (refine ak (.tuple #[.pointer (some ⟨ga,0,none⟩),.slice none 0 0]) ?_;simp only[X])
 (refine ak (.pointer (some ⟨ga,0,none⟩)) ?_;simp only[X])
 (refine ak (.slice none 0 0) ?_;simp only[X])
 (refine ak (.pointer (some ⟨ga,0,none⟩)) ?_;simp only[X])
 (refine ak (.slice none 0 0) ?_;simp only[X])
 simp only[sS];refine wpAnyH_done (by kernel_rfl) ?_ _;clear hS B4;go_wp2_with fail;refine wp_region_held_drew (S:=fun V=>N V g1 33 CS) (by kernel_rfl) S6.drew (fun hS=>?_);refine rS hS 1 [0] I (by kernel_rfl) (fun _ _ _ _ _ h=>h) I I ?_
 (refine aj _ I I (fun V hV=>(rX 33 (.tmp 1) ⟨g1,0,none⟩ I I (hV.tW 33 0 13 Y _ underlying33 I xv CS (uH Y)))) ?_;simp only[X])
 simp only[sS];refine su 1 (some 20) 13 #[.slice none 0 0] (by kernel_rfl) I I (by kernel_rfl) bc (EP none 0 [] _ (fun h=>absurd h K) K) ?_;rintro _ w7 ⟨gm,rfl,hM,b7,hgm⟩;have S7:=hS.G b7 hS.lt;have b67:=rC ((Below.refl w6.heap.size w6).drew) (Nat.le_refl _) b7;have b47:=rC b46.out b46.out.size b67;refine⟨_,I,S7,?_⟩;simp only[X];refine su 2 (some 21) 11 _ (by kernel_rfl) I I (by kernel_rfl) bc (NB.out w7 w6.heap.size gm b47 hM b46.out.size b67.size hgm) ?_;rintro _ w8 ⟨gb,vb,rfl,o,D2,c2,M,hO,ho0,ho1,hW,b8⟩;have ho1:=ho1 (by trivial);obtain⟨Ab,cb,rfl,-,-⟩:=hO.form;rw[ho1];have S8:=S7.G b8 (by have:=b46.out.size;omega);have b68:=J (b67.trans b8);refine⟨_,I,S8,?_⟩;have HW:=J hW;clear hS hM hgm S7 b7 b67 b47 b8 NB hW hO ho0 ho1 S6;have hS:=S8;simp only[X];refine rS hS 5 [3,4,5,6,7] I (by kernel_rfl) (fun _ _ _ _ _ h=>h) I I ?_
 (refine ak (.tuple #[.pointer (some ⟨gb,0,none⟩),.slice Ab 1 cb]) ?_;simp only[X])
 (refine ak (.pointer (some ⟨gb,0,none⟩)) ?_;simp only[X])
 (refine ak (.slice Ab 1 cb) ?_;simp only[X])
 (refine ak (.pointer (some ⟨gb,0,none⟩)) ?_;simp only[X])
 (refine ak (.slice Ab 1 cb) ?_;simp only[X])
 simp only[sS];refine wpAnyH_done (by kernel_rfl) ?_ _;clear hS S8;have hE8:=HE.out.1.yu (p:=fun _=>False) (b':=w4.heap.size) (Fr.G b68.out) (Nat.le_refl _) id id;obtain⟨T1,K1,-⟩:=hE8.rU.k;obtain⟨T2,K2,-⟩:=HW.out.rU.k;have DA:=J (xD K1);rw[hE8.dn]at DA;have DB:=J (fun V (hV:ao w8 V)=>xD (K2.G hV));rw[HW.out.dn]at DB;have hx1:((sQ (tI Sx) [[65]] (yQ 0)).1.take 64).length=1:=by rw[List.length_take,agn];rfl
 have RA:=J (zL K1 hE8.dn (rJ.G (R':=xH) HE.out.2.1 b68.out (fun _ _ x=>x)) (by rw[hx1];decide) hE8.rU.eq.2.2.2.1);have AK:=J (fun V (hV:ao w8 V)=>U0 (HW.out.rU.G hV) K);obtain⟨Ar,kr,hr2,-,-⟩:=HE.out.2.2.form;rw[hr2]at RA;have RA:=J (RA.out);clear hr2;unfold Kn at RA;unfold aek at AK;have HB:=J (rC H4.out H4.out.size (rC b46.out b46.out.size b68.out));clear hE8 K1 K2 HE HW;go_wp2_with fail;refine DA.out.mono ?_;rintro _ _ ⟨rfl,rfl⟩;clear DA;go_wp2_with fail;refine RA.out.mono ?_;rintro _ w9 ⟨v9,rfl,hO9,b9⟩;obtain⟨A9,c9,rfl⟩:=hO9.form;rw[hx1];have DB9:=J (DB.out w9 b9);have AK9:=J (AK.out w9 b9);have HB9:=J (rC HB.out HB.out.size b9);clear RA hO9 b9 DB AK HB hx1;have F1:=J (fun W=>agp c1.r0 c1.r3 A9 Ar 1 c9 (sQ (tI Sx) [[65]] (yQ 0)).2.length kr W);go_wp2_with(refine rF (.field 50 (.tmp 41) 1) I ?_;go_must(refine zw (v:=.slice A9 1 c9) bc (AO 50 (.tmp 41) 1 I I (F1.out _)) ?_));refine DB9.out.mono ?_;rintro _ _ ⟨rfl,rfl⟩;clear DB9;go_wp2_with fail;refine AK9.out.mono ?_;rintro _ w10 ⟨A10,k10,rfl,b10⟩;have aD7:=J (rC HB9.out HB9.out.size b10);clear AK9 HB9 b10;go_wp2_with fail;go_ret;exact rW.mk I aD7.out
def Fu(CS:List Value)(s:List UInt8)(fam turn:Int)(vl:Value):List Value:=CS++[.string (bs s),.int .i64 fam,.int .i64 turn,vl]
theorem Wd{CS:List Value}{s:List UInt8}{fam turn:Int}{vl:Value}(h:CS.length=13):(Fu CS s fam turn vl).length=17/\(Fu CS s fam turn vl).take 13=CS/\(Fu CS s fam turn vl)[13]?=some (.string (bs s))/\(Fu CS s fam turn vl)[14]?=some (.int .i64 fam)/\(Fu CS s fam turn vl)[15]?=some (.int .i64 turn)/\(Fu CS s fam turn vl)[16]?=some vl:=by
 unfold Fu;refine⟨by simp[h],List.take_left' h,?_,?_,?_,?_⟩<;>(rw[List.getElem?_append_right Y,h];rfl)
def We(hs:List xC)(ss:List Src)(vs:List He)(s:List UInt8)(nd:Nat)(w:World)(e:Ending)(w':World):Prop:=∃b,e= .returned (.bool b)/\(b=true->agm hs ss vs/\s.length<=1000/\nd<=200)/\ao w w'
section
variable {cs:List Value} {r:Rs} {Ah As Asv Ad:Option Addr} {ch cS csv cd:Nat} {hs:List xC} {ss:List Src} {vs:List He}
theorem Sy(w:World)(h:yc w cs r)(hH:wH w 19 (yY w) Ah hs)(hSv:wH w 3 wG Asv vs)(hhl:hs.length<=17592186044416)(hsl:ss.length<=17592186044416)(hvl:vs.length<=17592186044416)(s:List UInt8)(fam turn:Int)(nd:Nat):
  Calls prog 19 #[.agg (Fu (cs++[Value.slice Ah hs.length ch,Value.slice As ss.length cS,Value.slice Asv vs.length csv]) s fam turn (.slice Ad nd cd)).toArray] w (We hs ss vs s nd w):=by
 have aiE:(cs++[Value.slice Ah hs.length ch,Value.slice As ss.length cS,Value.slice Asv vs.length csv]).length=13:=by simp[h.len]
 obtain⟨hLl,L0,L13,L14,L15,L16⟩:=Wd (s:=s) (fam:=fam) (turn:=turn) (vl:=.slice Ad nd cd) aiE;have FW:=J (fun V (hV:ao w V)=>Ko (ch:=ch) (cS:=cS) (csv:=csv) V (cs:=cs) (r:=r) (by
  obtain⟨A1,c1,A2,c2,A3,c3,h0,U,F,h3,l1,l2,l3⟩:=h;exact(⟨A1,c1,A2,c2,A3,c3,h0,U.mono hV (fun _ _ h=>h),xA F hV,h3.mono hV (fun _ _ h=>h),l1,l2,l3⟩:yc V cs r)) (hH.mono hV (fun _ x ⟨A,c,U,F,h3⟩=>⟨A,c,U,F,xA h3 hV⟩)) (hSv.mono hV (fun _ _ x=>x)) hhl hsl hvl (As:=As))
 unfold abO at FW;generalize(cs++[Value.slice Ah hs.length ch,Value.slice As ss.length cS,Value.slice Asv vs.length csv])=CS at*;obtain⟨TL,hTL⟩:∃TL,Fu CS s fam turn (.slice Ad nd cd)=TL:=gh;rw[hTL]at hLl L0 L13 L14 L15 L16⊢;have HX:Below w.heap.size w (w.alloc (.cells TL.toArray 58)):=fZ;have hk:=N.new w 58 TL;clear hTL h hH hSv;go_enter func19,ntmps19;go_wp2_with(refine rF (.load 33 (.tmp 3)) I ?_;go_must(refine rG I _ _ I w.heap.size 0 I hk 13 Y _ underlying33 I xv CS fH ?_));refine(FW.out _ HX).mono ?_;rintro _ B ⟨b,rfl,hok,b1⟩;have X1:=hk.G b1 hk.lt;have H1:=rC HX HX.size b1;have d13:=X1.rD 13 L13;have d16:=X1.rD 16 L16;have HOK:=J hok;clear hk b1 FW HX X1 hok;cases b with
 |false=>go_wp2_with fail;go_ret;exact⟨_,I,fun h=>cX,H1⟩
 |true=>
 by_cases U:(s.length:Int)<=1000
 case neg=>go_wp2_with fail;go_ret;exact⟨false,I,fun h=>cX,H1⟩
 by_cases F:(nd:Int)<=200
 case neg=>go_wp2_with fail;go_ret;exact⟨_,I,fun h=>absurd (of_decide_eq_true h) Y,H1⟩
 go_wp2_with fail;go_ret;exact⟨true,I,fun _=>⟨HOK.out (by trivial),Y,Y⟩,H1⟩
end
def GF(w0 w:World)(b g gl:Nat)(D:Cg)(h2 TK H:Nat):Prop:=∃c n L,1<=n/\(KT w0 w b g gl D c n L h2 TK H false\/Sn w0 w b g gl D c n)
theorem GF.G{w':World}{D:Cg}(h:GF w0 w b g gl D h2 TK H)(Z:b<=w.heap.size)(k:ao w w'):GF w0 w' b g gl D h2 TK H:=by
 obtain⟨c,n,L,U,F⟩:=h;refine⟨c,n,L,U,?_⟩;rcases F with F|F
 ·exact .inl (F.yu (p:=fun _=>False) (b':=b) (Fr.G k) (Nat.le_refl _) Z id id id id id id id)
 ·exact .inr (F.yu (p:=fun _=>False) (b':=b) (Fr.G k) (Nat.le_refl _) id id)
def abQ(w0:World)(b g gl:Nat)(D:Cg)(h2 TK H:Nat)(w:World)(e:Ending)(w':World):Prop:=∃v,e= .returned v/\GF w0 w' b g gl D h2 TK H/\Below b w w'
theorem GF.OG{D:Cg}(h:GF w0 w b g gl D h2 TK H)(hp:KS D)(hE:h2+1<=80000000)(hbw:b<=w.heap.size)(e:Ev)(rB:e.fr.ip.length=16)(hH:H+e.data.length<=8796093022208):Calls prog 22 #[.pointer (some ⟨g,0,none⟩),.agg (vA e).toArray] w (abQ w0 b g gl D (h2+1) (TK+if e.kind=1 then 1 else 0) (H+e.data.length) w):=by
 obtain⟨c,n,L,U,F⟩:=h;rcases F with F|F
 ·refine(adV hp hE U F hbw e rB hH).mono ?_;exact pH
 ·refine(adU U F hbw e rB (h2+1) (TK+if e.kind=1 then 1 else 0) (H+e.data.length)).mono ?_;exact pH
def abR(w0:World)(b g gl:Nat)(D:Cg)(TK:Nat)(w:World)(e:Ending)(w':World):Prop:=w'=w/\((e= .returned (.bool true)/\∃c n,1<=n/\Sn w0 w b g gl D c n)\/(e= .returned (.bool false)/\TK<14*sm D.r*D.ss.length))
theorem HsN.b7{D:Cg}{c:Hc}{n:Nat}(h:HsN D c n)(hp:KS D)(hn:1<=n):c.bg<=7*D.ss.length:=by
 have U:=h.an;have F:=h.bg;have h3:=h.nx;have h5:=hp.cl;omega
theorem GF.afj{D:Cg}(h:GF w0 w b g gl D h2 TK H)(hp:KS D):Calls prog 14 #[.pointer (some ⟨g,0,none⟩)] w (abR w0 b g gl D TK w):=by
 obtain⟨c,n,L,U,F⟩:=h;rcases F with F|F
 ·
  obtain⟨T,k,_⟩:=F.rU.k;refine(xD k).mono ?_;rintro _ w' ⟨rfl,rfl⟩;refine⟨I,.inr ⟨by rw[F.dn],?_⟩⟩;have h3:=F.Sp;have h4:=F.nm.b7 hp U;have h5:2*sm D.r*c.bg<=2*sm D.r*(7*D.ss.length):=Nat.mul_le_mul_left _ h4;have h6:2*sm D.r*(7*D.ss.length)=14*sm D.r*D.ss.length:=by exact pd
  omega
 ·obtain⟨T,k,_⟩:=F.rU.k;refine(xD k).mono ?_;rintro _ w' ⟨rfl,rfl⟩;exact⟨I,.inl ⟨by rw[F.dn],c,n,U,F⟩⟩
def HnQ(w0:World)(b gl:Nat)(r:Rs)(ss:List Src)(s:List UInt8)(w:World)(g:Nat)(v:Value)(w':World):Prop:=(∃A n c,v= .slice A n c)/\Below b w w'/\((∀n d,parse s= .ok (n,d)->n=[])/\v= .slice none 0 0/\(∃D c,Sn w0 w' b g gl D c 0/\c.r0=3/\c.r6=0)\/∃n d D,parse s= .ok (n,d)/\n≠[]/\KS D/\D.ss=sP ss/\D.r=rT r/\GF w0 w' b g gl D 0 0 0)
section
variable {w0 w:World} {b gl:Nat} {cs:List Value} {r:Rs} {Ah As Asv:Option Addr} {ch cS csv:Nat} {hs:List xC} {ss:List Src} {vs:List He} {s:List UInt8} {fam turn:Int} {L:Lt}
theorem abS(h:Bk w0 w cs r)(hw:ao w0 w)(hH:wH w0 19 (yY w0) Ah hs)(hhl:hs.length<=100)(hhn:∀h∈hs,h.ns.length<=100)(hSr:wH w0 5 uK As ss)(hsl:ss.length<=17592186044416)(hSv:wH w0 3 wG Asv vs)(hvl:vs.length<=1000)(hs1:s.length<=1000000)(E:sE w gl L)(hus:L.us=0)(hds:L.ds.length<=17592186044416)(hb0:w0.heap.size<=b)(hbw:b<=w.heap.size)(hbg:b<=gl):
  Calls prog 11 #[.agg (cs++[Value.slice Ah hs.length ch,Value.slice As ss.length cS,Value.slice Asv vs.length csv]).toArray,.string (bs s),.int .i64 fam,.int .i64 turn,.pointer (some ⟨gl,0,none⟩)] w (Ft (HnQ w0 b gl r ss s w)):=by
 by_cases ajg:∀n d,parse s= .ok (n,d)->n=[]
 ·refine(Yz h hw hH hhl hhn hSr hsl hSv hvl hs1 E hb0 hbw hbg ajg).mono ?_;rintro _ w' ⟨g,v,rfl,rfl,c,U,F,h3,h4⟩;exact⟨g,_,I,⟨_,_,_,I⟩,h4.mono hbw,.inl ⟨ajg,I,_,c,U,F,h3⟩⟩
 ·
  have:∃n d,parse s= .ok (n,d)/\n≠[]:=by apply Classical.byContradiction;intro hc;exact ajg (fun n d he=>Classical.byContradiction (fun hn=>hc ⟨n,d,he,hn⟩))
  obtain⟨n,d,hp,hl⟩:=this;refine Km h hw hH hhl hhn hSr hsl hSv hvl hs1 E hus hds hb0 hbw hbg hp hl _ (fun B g c1 cd S1 HP hcd ah5 b1 hg=>?_);have aij:=Nat.le_trans hbw b1.size;refine(Pf (H:=0) HP K (sP ss).length 0 (by show(sP ss).length<=0+(sP ss).length;omega) B c1 L S1 aij Y (by have:=Ds ss;show 0<(sP ss).length;omega)).mono (vG.AY ?_);rintro v w' ⟨o,c',n',L',q0,q1,q2,q3,q4,q5⟩;obtain⟨A,cc,rfl,-,-⟩:=q1.form;exact⟨⟨_,_,_,I⟩,(b1.mono hbw).trans q4,.inr ⟨n,d,_,hp,hl,HP,I,I,c',n',L',q0,q3⟩⟩
end
end Go.Proofs.YtakkipnmpmobbaaGreat
