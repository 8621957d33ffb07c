/- Package covar: factor. Reference of frac: Same, Cmp. -/
import Derived.Deep.LoopGhost
import Derived.Test.YthappeninglakaaGreatZa10
set_option maxRecDepth 100000
set_option maxHeartbeats 16000000
set_option linter.unusedSimpArgs false
set_option linter.unusedVariables false
namespace Go.Proofs.YthappeninglakaaGreat
open Go.RowKit
open Act renaming put→Qa
open Below renaming refl→Qb
open Nat renaming le_refl→Qc,le_trans→Qd,lt_or_ge→Qh,lt_trans→Qk,lt_succ_self→Qs,zero_le→Qu,lt_of_lt_of_le→Qx,lt_of_le_of_lt→Qy
open List renaming mem_of_getElem?→Qe,length_map→Qj,getElem?_eq_getElem→Ql,getElem?_map→Qm,all_eq_true→Qn,range_succ→Qt,mem_singleton→Qw,getElem_mem→Qz,range→QA
open Blk renaming new→Qf
open And renaming intro→Qg
open Bool renaming and_eq_true→Qi,or_eq_false_iff→Qv
open Option renaming getD_some→Qo,map_some→Qp
open Kept renaming refl→Qq
open Int renaming natAbs_natCast→Qr
attribute [local go_sem] Zi
theorem Zl5:(Tryz.prog.info? 73).map (λi=>(i.zero,i.size,i.bytes))=some (some (.agg #[.bool false,.slice none 0 0,.bool false,.slice none 0 0]),4,64):=by kernel_rfl
theorem Z1x:(Tryz.prog.info? 97).map (λi=>(i.zero,i.size,i.bytes))=some (some (.slice none 0 0),1,24):=by kernel_rfl
theorem Zfh{w:World}{t:TypeId}{g:Nat}{A:Option Addr}{n c:Nat}(h:Blk w g t #[.slice A n c]):Reads w (g+1) 1 (some ⟨g,0,none⟩) 1 (Zar [⟨A,n,c⟩]):=
 ⟨rfl,λ_=>⟨_,rfl,Qs _,λj u hu=>by
  rw[Zi,Nat.zero_add,h.cell];simpa [Zar]using hu⟩⟩
def Zjm(A:Nat->Nat->Rat)(i k:Nat):List Rat:=(QA k).map (lQ A i)
def Zhb(A:Nat->Nat->Rat)(i:Nat):List (List Rat):=(QA i).map λr=>Zjm A r r
def dsL(A:Nat->Nat->Rat)(i:Nat):List Rat:=(QA i).map (dQ A)
section
variable{A:Nat->Nat->Rat}{i j k:Nat}
theorem Zga:(Zjm A i k).length=k:=by simp[Zjm]
theorem Zf0:(Zhb A i).length=i:=by simp[Zhb]
theorem Zj0:(dsL A i).length=i:=by simp[dsL]
theorem Zma(h:j<k):(Zjm A i k)[j]?.getD 0=lQ A i j:=by simp[Zjm,h]
theorem Zm6(h:j<i):(Zhb A i)[j]?.getD []=Zjm A j j:=by simp[Zhb,h]
theorem Zqm(h:j<i):(dsL A i)[j]?.getD 0=dQ A j:=by simp[dsL,h]
theorem Zy2:Zjm A i (k+1)=Zjm A i k ++ [lQ A i k]:=by simp[Zjm,Qt]
theorem Zni:Zhb A (i+1)=Zhb A i ++ [Zjm A i i]:=by simp[Zhb,Qt]
theorem Z1p:dsL A (i+1)=dsL A i ++ [dQ A i]:=by simp[dsL,Qt]
end
theorem cmpZ_pos0{z:Int}:(0<Zco z 0) ↔ 0<z:=by
 unfold Zco
 split
 ·constructor <;> intro h <;> omega
 split
 ·constructor <;> intro h <;> omega
 constructor <;> intro h <;> omega
theorem num_pos0{q:Rat}:0<q.num ↔ 0<q:=by
 constructor
 ·intro h
  refine Rat.lt_of_le_of_ne (Rat.num_nonneg.1 Gk) (λe=>?_);rw[<- e]at h;exact absurd h Gj
 intro h;have h5:=Rat.num_nonneg.2 (Rat.le_of_lt h);rcases Int.lt_or_eq_of_le h5 with h6|h6;exact h6;rw[Rat.num_eq_zero.1 h6.symm]at h;exact absurd h Gj
def FacPost(A:Nat->Nat->Rat)(n:Nat)(w:World)(e:Ending)(w':World):Prop:=
 Below w.heap.size w w'/\((posP A n/\∃ v1 v2 rs,e=.returned (.agg #[v1,v2])/\FacM 97 73 w' w.heap.size v1 v2 rs (Zhb A n) (dsL A n)) \/
  (¬ posP A n/\e=.panicked [{ v:=.iface 117 (.agg #[.int .i64 8]),recovered:=false }]))
theorem Ij{G:Prop}(h:G:=by
 exact .inr ⟨g,sp,h1,Nat.le_trans hb h2,h3⟩):G:=h
theorem FacM.lower{tS tN:TypeId}{w:World}{b b':Nat}{v1 v2:Value}{rs:List RS}{Q:List (List Rat)}{ds:List Rat}(h:FacM tS tN w b v1 v2 rs Q ds)(hb:b'<=b):FacM tS tN w b' v1 v2 rs Q ds:=by
 refine⟨⟨?_,h.1.2.1,λi r hr=>(h.1.2.2.1 i r hr).lower hb,h.1.2.2.2⟩,h.2.1.lower hb,h.2.2⟩;rcases h.1.1 with h|⟨g,sp,h1,h2,h3⟩;exact .inl h;exact Ij
theorem Zpl{A:Nat->Nat->Rat}{n i k j:Nat}(h:FacP A n)(hi:i<n)(hk:k<i)(hj:j<k)(hp:posP A i):(∀ t,t<2->Sm (Zi0 (lQ A i j) [lQ A k j,dQ A j] t))/\∀ t:Nat,t<2->Sm ([lQ A k j,dQ A j][t]?.getD 0):=by
 have e:posP A (j+1):=hp.mono Gk;constructor
 ·intro t ht
  match t,ht with
  | 0,_=>exact(h.l i j Gk hi e).sm Gj Gj
  | 1,_=>exact(h.ll Gk hi Gk (show k<n by omega) e).sm Gj Gj
 intro t ht
 match t,ht with
 | 0,_=>exact(h.l k j Gk Gk e).sm Gj Gj
 | 1,_=>exact(h.d (show j<n by omega) (hp.mono Gk)).sm Gj Gj
theorem Zmo{A:Nat->Nat->Rat}{n i k:Nat}(h:FacP A n)(hi:i<n)(hk:k<i)(hp:posP A i):(∀ t,t<2->Sm (Zi0 (lQ A i k) [lQ A i k,dQ A k] t))/\∀ t:Nat,t<2->Sm ([lQ A i k,dQ A k][t]?.getD 0):=by
 have e:posP A (k+1):=hp.mono Gk;constructor
 ·intro t ht
  match t,ht with
  | 0,_=>exact(h.l i k Gk hi e).sm Gj Gj
  | 1,_=>exact(h.ll Gk hi Gk hi e).sm Gj Gj
 intro t ht
 match t,ht with
 | 0,_=>exact(h.l i k Gk hi e).sm Gj Gj
 | 1,_=>exact(h.d (show k<n by omega) (hp.mono Gk)).sm Gj Gj
theorem Zze{A:Nat->Nat->Rat}{n i k j:Nat}(h:FacP A n)(hi:i<n)(hk:k<i)(hj:j<k)(hp:posP A i):Sm (Zu A j i k)/\Sm (Zi0 (lQ A i j) [lQ A k j,dQ A j] 2):=
 ⟨(h.s j i k Gk (hp.mono Gk) hi Gk).sm Gj Gj,(h.lld Gk hi Gk (show k<n by omega) (hp.mono Gk)).sm Gj Gj⟩
theorem Zwl{A:Nat->Nat->Rat}{n i k:Nat}(h:FacP A n)(hi:i<n)(hk:k<i)(hp:posP A i):Sm (Zu A k i i)/\Sm (Zi0 (lQ A i k) [lQ A i k,dQ A k] 2):=
 ⟨(h.s k i i Gk (hp.mono Gk) hi hi).sm Gj Gj,(h.lld Gk hi Gk hi (hp.mono Gk)).sm Gj Gj⟩
theorem fac_q{A:Nat->Nat->Rat}{n i k:Nat}(h:FacP A n)(hi:i<n)(hk:k<i)(hp:posP A i):Sm (Zu A k i k)/\Sm (dQ A k)/\dQ A k≠0:=
 ⟨(h.s k i k Gk (hp.mono Gk) hi Gk).sm Gj Gj,(h.d (show k<n by omega) (hp.mono Gk)).sm Gj Gj,hp.ne hk⟩
theorem Zuh(A0:Option Addr)(n c:Nat)(Q:List (List Rat))(w:World)(h:MFL w A0 n c Q)(hn9:n<=900)(hm:∀ i,i<n->(Q[i]?.getD []).length=n)(hF:FacP (Zj Q) n) :
    Calls Tryz.prog 107 #[.slice A0 n c] w (FacPost (Zj Q) n w):=by
 obtain⟨iN,hi,F8,D9,F3⟩:=info_parts Zl5;obtain⟨iS,ki,k6,k8,k9⟩:=info_parts Z1x;have hmx:=Gt;have c3:(97:TypeId)≠73:=Gj;have K3:=h.2.1;have I5:=h.2.2.1;unfold maxLen at I5;obtain⟨AQ,s6⟩:=Gz (Zj Q);rw[s6]at hF ⊢;obtain⟨W0,F2,s8,q0,s0⟩:=Zao w 99 #[.slice none 0 0,.slice none 0 0];obtain⟨gx,g0⟩:=Gz w.heap.size;rw[g0]at q0 s0 s8;have J3:Hid (W0.heap.size=gx+1):=Zd s0;have hH:=Zd h;replace hm:=Zd hm;replace hF:=Zd hF;replace s6:=Zd s6;clear h s0;go_in;go_wp2_with fail;(try rw[F2]);(try rw[g0]);replace g0:=Zd g0;replace s8:=Zd s8;clear F2
 go_loopg [12] n (λt iv wr=>∃ (i:Nat) (v1 v2:Value) (rs:List RS),i+t=n/\iv=.int .i64 i/\Blk wr gx 99 #[v1,v2]/\FacM 97 73 wr W0.heap.size v1 v2 rs (Zhb AQ i) (dsL AQ i)/\Hid (posP AQ i)/\Kept (λk=>k=gx) W0 wr)
 case atStart=>exact⟨0,.slice none 0 0,.slice none 0 0,[],by omega,rfl,q0,FacM.nil _ _ _ _,Zd (λt ht=>by omega),Qq _ _⟩
 case round =>
  clear q0;obtain⟨wi,rfl⟩:=Gy wr;obtain⟨i,v1,v2,rs,K8,rfl,f,c6,y,hK⟩:=hrel;have K2:=J3.out;have d9:Hid (Below gx w wi):=Zd (s8.out.trans (hK.to_below (λk hk=>by omega) Gk));obtain⟨A1,c1,e1,o8⟩:=c6.1.mflA;obtain⟨A2,c2,e2,d7⟩:=c6.2.1.fl;rw[Zf0]at e1 o8;rw[Zj0]at e2 d7;subst e1;subst e2;have x0:wi.cell? ⟨gx,0,none⟩=some (.slice A1 i c1):=by rw[f.cell];rfl
  have x1:wi.cell? ⟨gx,1,none⟩=some (.slice A2 i c2):=by rw[f.cell];rfl
  have z0:=f.frozen 0;have z1:=f.frozen 1;cases gk with
  | zero =>
   obtain rfl:i=n:=Gk;have t1:decide ((i:Int)<(i:Int))=false:=Gh;obtain⟨X,hX⟩:∃ X,(wi.setCell ⟨gx,0,none⟩ (.slice A1 i c1)).setCell ⟨gx,1,none⟩ (.slice A2 i c2)=X:=⟨_,rfl⟩;have B9:Kept (λk=>k=gx) wi X:=by rw[<- hX];exact Kept.set_ (G:=λk=>k=gx) (Kept.set_ (G:=λk=>k=gx) (Qq _ _) (p:=⟨gx,0,none⟩) (.inl rfl) _) (p:=⟨gx,1,none⟩) (.inl rfl) _
   have A4:Blk X gx 99 #[.slice A1 i c1,.slice A2 i c2]:=by rw[<- hX];exact(f.set_ 0 (.slice A1 i c1)).set_ 1 (.slice A2 i c2)
   have y0:X.cell? ⟨gx,0,none⟩=some (.slice A1 i c1):=by rw[A4.cell];rfl
   have y1:X.cell? ⟨gx,1,none⟩=some (.slice A2 i c2):=by rw[A4.cell];rfl
   have I9:=Zd (c6.box f (Zlb _ _ _ _ _ _) Gk B9);have I4:Hid (Below gx w X):=Zd (d9.out.trans (B9.to_below (λk hk=>by omega) (by have:=d9.out.size;have:=hK.size;omega)));clear c6 o8 d7 hK B9 A4 f;go_wp2_with fail;(try rw[hX]);refine bodyPost_ret (v:=.agg #[.slice A1 i c1,.slice A2 i c2]) (by simp[results,Tryz.results107,go_sem,y0,y1]) rfl ?_;refine⟨by rw[g0.out];exact I4.out,.inl ⟨y.out,_,_,rs,rfl,I9.out.lower (by rw[g0.out];omega)⟩⟩
  | succ t =>
   obtain rfl:t=n-(i+1):=Gk;have a1:i<n:=Gk;have t1:decide ((i:Int)<(n:Int))=true:=Gv Gk;have bi:(i:Int)<(n:Int):=Gk;obtain⟨ga,oa,Ar,nr,cr,rfl,k0,hR⟩:=(hH.out.below (g0.out▸d9.out)).at_ a1;obtain⟨row,e0⟩:=Gz (Q[i]?.getD []);rw[e0]at hR;have H4:n=nr:=by rw[<- hR.len,<- e0];exact(hm.out i a1).symm
   subst H4;have u4:Hid (∀ t:Nat,row[t]?.getD 0=AQ i t):=Zd (λt=>by rw[<- s6.out,<- e0];rfl);replace e0:=Zd e0;obtain⟨gr,or_,xn,xA,xk,xc,xm,xB,xj,xd,rfl,⟨r0,r1,r2,r3⟩,hX⟩:=hR.at_ a1;rw[u4.out]at hX;obtain⟨V1,H1,m5,p1,s1⟩:=Zao wi 73 #[.bool false,.slice none 0 0,.bool false,.slice none 0 0];obtain⟨gl,l7⟩:=Gz wi.heap.size;rw[l7]at p1 s1;obtain⟨u0,u1,u2,u3,v0,v1,v2,v3⟩:=p1.four;obtain⟨W2,F1,p2,F5,s2⟩:=Za2 xn xA xk xc xm xB xj xd p1;have n9:Below wi.heap.size wi W2:=m5.trans (F5.to_below (λk e=>by omega) m5.size);have J4:Hid (W2.heap.size=gl+1):=Zd (by rw[s2,s1]);have E4:=Zd (hX.below n9);have F0:Hid (gx<gl):=Zd (by have:=d9.out.size;have:=hK.size;omega);replace n9:=Zd n9;replace c6:=Zd c6;replace o8:=Zd o8;replace d7:=Zd d7;replace hR:=Zd hR;replace f:=Zd f;replace hK:=Zd hK;replace p2:=Zd p2;clear hX m5 F5 s1 s2;go_wp2_with fail;(try rw[l7]);(try rw[F1]);clear u0 u1 u2 u3 v0 v1 v2 v3 p1 H1 F1 r0 r1 r2 r3 k0;replace l7:=Zd l7
   go_loopg [5,23] i (λt ov kv wk=>∃ (k:Nat) (ln:Bool) (lA:Option Addr) (lk lc:Nat) (lm:Bool) (lB:Option Addr) (lj ld:Nat),k+t=i/\kv=.int .i64 k/\OwnF 73 wk W2.heap.size ov (Zjm AQ i k)/\Blk wk gl 73 #[.bool ln,.slice lA lk lc,.bool lm,.slice lB lj ld]/\Hid (Fr wk ln lA lk lc lm lB lj ld (Zu AQ k i i))/\Kept (λg=>g=gl) W2 wk)
   case atStart=>exact⟨0,_,_,_,_,_,_,_,_,by omega,rfl,OwnF.nil _ _ _,p2.out,E4,Qq _ _⟩
   case round =>
    clear p2 E4;obtain⟨wk,rfl⟩:=Gy wr;obtain⟨k,ln,lA,lk,lc,lm,lB,lj,ld,K9,rfl,a0,b4,hl,c0⟩:=hrel;have J7:=J4.out;have K0:=l7.out;have J5:=F0.out;have f9:Hid (Below wi.heap.size wi wk):=Zd (n9.out.trans (c0.to_below (λk e=>by omega) Gk));obtain⟨Ao,co,e3,c5⟩:=a0.fl;rw[Zga]at e3 c5;subst e3;have w4:=c5.cap;unfold maxLen at w4;have b9:=Ze f9.out f.out;have F9:wk.cell? ⟨gx,0,none⟩=some (.slice A1 i c1):=by rw[b9.cell];rfl
    have C9:wk.cell? ⟨gx,1,none⟩=some (.slice A2 i c2):=by rw[b9.cell];rfl
    have E1:=b9.frozen 0;have G2:=b9.frozen 1;clear x0 x1 z0 z1;obtain⟨l0,l1,l2,l3,m0,m1,m2,m3⟩:=b4.four;cases gk with
    | zero =>
     obtain rfl:k=i:=Gk;have t2:decide ((k:Int)<(k:Int))=false:=Gh;have D1:Hid (Zu AQ k k k=dQ AQ k):=Zd rfl;by_cases hp:0<dQ AQ k
     case neg =>
      have J6:Hid (¬ posP AQ n):=Zd (λhp9=>hp (hp9 k a1));have t4:decide ((0:Int)<Zco (Zu AQ k k k).num 0)=false:=Gu (λh=>hp (by rw[<- D1.out];exact num_pos0.1 (cmpZ_pos0.1 h)));replace hp:=Zd hp;replace c5:=Zd c5;replace a0:=Zd a0;replace c0:=Zd c0;replace b4:=Zd b4;clear b9;go_wp2_with fail;refine(Zh7 ln lA lk lc lm lB lj ld _ wk hl.out).mono ?_;rintro e w5 ⟨rfl,a5⟩;go_wp2_with fail;refine(Zax 8 w5).mono ?_;rintro e w6 ⟨rfl,rfl⟩;go_wp2_with fail;refine⟨rfl,?_,.inr ⟨J6.out,rfl⟩⟩;have h1:=d9.out.trans ((Gs f9.out a5).mono Gk);rw[g0.out];exact h1
     have y9:Hid (posP AQ (k+1)):=Zd (λt ht=>by
      rcases Qh t k with h1|h1;exact y.out t h1;rw[show t=k by omega];exact hp)
     have t4:decide ((0:Int)<Zco (Zu AQ k k k).num 0)=true:=Gv (cmpZ_pos0.2 (num_pos0.2 (by rw[D1.out];exact hp)));replace hp:=Zd hp;replace c5:=Zd c5;replace a0:=Zd a0;replace c0:=Zd c0;replace b4:=Zd b4;clear b9;go_wp2_with fail;refine(Zh7 ln lA lk lc lm lB lj ld _ wk hl.out).mono ?_;rintro e w5 ⟨rfl,a5⟩;go_wp2_with fail;refine(Zb4 8 w5).mono ?_;rintro e w6 ⟨rfl,rfl⟩;have j2:Below wi.heap.size wi w6:=Gs f9.out a5;have r4:EnvF 97 73 99 w6 W0.heap.size W2.heap.size gl gx (.slice A1 k c1) (.slice A2 k c2) (.slice A1 k c1) (.slice A2 k c2) (.slice Ao k co) rs (Zhb AQ k) (dsL AQ k) (Zjm AQ k k) ln lA lk lc lm lB lj ld (dQ AQ k):=⟨c6.out.kept j2,a0.out.kept a5,Ze a5 b4.out,hl.out.below a5,Ze j2 f.out⟩;have I2:Hid (Kept (λk=>k=gx) W0 w6):=Zd (hK.out.below j2);have b2:gx<W0.heap.size:=Gk;have c8:Hid (gl<W2.heap.size):=Zd Gk;have c7:Hid (∀ k',(Value.slice A2 k c2).ownBlock=some k'->k'<gl):=Zd (λk' e=>by have:=c6.out.2.1.blt k' e;omega);have c9:Hid (∀ s ∈ rs,∀ k',s.val.ownBlock=some k'->k'<W2.heap.size):=Zd (λs hs k' e=>by have:=c6.out.rlt s hs k' e;omega);have L0:(rs).length=k:=by rw[c6.out.1.2.1,Zf0]
     have a6:rs.length+1<=1000:=Gk;have A3:(dsL AQ k).length+1<=1000:=by rw[Zj0];omega
     obtain⟨J8,K7⟩:=r4.cells;replace r4:=Zd r4;clear a5 j2 F9 C9 E1 G2 l0 l1 l2 l3 m0 m1 m2 m3;go_wp2_with fail;obtain⟨X0,U⟩:=Gz w6.drew;have n2:Below w6.heap.size w6 X0:=by rw[<- U];exact Zh (Qb _ _) 1
     have hE:=r4.out.below n2;have x3:Kept (λk=>k=gx) W0 X0:=I2.out.below n2;have B7:w6.drew.cell? ⟨gx,0,none⟩=some (.slice A1 k c1)/\w6.drew.cell? ⟨gx,1,none⟩=some (.slice A2 k c2):=by rw[U];exact hE.cells
     refine Zz [11,13] (λwx=>wx.cell? ⟨gx,0,none⟩=some (.slice A1 k c1)/\wx.cell? ⟨gx,1,none⟩=some (.slice A2 k c2)) hmx B7 (λhxs9=>?_);refine Zkb 5 [0,1,2,5,6] rfl Gi B7 ?_
     iterate 5 (refine tkA ?_;try simp only[Qa,Zg9,Zgn,Zg3,Gr,Gq,Gp])
     refine tk0 ?_;rw[U];clear B7 hxs9 n2 U;have k7:Hid (W0.heap.size<=W2.heap.size):=Zd Gk;refine Zdg (i:=3) (j:=7) rfl rfl Gi (λK hK=>?_) (λK hK=>?_)
     focus
      obtain⟨Y1,T⟩:=Gz (X0.alloc (.cells #[.slice Ao k co] 97));obtain⟨r9,o6⟩:=Gz X0.heap.size;have u9:Below X0.heap.size X0 Y1:=by rw[<- T];exact(Qb _ _).alloc (Qc _) _
      have n8:Blk Y1 r9 97 #[.slice Ao k co]:=by rw[<- T,<- o6];exact Qf _ _ _
      have a4:=hE.below u9;have e6:=x3.below u9;go_simp;(try rw[T]);(try rw[o6]);refine hK.out _ _ (λ_=>a4.cells) ?_;clear hK K T o6
      try simp only[Qa,Zg9,Zgn,Zg3]
      refine Zdg (i:=4) (j:=7) rfl rfl Gi (λK hK=>?_) (λK hK=>?_)
      focus
       rw[Gx Ge];refine Zau _ (.tmp 90) (.tmp 92) 96 rfl W0.heap.size 97 iS Tryz.underlying96 ki k6 k8 k9 (.slice A1 k c1) rs rfl a4.1.1.1 _ (some ⟨r9,0,none⟩) 1 1 [⟨Ao,k,co⟩] rfl (Zfh n8) rfl a6 e6.size ?_;intro J0 Y4 D4 u6 D8;have f4:=a4.app c3 (r:=⟨Ao,k,co⟩) rfl k7.out c9.out (λk' e=>Qk (c7.out k' e) c8.out) b2 D4 u6 D8;have E0:=Kept.grownC e6 u6 (λk' hk=>a4.1.1.1.row_ge k' hk);refine hK.out _ _ (λ_=>f4.cells) ?_;clear hK K
       try simp only[Qa,Zg9,Zgn,Zg3]
       refine Zgo 1 [10] rfl Gi f4.cells ?_
       (refine tkA ?_;try simp only[Qa,Zg9,Zgn,Zg3,Gr,Gq,Gp])
       refine tk0 ?_;refine wpAnyL_o 7 λK hK=>?_;obtain⟨I1,I8,H3,I3⟩:=f4.left;go_simp;refine hK.out _ _ (λ_=>f4.cells) ?_;clear hK K I1 I8 H3 I3
       try simp only[Qa,Zg9,Zgn,Zg3]
       refine wpAnyL_o 8 λK hK=>?_;obtain⟨Y6,r8⟩:=Gz (Y4.alloc (.cells #[.bool ln,.slice lA lk lc,.bool lm,.slice lB lj ld] 73));obtain⟨F7,l6⟩:=Gz Y4.heap.size;have v4:Below Y4.heap.size Y4 Y6:=by rw[<- r8];exact(Qb _ _).alloc (Qc _) _
       have C3:Blk Y6 F7 73 #[.bool ln,.slice lA lk lc,.bool lm,.slice lB lj ld]:=by rw[<- r8,<- l6];exact Qf _ _ _
       have t9:=f4.below v4;have D3:=E0.below v4;go_simp;(try rw[r8]);(try rw[l6]);refine hK.out _ _ (λ_=>t9.cells) ?_;clear hK K r8 l6
       try simp only[Qa,Zg9,Zgn,Zg3]
       have EL:=t9;have KL:=D3;have bL:=C3;obtain⟨vL,rfl⟩:∃ x:Value,x=J0:=⟨_,rfl⟩;obtain⟨gL,rfl⟩:∃ x:Nat,x=F7:=⟨_,rfl⟩;obtain⟨WL,rfl⟩:=Gy Y6
      rotate_left 1
      focus
       obtain⟨I7,H8,H2,H9⟩:=a4.left;go_simp;refine hK.out _ _ (λ_=>a4.cells) ?_;clear hK K I7 H8 H2 H9
       try simp only[Qa,Zg9,Zgn,Zg3]
       refine Zdg (i:=4) (j:=8) rfl rfl Gi (λK hK=>?_) (λK hK=>?_)
       focus
        rw[Gx Ge];refine Zau _ (.tmp 90) (.tmp 92) 96 rfl W0.heap.size 97 iS Tryz.underlying96 ki k6 k8 k9 (.slice A1 k c1) rs rfl a4.1.1.1 _ (some ⟨r9,0,none⟩) 1 1 [⟨Ao,k,co⟩] rfl (Zfh n8) rfl a6 e6.size ?_;intro C5 r7 z5 m6 v7;have i3:=a4.app c3 (r:=⟨Ao,k,co⟩) rfl k7.out c9.out (λk' e=>Qk (c7.out k' e) c8.out) b2 z5 m6 v7;have y5:=Kept.grownC e6 m6 (λk' hk=>a4.1.1.1.row_ge k' hk);refine hK.out _ _ (λ_=>i3.cells) ?_;clear hK K
        try simp only[Qa,Zg9,Zgn,Zg3]
        refine Zgo 1 [10] rfl Gi i3.cells ?_
        (refine tkA ?_;try simp only[Qa,Zg9,Zgn,Zg3,Gr,Gq,Gp])
        refine tk0 ?_;refine wpAnyL_o 8 λK hK=>?_;obtain⟨B3,j7⟩:=Gz (r7.alloc (.cells #[.bool ln,.slice lA lk lc,.bool lm,.slice lB lj ld] 73));obtain⟨u5,j0⟩:=Gz r7.heap.size;have o4:Below r7.heap.size r7 B3:=by rw[<- j7];exact(Qb _ _).alloc (Qc _) _
        have w8:Blk B3 u5 73 #[.bool ln,.slice lA lk lc,.bool lm,.slice lB lj ld]:=by rw[<- j7,<- j0];exact Qf _ _ _
        have q8:=i3.below o4;have v6:=y5.below o4;go_simp;(try rw[j7]);(try rw[j0]);refine hK.out _ _ (λ_=>q8.cells) ?_;clear hK K j7 j0
        try simp only[Qa,Zg9,Zgn,Zg3]
        have EL:=q8;have KL:=v6;have bL:=w8;obtain⟨vL,rfl⟩:∃ x:Value,x=C5:=⟨_,rfl⟩;obtain⟨gL,rfl⟩:∃ x:Nat,x=u5:=⟨_,rfl⟩;obtain⟨WL,rfl⟩:=Gy B3
       rotate_left 1
       focus
        obtain⟨D7,j8⟩:=Gz (Y1.alloc (.cells #[.bool ln,.slice lA lk lc,.bool lm,.slice lB lj ld] 73));obtain⟨t6,g9⟩:=Gz Y1.heap.size;have h3:Below Y1.heap.size Y1 D7:=by rw[<- j8];exact(Qb _ _).alloc (Qc _) _
        have A5:Blk D7 t6 73 #[.bool ln,.slice lA lk lc,.bool lm,.slice lB lj ld]:=by rw[<- j8,<- g9];exact Qf _ _ _
        have b8:=a4.below h3;have n0:=e6.below h3;have q6:=Ze h3 n8;go_simp;(try rw[j8]);(try rw[g9]);refine hK.out _ _ (λ_=>b8.cells) ?_;clear hK K j8 g9
        try simp only[Qa,Zg9,Zgn,Zg3]
        refine wpAnyL_o 4 λK hK=>?_;rw[Gx Ge];refine Zau _ (.tmp 90) (.tmp 92) 96 rfl W0.heap.size 97 iS Tryz.underlying96 ki k6 k8 k9 (.slice A1 k c1) rs rfl b8.1.1.1 _ (some ⟨r9,0,none⟩) 1 1 [⟨Ao,k,co⟩] rfl (Zfh q6) rfl a6 n0.size ?_;intro C7 J2 w2 i5 A6;have h4:=b8.app c3 (r:=⟨Ao,k,co⟩) rfl k7.out c9.out (λk' e=>Qk (c7.out k' e) c8.out) b2 w2 i5 A6;have w3:=Kept.grownC n0 i5 (λk' hk=>b8.1.1.1.row_ge k' hk);have k2:=b8.far c3 i5 A5;refine hK.out _ _ (λ_=>h4.cells) ?_;clear hK K
        try simp only[Qa,Zg9,Zgn,Zg3]
        refine Zgo 1 [10] rfl Gi h4.cells ?_
        (refine tkA ?_;try simp only[Qa,Zg9,Zgn,Zg3,Gr,Gq,Gp])
        refine tk0 ?_;have EL:=h4;have KL:=w3;have bL:=k2;obtain⟨vL,rfl⟩:∃ x:Value,x=C7:=⟨_,rfl⟩;obtain⟨gL,rfl⟩:∃ x:Nat,x=t6:=⟨_,rfl⟩;obtain⟨WL,rfl⟩:=Gy J2
     rotate_left 3
     focus
      obtain⟨G3,F4,E9,E3⟩:=hE.left;go_simp;refine hK.out _ _ (λ_=>hE.cells) ?_;clear hK K G3 F4 E9 E3
      try simp only[Qa,Zg9,Zgn,Zg3]
      refine Zdg (i:=3) (j:=8) rfl rfl Gi (λK hK=>?_) (λK hK=>?_)
      focus
       obtain⟨j9,j5⟩:=Gz (X0.alloc (.cells #[.slice Ao k co] 97));obtain⟨n5,i7⟩:=Gz X0.heap.size;have q5:Below X0.heap.size X0 j9:=by rw[<- j5];exact(Qb _ _).alloc (Qc _) _
       have m8:Blk j9 n5 97 #[.slice Ao k co]:=by rw[<- j5,<- i7];exact Qf _ _ _
       have b7:=hE.below q5;have i9:=x3.below q5;go_simp;(try rw[j5]);(try rw[i7]);refine hK.out _ _ (λ_=>b7.cells) ?_;clear hK K j5 i7
       try simp only[Qa,Zg9,Zgn,Zg3]
       refine Zdg (i:=4) (j:=8) rfl rfl Gi (λK hK=>?_) (λK hK=>?_)
       focus
        rw[Gx Ge];refine Zau _ (.tmp 90) (.tmp 92) 96 rfl W0.heap.size 97 iS Tryz.underlying96 ki k6 k8 k9 (.slice A1 k c1) rs rfl b7.1.1.1 _ (some ⟨n5,0,none⟩) 1 1 [⟨Ao,k,co⟩] rfl (Zfh m8) rfl a6 i9.size ?_;intro C8 r5 z3 o7 x5;have h2:=b7.app c3 (r:=⟨Ao,k,co⟩) rfl k7.out c9.out (λk' e=>Qk (c7.out k' e) c8.out) b2 z3 o7 x5;have B2:=Kept.grownC i9 o7 (λk' hk=>b7.1.1.1.row_ge k' hk);refine hK.out _ _ (λ_=>h2.cells) ?_;clear hK K
        try simp only[Qa,Zg9,Zgn,Zg3]
        refine Zgo 1 [10] rfl Gi h2.cells ?_
        (refine tkA ?_;try simp only[Qa,Zg9,Zgn,Zg3,Gr,Gq,Gp])
        refine tk0 ?_;refine wpAnyL_o 8 λK hK=>?_;obtain⟨x2,j6⟩:=Gz (r5.alloc (.cells #[.bool ln,.slice lA lk lc,.bool lm,.slice lB lj ld] 73));obtain⟨u8,i1⟩:=Gz r5.heap.size;have m7:Below r5.heap.size r5 x2:=by rw[<- j6];exact(Qb _ _).alloc (Qc _) _
        have B4:Blk x2 u8 73 #[.bool ln,.slice lA lk lc,.bool lm,.slice lB lj ld]:=by rw[<- j6,<- i1];exact Qf _ _ _
        have o5:=h2.below m7;have B8:=B2.below m7;go_simp;(try rw[j6]);(try rw[i1]);refine hK.out _ _ (λ_=>o5.cells) ?_;clear hK K j6 i1
        try simp only[Qa,Zg9,Zgn,Zg3]
        have EL:=o5;have KL:=B8;have bL:=B4;obtain⟨vL,rfl⟩:∃ x:Value,x=C8:=⟨_,rfl⟩;obtain⟨gL,rfl⟩:∃ x:Nat,x=u8:=⟨_,rfl⟩;obtain⟨WL,rfl⟩:=Gy x2
       rotate_left 1
       focus
        obtain⟨E5,j4⟩:=Gz (j9.alloc (.cells #[.bool ln,.slice lA lk lc,.bool lm,.slice lB lj ld] 73));obtain⟨u7,h9⟩:=Gz j9.heap.size;have i6:Below j9.heap.size j9 E5:=by rw[<- j4];exact(Qb _ _).alloc (Qc _) _
        have v5:Blk E5 u7 73 #[.bool ln,.slice lA lk lc,.bool lm,.slice lB lj ld]:=by rw[<- j4,<- h9];exact Qf _ _ _
        have b5:=b7.below i6;have m4:=i9.below i6;have l4:=Ze i6 m8;go_simp;(try rw[j4]);(try rw[h9]);refine hK.out _ _ (λ_=>b5.cells) ?_;clear hK K j4 h9
        try simp only[Qa,Zg9,Zgn,Zg3]
        refine wpAnyL_o 4 λK hK=>?_;rw[Gx Ge];refine Zau _ (.tmp 90) (.tmp 92) 96 rfl W0.heap.size 97 iS Tryz.underlying96 ki k6 k8 k9 (.slice A1 k c1) rs rfl b5.1.1.1 _ (some ⟨n5,0,none⟩) 1 1 [⟨Ao,k,co⟩] rfl (Zfh l4) rfl a6 m4.size ?_;intro D0 H5 B1 g8 y8;have i0:=b5.app c3 (r:=⟨Ao,k,co⟩) rfl k7.out c9.out (λk' e=>Qk (c7.out k' e) c8.out) b2 B1 g8 y8;have A8:=Kept.grownC m4 g8 (λk' hk=>b5.1.1.1.row_ge k' hk);have k4:=b5.far c3 g8 v5;refine hK.out _ _ (λ_=>i0.cells) ?_;clear hK K
        try simp only[Qa,Zg9,Zgn,Zg3]
        refine Zgo 1 [10] rfl Gi i0.cells ?_
        (refine tkA ?_;try simp only[Qa,Zg9,Zgn,Zg3,Gr,Gq,Gp])
        refine tk0 ?_;have EL:=i0;have KL:=A8;have bL:=k4;obtain⟨vL,rfl⟩:∃ x:Value,x=D0:=⟨_,rfl⟩;obtain⟨gL,rfl⟩:∃ x:Nat,x=u7:=⟨_,rfl⟩;obtain⟨WL,rfl⟩:=Gy H5
      rotate_left 2
      focus
       obtain⟨k5,j3⟩:=Gz (X0.alloc (.cells #[.bool ln,.slice lA lk lc,.bool lm,.slice lB lj ld] 73));obtain⟨t5,h0⟩:=Gz X0.heap.size;have l5:Below X0.heap.size X0 k5:=by rw[<- j3];exact(Qb _ _).alloc (Qc _) _
       have w7:Blk k5 t5 73 #[.bool ln,.slice lA lk lc,.bool lm,.slice lB lj ld]:=by rw[<- j3,<- h0];exact Qf _ _ _
       have q7:=hE.below l5;have y6:=x3.below l5;go_simp;(try rw[j3]);(try rw[h0]);refine hK.out _ _ (λ_=>q7.cells) ?_;clear hK K j3 h0
       try simp only[Qa,Zg9,Zgn,Zg3]
       refine wpAnyL_o 3 λK hK=>?_;obtain⟨G1,j1⟩:=Gz (k5.alloc (.cells #[.slice Ao k co] 97));obtain⟨t7,i4⟩:=Gz k5.heap.size;have h5:Below k5.heap.size k5 G1:=by rw[<- j1];exact(Qb _ _).alloc (Qc _) _
       have A7:Blk G1 t7 97 #[.slice Ao k co]:=by rw[<- j1,<- i4];exact Qf _ _ _
       have b6:=q7.below h5;have q9:=y6.below h5;have k3:=Ze h5 w7;go_simp;(try rw[j1]);(try rw[i4]);refine hK.out _ _ (λ_=>b6.cells) ?_;clear hK K j1 i4
       try simp only[Qa,Zg9,Zgn,Zg3]
       refine wpAnyL_o 4 λK hK=>?_;rw[Gx Ge];refine Zau _ (.tmp 90) (.tmp 92) 96 rfl W0.heap.size 97 iS Tryz.underlying96 ki k6 k8 k9 (.slice A1 k c1) rs rfl b6.1.1.1 _ (some ⟨t7,0,none⟩) 1 1 [⟨Ao,k,co⟩] rfl (Zfh A7) rfl a6 q9.size ?_;intro E6 G8 w9 i2 v9;have i8:=b6.app c3 (r:=⟨Ao,k,co⟩) rfl k7.out c9.out (λk' e=>Qk (c7.out k' e) c8.out) b2 w9 i2 v9;have x8:=Kept.grownC q9 i2 (λk' hk=>b6.1.1.1.row_ge k' hk);have d4:=b6.far c3 i2 k3;refine hK.out _ _ (λ_=>i8.cells) ?_;clear hK K
       try simp only[Qa,Zg9,Zgn,Zg3]
       refine Zgo 1 [10] rfl Gi i8.cells ?_
       (refine tkA ?_;try simp only[Qa,Zg9,Zgn,Zg3,Gr,Gq,Gp])
       refine tk0 ?_;have EL:=i8;have KL:=x8;have bL:=d4;obtain⟨vL,rfl⟩:∃ x:Value,x=E6:=⟨_,rfl⟩;obtain⟨gL,rfl⟩:∃ x:Nat,x=t5:=⟨_,rfl⟩;obtain⟨WL,rfl⟩:=Gy G8
     all_goals
      refine wpAnyL_o 9 λK hK=>?_;rw[Gx Ge];refine Zbi _ (.tmp 95) (.tmp 97) 97 rfl W0.heap.size 73 iN Tryz.underlying97 hi F8 D9 F3 (.slice A2 k c2) _ rfl EL.1.2.1 _ (some ⟨gL,0,none⟩) 1 1 [⟨ln,lA,lk,lc,lm,lB,lj,ld,dQ AQ k⟩] rfl (Zcn _ bL) rfl (by intro e he;rw[Qw]at he;subst he;exact EL.2.2.1) A3 KL.size ?_;intro G4 h7 C1 m9 x9 C0;obtain⟨f1,f3⟩:=EL.app c3 b2 C1 m9 x9 C0;have w0:=Kept.grownC KL m9 (λk' hk=>EL.1.2.1.row_ge k' hk);refine hK.out _ _ (λ_=>⟨by rw[f3.cell];rfl,by rw[f3.cell];rfl⟩) ?_;clear hK K
      try simp only[Qa,Zg9,Zgn,Zg3]
      obtain⟨a7,a9,e7,-⟩:=f1.1.mflA;obtain⟨b1,b3,e8,-⟩:=f1.2.1.fl;rw[<- Zni,Zf0]at e7;subst e7;obtain rfl:G4=.slice b1 (k+1) b3:=by rw[e8];congr 1;simp[Zj0]
      clear e8;have f6:Kept (λk=>k=gx) h7 ((h7.setCell ⟨gx,0,none⟩ (.slice a7 (k+1) a9)).setCell ⟨gx,1,none⟩ (.slice b1 (k+1) b3)):=Kept.set_ (G:=λk=>k=gx) (Kept.set_ (G:=λk=>k=gx) (Qq _ _) (p:=⟨gx,0,none⟩) (.inl rfl) _) (p:=⟨gx,1,none⟩) (.inl rfl) _;have f5:Blk (h7.setCell ⟨gx,0,none⟩ (.slice a7 (k+1) a9)) gx 99 #[.slice a7 (k+1) a9,.slice A2 k c2]:=f3.set_ 0 _;have f7:Blk ((h7.setCell ⟨gx,0,none⟩ (.slice a7 (k+1) a9)).setCell ⟨gx,1,none⟩ (.slice b1 (k+1) b3)) gx 99 #[.slice a7 (k+1) a9,.slice b1 (k+1) b3]:=f5.set_ 1 _;have f8:=f1.box f3 (Zlb _ _ _ _ _ _) b2 f6;have u0:h7.cell? ⟨gx,0,none⟩=some (.slice A1 k c1):=by rw[f3.cell];rfl
      have H6:=f3.frozen 0;have u1:(h7.setCell ⟨gx,0,none⟩ (.slice a7 (k+1) a9)).cell? ⟨gx,1,none⟩=some (.slice A2 k c2):=by rw[f5.cell];rfl
      have G7:=f5.frozen 1;have s5:=w0.trans f6;obtain⟨Z9,z8⟩:∃ Z,((h7.setCell ⟨gx,0,none⟩ (.slice a7 (k+1) a9)).setCell ⟨gx,1,none⟩ (.slice b1 (k+1) b3))=Z:=⟨_,rfl⟩;rw[z8]at f7 f8 s5;replace f7:=Zd f7;replace f8:=Zd f8;replace s5:=Zd s5;clear f1 f3 f6;refine Zy (i:=11) rfl Gi Gi (λK hK=>?_);go_simp;refine hK.out _ _ ?_;clear hK K
      try simp only[Qa,Zg9,Zgn,Zg3]
      (refine Zl (i:=12) (v:=?_) rfl Gi Gi Gi Gi (Or.inl ⟨by kernel_rfl,?_⟩) (λhno=>absurd hno Gj) ?_;rotate_left;(· intro W2 _;go_simp;try with_reducible rfl);try simp only[Qa,Zg9,Zgn,Zg3,Gr,Gq,Gp])
      refine Zy (i:=13) rfl Gi Gi (λK hK=>?_);go_simp;(try rw[z8]);refine hK.out _ _ ?_;clear hK K
      try simp only[Qa,Zg9,Zgn,Zg3]
      refine wpAnyL_fin ?_;clear z8 u0 H6 u1 G7 f5;go_wp2_with fail
      go_roundg (n-(k+1))
      case measure=>omega
      case rel=>exact⟨k+1,_,_,rs ++ [⟨Ao,k,co⟩],by omega,by go_num,f7.out,by rw[Zni,Z1p];exact f8.out,y9,s5.out⟩
    | succ t2 =>
     obtain rfl:t2=i-(k+1):=Gk;have J:k<i:=Gk;have t2:decide ((k:Int)<(i:Int))=true:=Gv Gk;have bki:(k:Int)<(i:Int):=Gk;have bkn:(k:Int)<(n:Int):=Gk;obtain⟨yn,yA,yk,yc,ym,yB,yj,yd,⟨r0,r1,r2,r3⟩,hY⟩:=(hR.out.below f9.out).atS (show k<n by omega);rw[u4.out]at hY;obtain⟨V3,G9,o9,p3,s3⟩:=Zao wk 73 #[.bool false,.slice none 0 0,.bool false,.slice none 0 0];obtain⟨gs,n1⟩:=Gz wk.heap.size;rw[n1]at p3 s3;obtain⟨u0,u1,u2,u3,v0,v1,v2,v3⟩:=p3.four;obtain⟨W4,E7,p4,E2,s4⟩:=Za2 yn yA yk yc ym yB yj yd p3;have r6:Below wk.heap.size wk W4:=o9.trans (E2.to_below (λk e=>by omega) o9.size);have H7:Hid (W4.heap.size=gs+1):=Zd (by rw[s4,s3]);have C6:=Zd (hY.below r6);have J9:Hid (gl<gs):=Zd (by have:=b4.lt;omega);replace r6:=Zd r6;replace a0:=Zd a0;replace c5:=Zd c5;replace b4:=Zd b4;replace c0:=Zd c0;replace p4:=Zd p4;clear hY o9 E2 s3 s4 b9;go_wp2_with fail;(try rw[n1]);(try rw[E7]);clear u0 u1 u2 u3 v0 v1 v2 v3 p3 G9 E7 r0 r1 r2 r3 F9 C9 E1 G2 l0 l1 l2 l3 m0 m1 m2 m3;replace n1:=Zd n1
     go_loopg [32] k (λt jv wj=>∃ (j:Nat) (sn:Bool) (sA:Option Addr) (sk sc:Nat) (sm:Bool) (sB:Option Addr) (sj sd:Nat),j+t=k/\jv=.int .i64 j/\Blk wj gs 73 #[.bool sn,.slice sA sk sc,.bool sm,.slice sB sj sd]/\Hid (Fr wj sn sA sk sc sm sB sj sd (Zu AQ j i k))/\Kept (λg=>g=gs) W4 wj)
     case atStart=>exact⟨0,_,_,_,_,_,_,_,_,by omega,rfl,p4.out,C6,Qq _ _⟩
     case round =>
      clear p4 C6;obtain⟨wj,rfl⟩:=Gy wr;obtain⟨j,sn,sA,sk,sc,sm,sB,sj,sd,L1,rfl,z4,hs,B6⟩:=hrel;have K1:=H7.out;have K6:=n1.out;have q4:Hid (Below wk.heap.size wk wj):=Zd (r6.out.trans (B6.to_below (λk e=>by omega) Gk));have d6:Hid (Below wi.heap.size wi wj):=Zd (Gs f9.out q4.out);have l9:=Ze d6.out f.out;have C2:wj.cell? ⟨gx,0,none⟩=some (.slice A1 i c1):=by rw[l9.cell];rfl
      have x6:wj.cell? ⟨gx,1,none⟩=some (.slice A2 i c2):=by rw[l9.cell];rfl
      obtain⟨s0,s1,s2,s3,y0,y1,y2,y3⟩:=z4.four;cases gk with
      | zero =>
       obtain rfl:j=k:=Gk;have t3:decide ((j:Int)<(j:Int))=false:=Gh;obtain⟨gd,C,dn,dA,dk,dc,dm,dB,dj,dd,rfl,⟨d0,d1,d2,d3⟩,hD⟩:=(d7.out.below d6.out).at_ J;rw[Zqm J]at hD;replace hD:=Zd hD;go_wp2_with fail;obtain⟨X0,U⟩:=Gz wj.drew;have V:Below wj.heap.size wj X0:=by rw[<- U];exact Zh (Qb _ _) 1
       have u:Hid (∀ wx,Below wj.heap.size wj wx->wx.cell? ⟨gs,0,none⟩=some (.bool sn)/\wx.cell? ⟨gs,1,none⟩=some (.slice sA sk sc)/\wx.cell? ⟨gs,2,none⟩=some (.bool sm)/\wx.cell? ⟨gs,3,none⟩=some (.slice sB sj sd)/\wx.cell? ⟨gx,1,none⟩=some (.slice (some ⟨gd,C,none⟩) i c2)/\wx.cell? ⟨gd,C+j*4,none⟩=some (.bool dn)/\wx.cell? ⟨gd,C+j*4+1,none⟩=some (.slice dA dk dc)/\wx.cell? ⟨gd,C+j*4+2,none⟩=some (.bool dm)/\wx.cell? ⟨gd,C+j*4+3,none⟩=some (.slice dB dj dd)):=Zd (λwx f=>⟨Zc f s0,Zc f s1,Zc f s2,Zc f s3,Zc f x6,Zc f d0,Zc f d1,Zc f d2,Zc f d3⟩);refine wp_heldS [] hmx u (by rw[U];exact V) (λhxs=>?_);rw[U];refine Zkb 7 [0,1,2,3,4,5,6] rfl Gi (u.out _ V) ?_
       iterate 7 (refine tkA ?_;try simp only[Qa,Zg9,Zgn,Zg3,Gr,Gq,Gp])
       refine tk0 ?_;refine wpAnyL_o 7 λK hK=>?_;go_simp;refine(Zsv sn sm dn dm sA sB dA dB sk sc sj sd dk dc dj dd _ _ X0 (hs.out.below V) (hD.out.below V) (fac_q hF.out a1 J y.out).1 (fac_q hF.out a1 J y.out).2.1 (fac_q hF.out a1 J y.out).2.2).mono ?_;rintro e w5 ⟨a5,an,aA,ak,ac,am,aB,aj,ad,rfl,hT⟩;have a3:=Gs V a5;refine hK.out _ _ (λ_=>u.out _ a3) ?_;clear hK K
       try simp only[Qa,Zg9,Zgn,Zg3]
       obtain⟨Y1,T⟩:=Gz (w5.alloc (.cells #[.bool an,.slice aA ak ac,.bool am,.slice aB aj ad] 73));obtain⟨g5,a2⟩:=Gz w5.heap.size;have d5:Below w5.heap.size w5 Y1:=by rw[<- T];exact(Qb _ _).alloc (Qc _) _
       have d8:Blk Y1 g5 73 #[.bool an,.slice aA ak ac,.bool am,.slice aB aj ad]:=by rw[<- T,<- a2];exact Qf _ _ _
       have O:Below wj.heap.size wj Y1:=Gs a3 d5;refine wpAnyL_o 8 λK hK=>?_;go_simp;(try rw[T]);(try rw[a2]);refine hK.out _ _ (λ_=>u.out _ O) ?_;clear hK K T a2
       try simp only[Qa,Zg9,Zgn,Zg3]
       have E8:=hT.below d5;have a8:Below wk.heap.size wk Y1:=Gs q4.out O;have B5:=a0.out.kept a8;have D2:W2.heap.size<=Y1.heap.size:=Qd c0.out.size a8.size;have l8:(Zjm AQ i j).length+1<=1000:=by rw[Zga];omega
       refine wpAnyL_o 9 λK hK=>?_;rw[Gx Ge];refine Zbi _ (.tmp 57) (.tmp 65) 97 rfl W2.heap.size 73 iN Tryz.underlying97 hi F8 D9 F3 (.slice Ao j co) _ rfl B5 _ (some ⟨g5,0,none⟩) 1 1 [⟨an,aA,ak,ac,am,aB,aj,ad,Zu AQ j i j/dQ AQ j⟩] rfl (Zcn _ d8) rfl (by intro e he;rw[Qw]at he;subst he;exact E8) l8 D2 ?_;intro vY Y2 C4 e5 x7 J1;have g2:OwnF 73 Y2 W2.heap.size vY (Zjm AQ i (j+1)):=by rw[Zy2];exact C4
       obtain⟨Ap,cp,e4,n6⟩:=g2.fl;rw[Zga]at e4 n6;subst e4;have g6:=B5.row_ge;have n7:=a0.out.blt;have h6:Hid (Kept (λg=>g=gl) W2 Y1):=Zd (c0.out.below a8);have t0:Hid (Kept (λg=>g=gl) W2 Y2):=Zd ⟨e5.os.trans h6.out.os,e5.tape.trans h6.out.tape,e5.output.trans h6.out.output,Qd h6.out.size e5.size,λg hg hne=>(e5.block g (Qx hg h6.out.size) (λe=>by have:=g6 g (by first|exact e|exact e.symm);omega)).trans (h6.out.block g hg hne)⟩;have t8:Hid (Blk Y2 gl 73 #[.bool ln,.slice lA lk lc,.bool lm,.slice lB lj ld]):=Zd ((e5.block gl (Qx b4.out.lt a8.size) (λe=>by have:=g6 gl (by first|exact e|exact e.symm);omega)).trans (Ze a8 b4.out));have G6:Hid (Fr Y2 ln lA lk lc lm lB lj ld (Zu AQ j i i)):=Zd ⟨⟨hl.out.1.1,hl.out.1.2.1,x7 _ _ _ _ (hl.out.below a8).1.2.2⟩,⟨hl.out.2.1,hl.out.2.2.1,x7 _ _ _ _ (hl.out.below a8).2.2.2⟩⟩;have s9:Hid (Below wi.heap.size wi Y2):=Zd (n9.out.trans (t0.out.to_below (λg e=>by omega) Gk));obtain⟨_,_,_,_,_,_,_,_,⟨D5,-⟩,-⟩:=d7.out.atS J;have I0:gd<wi.heap.size:=Zp D5
       have I:∀ (g o:Nat) (v:Value),(∀ k',(Value.slice Ao j co).ownBlock=some k'->k'≠g)->Y1.cell? ⟨g,o,none⟩=some v->Y2.cell? ⟨g,o,none⟩=some v:=λg o v hne hv=>by
        rw[<- hv];exact World.cell?_of_block (e5.block g (Zp hv) (λe=>hne g (by first|exact e|exact e.symm) rfl))
       have n3:Y2.cell? ⟨gs,0,none⟩=some (.bool sn)/\Y2.cell? ⟨gs,1,none⟩=some (.slice sA sk sc)/\Y2.cell? ⟨gs,2,none⟩=some (.bool sm)/\Y2.cell? ⟨gs,3,none⟩=some (.slice sB sj sd)/\Y2.cell? ⟨gx,1,none⟩=some (.slice (some ⟨gd,C,none⟩) i c2)/\Y2.cell? ⟨gd,C+j*4,none⟩=some (.bool dn)/\Y2.cell? ⟨gd,C+j*4+1,none⟩=some (.slice dA dk dc)/\Y2.cell? ⟨gd,C+j*4+2,none⟩=some (.bool dm)/\Y2.cell? ⟨gd,C+j*4+3,none⟩=some (.slice dB dj dd):=by
        obtain⟨p0,p1,p2,p3,p4,p5,p6,p7,p8⟩:=u.out _ O;refine⟨I _ _ _ (λk' e=>by have:=n7 k' e;omega) p0,I _ _ _ (λk' e=>by have:=n7 k' e;omega) p1,I _ _ _ (λk' e=>by have:=n7 k' e;omega) p2,I _ _ _ (λk' e=>by have:=n7 k' e;omega) p3,I _ _ _ (λk' e=>by have:=g6 k' e;omega) p4,I _ _ _ (λk' e=>by have:=g6 k' e;omega) p5,I _ _ _ (λk' e=>by have:=g6 k' e;omega) p6,I _ _ _ (λk' e=>by have:=g6 k' e;omega) p7,I _ _ _ (λk' e=>by have:=g6 k' e;omega) p8⟩
       refine hK.out _ _ (λ_=>n3) ?_;clear hK K D5 I
       try simp only[Qa,Zg9,Zgn,Zg3]
       refine Zgo 1 [10] rfl Gi n3 ?_
       (refine tkA ?_;try simp only[Qa,Zg9,Zgn,Zg3,Gr,Gq,Gp])
       refine tk0 ?_;refine wpAnyL_fin ?_;replace g2:=Zd g2;replace n6:=Zd n6;clear n3 I0 u hxs V O a3 d8 d5 U C4 e5 x7 J1 g6 n7 B5 E8 hT a8 h6 D2 l8 s0 s1 s2 s3 y0 y1 y2 y3 C2 x6 d0 d1 d2 d3 hD z4 hs B6 l9 q4 d6 hl b4 c0 a0 c5;obtain⟨l0,l1,l2,l3,-⟩:=t8.out.four;have G0:=Ze s9.out f.out;have H0:Y2.cell? ⟨gx,1,none⟩=some (.slice (some ⟨gd,C,none⟩) i c2):=by rw[G0.cell];rfl
       obtain⟨dn,dA,dk,dc,dm,dB,dj,dd,⟨d0,d1,d2,d3⟩,hD⟩:=(d7.out.below s9.out).atS J;rw[Zqm J]at hD;replace hD:=Zd hD;obtain⟨go,oo,on_,oA,ok,oc,om,oB,oj,od,rfl,⟨o0,o1,o2,o3⟩,hO⟩:=n6.out.at_ (Qs j);rw[Zma (Qs j)]at hO;replace hO:=Zd hO;have x4:=n6.out.cap;unfold maxLen at x4;have bjs:(j:Int)<((j:Int)+1):=Gk;have K4:(j:Int)<((j+1:Nat):Int):=Gk;have bji:(j:Int)<(i:Int):=Gk;go_wp2_with fail;obtain⟨X0,U⟩:=Gz Y2.drew;have V:Below Y2.heap.size Y2 X0:=by rw[<- U];exact Zh (Qb _ _) 1
       have u:Hid (∀ wx,Below Y2.heap.size Y2 wx->wx.cell? ⟨gl,0,none⟩=some (.bool ln)/\wx.cell? ⟨gl,1,none⟩=some (.slice lA lk lc)/\wx.cell? ⟨gl,2,none⟩=some (.bool lm)/\wx.cell? ⟨gl,3,none⟩=some (.slice lB lj ld)/\wx.cell? ⟨go,oo+j*4,none⟩=some (.bool on_)/\wx.cell? ⟨go,oo+j*4+1,none⟩=some (.slice oA ok oc)/\wx.cell? ⟨go,oo+j*4+2,none⟩=some (.bool om)/\wx.cell? ⟨go,oo+j*4+3,none⟩=some (.slice oB oj od)/\wx.cell? ⟨gx,1,none⟩=some (.slice (some ⟨gd,C,none⟩) i c2)/\wx.cell? ⟨gd,C+j*4,none⟩=some (.bool dn)/\wx.cell? ⟨gd,C+j*4+1,none⟩=some (.slice dA dk dc)/\wx.cell? ⟨gd,C+j*4+2,none⟩=some (.bool dm)/\wx.cell? ⟨gd,C+j*4+3,none⟩=some (.slice dB dj dd)):=Zd (λwx f=>⟨Zc f l0,Zc f l1,Zc f l2,Zc f l3,Zc f o0,Zc f o1,Zc f o2,Zc f o3,Zc f H0,Zc f d0,Zc f d1,Zc f d2,Zc f d3⟩);refine wp_heldS [17] hmx u (by rw[U];exact V) (λhxs=>?_);rw[U];refine Zkb 14 [0,1,2,3,4,5,6,7,8,9,10,11,12,13] rfl Gi (u.out _ V) ?_
       iterate 14 (refine tkA ?_;try simp only[Qa,Zg9,Zgn,Zg3,Gr,Gq,Gp])
       refine tk0 ?_;obtain⟨Y1,T⟩:=Gz (X0.alloc (.cells #[.bool on_,.slice oA ok oc,.bool om,.slice oB oj od,.bool dn,.slice dA dk dc,.bool dm,.slice dB dj dd] 73));obtain⟨g5,a2⟩:=Gz X0.heap.size;have d5:Below X0.heap.size X0 Y1:=by rw[<- T];exact(Qb _ _).alloc (Qc _) _
       have d8:Blk Y1 g5 73 #[.bool on_,.slice oA ok oc,.bool om,.slice oB oj od,.bool dn,.slice dA dk dc,.bool dm,.slice dB dj dd]:=by rw[<- T,<- a2];exact Qf _ _ _
       have O:Below Y2.heap.size Y2 Y1:=Gs V d5;refine wpAnyL_o 14 λK hK=>?_;go_simp;(try rw[T]);(try rw[a2]);refine hK.out _ _ (λ_=>u.out _ O) ?_;clear hK K T a2
       try simp only[Qa,Zg9,Zgn,Zg3]
       refine wpAnyL_o 15 λK hK=>?_;go_simp;refine(Zcs on_ oA ok oc om oB oj od (lQ AQ i j) (some ⟨g5,0,none⟩) 2 2 [lQ AQ i j,dQ AQ j] Y1 (hO.out.below O) (FL.pair2 d8 (hO.out.below O) (hD.out.below O)) Gk (Zmo hF.out a1 J y.out).1 (Zmo hF.out a1 J y.out).2).mono ?_;rintro e w5 ⟨a5,an,aA,ak,ac,am,aB,aj,ad,rfl,hT⟩;have a3:=Gs O a5;refine hK.out _ _ (λ_=>u.out _ a3) ?_;clear hK K
       try simp only[Qa,Zg9,Zgn,Zg3]
       refine wpAnyL_o 16 λK hK=>?_;go_simp;refine(Ze3 ln lm an am lA lB aA aB lk lc lj ld ak ac aj ad _ _ w5 (G6.out.below a3) hT (Zwl hF.out a1 J y.out).1 (Zwl hF.out a1 J y.out).2).mono ?_;rintro e w6 ⟨y4,bn,bA,bk,bc,bm,bB,bj,bd,rfl,hU⟩;have g7:=Gs a3 y4;refine hK.out _ _ (λ_=>u.out _ g7) ?_;clear hK K
       try simp only[Qa,Zg9,Zgn,Zg3]
       have b0:Below Y2.heap.size Y2 w6:=g7;have c4:=Ze b0 t8.out;obtain⟨f0,f1,f2,f3,w1,y7,v8,z9⟩:=c4.four;obtain⟨W7,p9,p7,e9,s7⟩:=Za2 bn bA bk bc bm bB bj bd c4;have n4:=Zd (hU.keptN e9 c4 (Zbf _ _ _ _ _ _ _ _));have A9:=Zd ((g2.out.kept b0).keptG c4 (Zbf _ _ _ _ _ _ _ _) (λe=>by have h8:=g2.out.row_ge gl e;omega) e9);have z7:Hid (Kept (λg=>g=gl) W2 W7):=Zd ((t0.out.below b0).trans e9);replace p7:=Zd p7;clear e9 hU hT;refine Zy (i:=17) rfl Gi Gi (λK hK=>?_);go_simp;(try rw[p9]);refine hK.out _ _ ?_;clear hK K
       try simp only[Qa,Zg9,Zgn,Zg3]
       refine wpAnyL_fin ?_;clear p9 f0 f1 f2 f3 w1 y7 v8 z9 c4 u hxs V O a3 g7 b0 d8 d5 U
       have z6:Hid (Fr W7 bn bA bk bc bm bB bj bd (Zu AQ (j+1) i i)):=Zd (by
        rw[Zmu hF.out.sym J (Qc _) a1 (y.out.ne J)];exact n4.out)
       have G5:Hid (OwnF 73 W7 W2.heap.size (.slice (some ⟨go,oo,none⟩) (j+1) cp) (Zjm AQ i (j+1))):=Zd (A9.out);clear n4;go_wp2_with fail
       go_roundg (i-(j+1))
       case measure=>omega
       case rel=>exact⟨j+1,_,_,_,_,_,_,_,_,by omega,by go_num,G5.out,p7.out,z6,z7.out⟩
      | succ t3 =>
       obtain rfl:t3=k-(j+1):=Gk;have g4:j<k:=Gk;have t3:decide ((j:Int)<(k:Int))=true:=Gv Gk;have bjk:(j:Int)<(k:Int):=Gk;have bji:(j:Int)<(i:Int):=Gk;have K5:(k:Int)<(i:Int):=Gk;obtain⟨go,oo,on_,oA,ok,oc,om,oB,oj,od,rfl,⟨o0,o1,o2,o3⟩,hO⟩:=(c5.out.below q4.out).at_ g4;obtain⟨g1,F6,A',n',c',rfl,ck,k1⟩:=(o8.out.below d6.out).at_ J;rw[Zm6 J]at k1;have D6:n'=k:=by rw[<- k1.len,Zga]
       rw[D6]at k1 ck;clear D6 n';have I6:=k1.cap;unfold maxLen at I6;obtain⟨gq,oq,qn,qA,qk,qc,qm,qB,qj,qd,rfl,⟨q0,q1,q2,q3⟩,hQ⟩:=k1.at_ g4;obtain⟨gd,C,dn,dA,dk,dc,dm,dB,dj,dd,rfl,⟨d0,d1,d2,d3⟩,hD⟩:=(d7.out.below d6.out).at_ (show j<i by omega);rw[Zma g4]at hO hQ;rw[Zqm (show j<i by omega)]at hD;replace hO:=Zd hO;replace hQ:=Zd hQ;replace hD:=Zd hD;clear k1;go_wp2_with fail;obtain⟨X0,U⟩:=Gz wj.drew;have V:Below wj.heap.size wj X0:=by rw[<- U];exact Zh (Qb _ _) 1
       have u:Hid (∀ wx,Below wj.heap.size wj wx->wx.cell? ⟨gs,0,none⟩=some (.bool sn)/\wx.cell? ⟨gs,1,none⟩=some (.slice sA sk sc)/\wx.cell? ⟨gs,2,none⟩=some (.bool sm)/\wx.cell? ⟨gs,3,none⟩=some (.slice sB sj sd)/\wx.cell? ⟨go,oo+j*4,none⟩=some (.bool on_)/\wx.cell? ⟨go,oo+j*4+1,none⟩=some (.slice oA ok oc)/\wx.cell? ⟨go,oo+j*4+2,none⟩=some (.bool om)/\wx.cell? ⟨go,oo+j*4+3,none⟩=some (.slice oB oj od)/\wx.cell? ⟨gx,0,none⟩=some (.slice (some ⟨g1,F6,none⟩) i c1)/\wx.cell? ⟨g1,F6+k,none⟩=some (.slice (some ⟨gq,oq,none⟩) k c')/\wx.cell? ⟨gq,oq+j*4,none⟩=some (.bool qn)/\wx.cell? ⟨gq,oq+j*4+1,none⟩=some (.slice qA qk qc)/\wx.cell? ⟨gq,oq+j*4+2,none⟩=some (.bool qm)/\wx.cell? ⟨gq,oq+j*4+3,none⟩=some (.slice qB qj qd)/\wx.cell? ⟨gx,1,none⟩=some (.slice (some ⟨gd,C,none⟩) i c2)/\wx.cell? ⟨gd,C+j*4,none⟩=some (.bool dn)/\wx.cell? ⟨gd,C+j*4+1,none⟩=some (.slice dA dk dc)/\wx.cell? ⟨gd,C+j*4+2,none⟩=some (.bool dm)/\wx.cell? ⟨gd,C+j*4+3,none⟩=some (.slice dB dj dd)):=Zd (λwx f=>⟨Zc f s0,Zc f s1,Zc f s2,Zc f s3,Zc f o0,Zc f o1,Zc f o2,Zc f o3,Zc f C2,Zc f ck,Zc f q0,Zc f q1,Zc f q2,Zc f q3,Zc f x6,Zc f d0,Zc f d1,Zc f d2,Zc f d3⟩);refine wp_heldS [21] hmx u (by rw[U];exact V) (λhxs=>?_);rw[U];refine Zkb 18 [0,1,2,3,4,5,6,7,8,9,10,11,12,13,14,15,16,17] rfl Gi (u.out _ V) ?_
       iterate 18 (refine tkA ?_;try simp only[Qa,Zg9,Zgn,Zg3,Gr,Gq,Gp])
       refine tk0 ?_;obtain⟨Y1,T⟩:=Gz (X0.alloc (.cells #[.bool qn,.slice qA qk qc,.bool qm,.slice qB qj qd,.bool dn,.slice dA dk dc,.bool dm,.slice dB dj dd] 73));obtain⟨g5,a2⟩:=Gz X0.heap.size;have d5:Below X0.heap.size X0 Y1:=by rw[<- T];exact(Qb _ _).alloc (Qc _) _
       have d8:Blk Y1 g5 73 #[.bool qn,.slice qA qk qc,.bool qm,.slice qB qj qd,.bool dn,.slice dA dk dc,.bool dm,.slice dB dj dd]:=by rw[<- T,<- a2];exact Qf _ _ _
       have O:Below wj.heap.size wj Y1:=Gs V d5;refine wpAnyL_o 18 λK hK=>?_;go_simp;(try rw[T]);(try rw[a2]);refine hK.out _ _ (λ_=>u.out _ O) ?_;clear hK K T a2
       try simp only[Qa,Zg9,Zgn,Zg3]
       refine wpAnyL_o 19 λK hK=>?_;go_simp;refine(Zcs on_ oA ok oc om oB oj od (lQ AQ i j) (some ⟨g5,0,none⟩) 2 2 [lQ AQ k j,dQ AQ j] Y1 (hO.out.below O) (FL.pair2 d8 (hQ.out.below O) (hD.out.below O)) Gk (Zpl hF.out a1 J g4 y.out).1 (Zpl hF.out a1 J g4 y.out).2).mono ?_;rintro e w5 ⟨a5,an,aA,ak,ac,am,aB,aj,ad,rfl,hT⟩;have a3:=Gs O a5;refine hK.out _ _ (λ_=>u.out _ a3) ?_;clear hK K
       try simp only[Qa,Zg9,Zgn,Zg3]
       refine wpAnyL_o 20 λK hK=>?_;go_simp;refine(Ze3 sn sm an am sA sB aA aB sk sc sj sd ak ac aj ad _ _ w5 (hs.out.below a3) hT (Zze hF.out a1 J g4 y.out).1 (Zze hF.out a1 J g4 y.out).2).mono ?_;rintro e w6 ⟨y4,bn,bA,bk,bc,bm,bB,bj,bd,rfl,hU⟩;have g7:=Gs a3 y4;refine hK.out _ _ (λ_=>u.out _ g7) ?_;clear hK K
       try simp only[Qa,Zg9,Zgn,Zg3]
       have b0:Below wj.heap.size wj w6:=g7;have c4:=Ze b0 z4;obtain⟨f0,f1,f2,f3,w1,y7,v8,z9⟩:=c4.four;obtain⟨W7,p9,p7,e9,s7⟩:=Za2 bn bA bk bc bm bB bj bd c4;have n4:=Zd (hU.keptN e9 c4 (Zbf _ _ _ _ _ _ _ _));have z7:Hid (Kept (λg=>g=gs) W4 W7):=Zd ((B6.below b0).trans e9);replace p7:=Zd p7;clear e9 hU hT;refine Zy (i:=21) rfl Gi Gi (λK hK=>?_);go_simp;(try rw[p9]);refine hK.out _ _ ?_;clear hK K
       try simp only[Qa,Zg9,Zgn,Zg3]
       refine wpAnyL_fin ?_;clear p9 f0 f1 f2 f3 w1 y7 v8 z9 c4 u hxs V O a3 g7 b0 d8 d5 U
       have z6:Hid (Fr W7 bn bA bk bc bm bB bj bd (Zu AQ (j+1) i k)):=Zd (by
        rw[Zmu hF.out.sym g4 Gk a1 (y.out.ne Gk)];exact n4.out)
       clear n4;go_wp2_with fail
       go_roundg (k-(j+1))
       case measure=>omega
       case rel=>exact⟨j+1,_,_,_,_,_,_,_,_,by omega,by go_num,p7.out,z6,z7.out⟩
theorem Zpw{x y:Int}{na nb:Bool}(ha:na=decide (x<0))(hb:nb=decide (y<0)):Zgf na nb (digits x.natAbs) (digits y.natAbs)=decide (x=y):=by
 unfold Zgf;rw[Zdh,ha,hb];by_cases h:x=y;subst h;simp[Zco];rw[Gu h];unfold Zco;by_cases h1:(decide (x<0) == decide (y<0))=true
 ·have:x.natAbs≠y.natAbs:=by
    intro e;rw[beq_iff_eq,decide_eq_decide]at h1;omega
  rcases Nat.lt_or_gt_of_ne this with h2|h2;rw[Gx Gk];simp;rw[Gw Gk,Gx Gk];simp
 rw[Bool.not_eq_true]at h1;rw[h1];rfl
def Fz(w:World)(na:Bool)(A:Option Addr)(n c:Nat)(nb:Bool)(B:Option Addr)(m d:Nat)(q:Int × Int):Prop:=Wd w na A n c q.1/\Wd w nb B m d q.2
theorem Fz.below{w w':World}{na:Bool}{A:Option Addr}{n c:Nat}{nb:Bool}{B:Option Addr}{m d:Nat}{r:Int × Int}(h:Fz w na A n c nb B m d r)(hb:Below w.heap.size w w'):Fz w' na A n c nb B m d r:=⟨h.1.below hb,h.2.below hb⟩
def prQ(r:Rat):Int × Int:=(r.num,(r.den:Nat))
theorem Fr.fz{w:World}{na:Bool}{A:Option Addr}{n c:Nat}{nb:Bool}{B:Option Addr}{m d:Nat}{r:Rat}(h:Fr w na A n c nb B m d r):Fz w na A n c nb B m d (prQ r):=h
theorem Ir{G:Prop}(h:G:=by
 rintro e w2 ⟨rfl,aa⟩;have av:Below w.heap.size w w2:=Gs ae aa;go_wp2_with fail;go_ret;exact⟨by simp,av⟩):G:=h
theorem Zy6(na nb na' nb':Bool)(A B A' B':Option Addr)(n c m d n' c' m' d':Nat)(a b:Int × Int)(w:World)(ha:Fz w na A n c nb B m d a)(hb:Fz w na' A' n' c' nb' B' m' d' b)(s:Bool)(hs:decide (a=b)=s) :
    Calls Tryz.prog 21 #[.agg #[.bool na,.slice A n c,.bool nb,.slice B m d],.agg #[.bool na',.slice A' n' c',.bool nb',.slice B' m' d']] w λe w'=>e=.returned (.bool s)/\Below w.heap.size w w':=by
 obtain⟨W0,o,h,⟨q0,q1⟩,s0⟩:=Zda w 41 #[.bool na,.slice A n c,.bool nb,.slice B m d] 41 #[.bool na',.slice A' n' c',.bool nb',.slice B' m' d'];have hA:=Zd (ha.below h);have hD:=Zd (hb.below h);have e1:=Zd (Zpw ha.1.1 hb.1.1);have e2:=Zd (Zpw ha.2.1 hb.2.1);clear ha hb;obtain⟨x,hx⟩:∃ x,decide (a.1=b.1)=x:=⟨_,rfl⟩;obtain⟨y,hy⟩:∃ y,decide (a.2=b.2)=y:=⟨_,rfl⟩
 have u:s=(x && y):=by
  rw[<- hs,<- hx,<- hy,Bool.eq_iff_iff];simp only[decide_eq_true_eq,Qi];constructor;rintro rfl;exact⟨rfl,rfl⟩;rintro⟨h1,h2⟩;exact Prod.ext h1 h2
 subst u;rw[hx]at e1;rw[hy]at e2;clear hs hx hy;obtain⟨a0,a1,a2,a3,-⟩:=q0.four;obtain⟨b0,b1,b2,b3,-⟩:=q1.four;have hq:=Zd (Qg q0 q1);clear q0 q1;go_in;go_wp2_with fail;refine(Zc8 na na' A A' n c n' c' _ _ W0 hA.out.1.lim hD.out.1.lim).mono ?_;rw[e1.out];rintro e w1 ⟨rfl,f⟩;have ae:Below w.heap.size w w1:=Gs h f;replace hA:=Zd (hA.out.below f);replace hD:=Zd (hD.out.below f);obtain⟨q0,q1⟩:=hq.out;replace q0:=Ze f q0;replace q1:=Ze f q1;clear o f a0 a1 a2 a3 b0 b1 b2 b3 hq h;obtain⟨a0,a1,a2,a3,-⟩:=q0.four;obtain⟨b0,b1,b2,b3,-⟩:=q1.four;clear q0 q1;cases x
 ·go_wp2_with fail
  go_ret;exact⟨rfl,ae⟩
 go_wp2_with fail;refine(Zc8 nb nb' B B' m d m' d' _ _ w1 hA.out.2.lim hD.out.2.lim).mono ?_;rw[e2.out];exact Ir
theorem prQ_inj{a b:Rat}:prQ a=prQ b ↔ a=b:=by
 constructor
 ·intro h
  have h1:=congrArg Prod.fst h;have h2:=congrArg Prod.snd h;simp only[prQ]at h1 h2;exact Rat.ext h1 Gk
 rintro rfl;rfl
theorem Zvc(na nb na' nb':Bool)(A B A' B':Option Addr)(n c m d n' c' m' d':Nat)(a b:Rat)(w:World)(ha:Fr w na A n c nb B m d a)(hb:Fr w na' A' n' c' nb' B' m' d' b)(s:Bool)(hs:decide (a=b)=s) :
    Calls Tryz.prog 21 #[.agg #[.bool na,.slice A n c,.bool nb,.slice B m d],.agg #[.bool na',.slice A' n' c',.bool nb',.slice B' m' d']] w λe w'=>e=.returned (.bool s)/\Below w.heap.size w w':=
 Zy6 na nb na' nb' A B A' B' n c m d n' c' m' d' (prQ a) (prQ b) w ha.fz hb.fz s (by rw[<- hs];exact decide_eq_decide.2 prQ_inj)
def Zou(a b:Rat):Int:=if a<b then -1 else if b<a then 1 else 0
theorem Zsr(a b:Rat):Zco (a.num*b.den) (b.num*a.den)=Zou a b:=by
 unfold Zco Zou;simp only[Rat.lt_iff]
theorem Zz0(na nb na' nb':Bool)(A B A' B':Option Addr)(n c m d n' c' m' d':Nat)(a b:Rat)(w:World)(ha:Fr w na A n c nb B m d a)(hb:Fr w na' A' n' c' nb' B' m' d' b)(sa:Sm a)(sb:Sm b) :
    Calls Tryz.prog 63 #[.agg #[.bool na,.slice A n c,.bool nb,.slice B m d],.agg #[.bool na',.slice A' n' c',.bool nb',.slice B' m' d']] w λe w'=>e=.returned (.tuple #[.int .i64 (Zou a b),.int .i64 0])/\Below w.heap.size w w':=by
 rw[<- Zsr];have h1:=Zd (Zbm sa.1 sb.dn);have h2:=Zd (Zbm sb.1 sa.dn);obtain⟨W0,a5,y,⟨q0,q1⟩,s0⟩:=Zda w 41 #[.bool na,.slice A n c,.bool nb,.slice B m d] 41 #[.bool na',.slice A' n' c',.bool nb',.slice B' m' d'];have hA:=Zd (ha.below y);have hD:=Zd (hb.below y);clear ha hb sa sb;generalize hX:a.num*((b.den:Nat):Int)=X at *;generalize hY:b.num*((a.den:Nat):Int)=Y at *
 replace hX:=Zd hX;replace hY:=Zd hY;obtain⟨a0,a1,a2,a3,-⟩:=q0.four;obtain⟨b0,b1,b2,b3,-⟩:=q1.four;have hq:=Zd (Qg q0 q1);clear q0 q1;go_in;go_wp2_with fail;refine(Zw8 na nb na' nb' A B A' B' n c m d n' c' m' d' a b W0 hA.out hD.out).mono ?_;rintro e w1 ⟨rfl,u⟩;have I:Below w.heap.size w w1:=Gs y u;replace hA:=Zd (hA.out.below u);replace hD:=Zd (hD.out.below u);obtain⟨q0,q1⟩:=hq.out;replace q0:=Ze u q0;replace q1:=Ze u q1;clear a5 u a0 a1 a2 a3 b0 b1 b2 b3 hq y;obtain⟨a0,a1,a2,a3,-⟩:=q0.four;obtain⟨b0,b1,b2,b3,-⟩:=q1.four;have hq:=Zd (Qg q0 q1);clear q0 q1;go_wp2_with fail;have hM:=Zen na nb' A B' n c m' d' a.num b.den w1 hA.out.1 hD.out.2;rw[hX.out]at hM;refine hM.mono ?_;clear hM;rintro e w2 ⟨o,n1,P1,k1,c1,code,rfl,hR⟩;have f:=Zd (hR.small h1.out);have h:=hR.code0 h1.out;subst h;have J:Below w.heap.size w w2:=Gs I o;replace hA:=Zd (hA.out.below o);replace hD:=Zd (hD.out.below o);obtain⟨q0,q1⟩:=hq.out;replace q0:=Ze o q0;replace q1:=Ze o q1;clear o a0 a1 a2 a3 b0 b1 b2 b3 hq I hR h1 hX;obtain⟨W2,a4,U,r1,kW,kB,t2⟩:=Zq 39 #[.bool n1,.slice P1 k1 c1] J J.size;replace q0:=kB _ _ _ q0;replace q1:=kB _ _ _ q1;replace hA:=Zd (hA.out.keep kW);replace hD:=Zd (hD.out.keep kW);replace f:=Zd (kW _ _ _ _ _ f.out);clear kW kB J;obtain⟨a0,a1,a2,a3,-⟩:=q0.four;obtain⟨b0,b1,b2,b3,-⟩:=q1.four;clear q0 q1;replace r1:=Zd r1
 go_wp2_with fail;have hM:=Zen na' nb A' B n' c' m d b.num a.den W2 hD.out.1 hA.out.2;rw[hY.out]at hM;refine hM.mono ?_;clear hM;rintro e w3 ⟨C,n2,P2,k2,c2,code,rfl,hR⟩;have T:=Zd (hR.small h2.out);have h:=hR.code0 h2.out;subst h;have O:Below w.heap.size w w3:=Gs U C;replace r1:=Ze C r1.out;replace f:=Zd (f.out.below C);clear C a0 a1 a2 a3 b0 b1 b2 b3 U hR h2 hY hA hD a4;obtain⟨W3,a8,V,r2,kW,kB,t3⟩:=Zq 39 #[.bool n2,.slice P2 k2 c2] O O.size;replace r1:=kB _ _ _ r1;replace f:=Zd (kW _ _ _ _ _ f.out);replace T:=Zd (kW _ _ _ _ _ T.out);clear kW kB O;obtain⟨x0,x1,-⟩:=r1.two;obtain⟨y0,y1,-⟩:=r2.two;clear r1 r2;go_wp2_with fail;refine(Zj7 n1 n2 P1 P2 k1 c1 k2 c2 X Y W3 f.out T.out).mono ?_;rintro e w4 ⟨rfl,a7⟩;have a6:Below w.heap.size w w4:=Gs V a7;go_wp2_with fail
 go_ret2
 exact⟨rfl,a6⟩
theorem Zrb(na nb:Bool)(A B:Option Addr)(n c m d:Nat)(la lb:List Nat)(w:World)(ha:Lim w A n c la)(hb:Lim w B m d lb)(hbad:okW na la=false) :
    Calls Tryz.prog 17 #[.agg #[.bool na,.slice A n c,.bool nb,.slice B m d]] w λe w'=>e=.returned (.int .i64 8)/\Below w.heap.size w w':=by
 have hmx:=Gt;obtain⟨W0,u,f,q0,s0⟩:=Zao w 41 #[.bool na,.slice A n c,.bool nb,.slice B m d];have hA:=Zd (ha.below f);clear ha hb;obtain⟨a0,a1,a2,a3,-⟩:=q0.four;go_in;go_wp2_with fail;refine(Zmf hA.out hbad).mono ?_;rintro e w1 ⟨rfl,h⟩;have o:Below w.heap.size w w1:=Gs f h;clear u a0 a1 a2 a3;obtain⟨a0,a1,a2,a3,-⟩:=(Ze h q0).four;go_wp2_with fail;go_ret;exact⟨rfl,o⟩
theorem EH{G:Prop}(h:G:=by
 rintro e w2 ⟨rfl,aa⟩;have av:Below w.heap.size w w2:=Gs ae aa;replace q0:=Ze aa q0;clear a0 a1 a2 a3 aa;obtain⟨a0,a1,a2,a3,-⟩:=q0.four;go_wp2_with fail;go_ret;exact⟨rfl,av⟩):G:=h
theorem Zqd(na nb:Bool)(A B:Option Addr)(n c m d:Nat)(la lb:List Nat)(w:World)(ha:Lim w A n c la)(hb:Lim w B m d lb)(hk:okW na la=true)(hbad:okW nb lb=false) :
    Calls Tryz.prog 17 #[.agg #[.bool na,.slice A n c,.bool nb,.slice B m d]] w λe w'=>e=.returned (.int .i64 8)/\Below w.heap.size w w':=by
 have hmx:=Gt;obtain⟨W0,o,h,q0,s0⟩:=Zao w 41 #[.bool na,.slice A n c,.bool nb,.slice B m d];have hA:=Zd (ha.below h);have hD:=Zd (hb.below h);clear ha hb;obtain⟨a0,a1,a2,a3,-⟩:=q0.four;go_in;go_wp2_with fail;refine(Zbs hA.out hk).mono ?_;rintro e w1 ⟨rfl,f⟩;have ae:Below w.heap.size w w1:=Gs h f;replace q0:=Ze f q0;replace hA:=Zd (hA.out.below f);replace hD:=Zd (hD.out.below f);clear o a0 a1 a2 a3 f;obtain⟨a0,a1,a2,a3,-⟩:=q0.four;go_wp2_with fail;refine(Zmf hD.out hbad).mono ?_;exact EH
theorem Zp9(na:Bool)(A B:Option Addr)(n c m d:Nat)(la lb:List Nat)(w:World)(ha:Lim w A n c la)(hb:Lim w B m d lb)(hk:okW na la=true)(hk2:okW true lb=true) :
    Calls Tryz.prog 17 #[.agg #[.bool na,.slice A n c,.bool true,.slice B m d]] w λe w'=>e=.returned (.int .i64 8)/\Below w.heap.size w w':=by
 have hmx:=Gt;obtain⟨W0,o,h,q0,s0⟩:=Zao w 41 #[.bool na,.slice A n c,.bool true,.slice B m d];have hA:=Zd (ha.below h);have hD:=Zd (hb.below h);clear ha hb;obtain⟨a0,a1,a2,a3,-⟩:=q0.four;go_in;go_wp2_with fail;refine(Zbs hA.out hk).mono ?_;rintro e w1 ⟨rfl,f⟩;have ae:Below w.heap.size w w1:=Gs h f;replace q0:=Ze f q0;replace hA:=Zd (hA.out.below f);replace hD:=Zd (hD.out.below f);clear o a0 a1 a2 a3 f;obtain⟨a0,a1,a2,a3,-⟩:=q0.four;go_wp2_with fail;refine(Zbs hD.out hk2).mono ?_;exact EH
theorem Zq5(na:Bool)(A B:Option Addr)(n c d:Nat)(la:List Nat)(w:World)(ha:Lim w A n c la)(hb:Lim w B 0 d [])(hk:okW na la=true) :
    Calls Tryz.prog 17 #[.agg #[.bool na,.slice A n c,.bool false,.slice B 0 d]] w λe w'=>e=.returned (.int .i64 8)/\Below w.heap.size w w':=by
 have hmx:=Gt;obtain⟨W0,o,h,q0,s0⟩:=Zao w 41 #[.bool na,.slice A n c,.bool false,.slice B 0 d];have hA:=Zd (ha.below h);have hD:=Zd (hb.below h);clear ha hb;obtain⟨a0,a1,a2,a3,-⟩:=q0.four;go_in;go_wp2_with fail;refine(Zbs hA.out hk).mono ?_;rintro e w1 ⟨rfl,f⟩;have ae:Below w.heap.size w w1:=Gs h f;replace q0:=Ze f q0;replace hA:=Zd (hA.out.below f);replace hD:=Zd (hD.out.below f);clear o a0 a1 a2 a3 f;obtain⟨a0,a1,a2,a3,-⟩:=q0.four;go_wp2_with fail;refine(Zbs hD.out Gj).mono ?_;exact EH
theorem Zrg(na:Bool)(A B:Option Addr)(n c m d:Nat)(za zb:Int)(w:World)(h1:Wd w na A n c za)(h2:Wd w false B m d zb)(hp:0<zb)(hg:Nat.gcd za.natAbs zb.natAbs≠1) :
    Calls Tryz.prog 17 #[.agg #[.bool na,.slice A n c,.bool false,.slice B m d]] w λe w'=>e=.returned (.int .i64 8)/\Below w.heap.size w w':=by
 have hmx:=Gt;have a4:0<m:=by rw[<- h2.lim.len];exact length_digits_pos.2 Gk
 have Y:((m:Int) == 0)=false:=by simp;omega
 have hm:=h2.2.1;have O:=Zd0 h1.small h2.small;obtain⟨G,J⟩:=Gz (Nat.gcd za.natAbs zb.natAbs);rw[J]at hg O;replace hg:=Zd hg;obtain⟨W0,U,h,q0,s0⟩:=Zao w 41 #[.bool na,.slice A n c,.bool false,.slice B m d];have hA:=Zd (Qg (h1.below h) (h2.below h));clear h1 h2;obtain⟨a0,a1,a2,a3,-⟩:=q0.four;replace q0:=Zd q0;go_in;go_wp2_with fail;refine(Zbs hA.out.1.lim hA.out.1.ok).mono ?_;rintro e w1 ⟨rfl,u⟩;have y:Below w.heap.size w w1:=Gs h u;replace hA:=Zd (Qg (hA.out.1.below u) (hA.out.2.below u));replace q0:=Gm u q0;clear a0 a1 a2 a3 u h U;obtain⟨a0,a1,a2,a3,-⟩:=q0.out.four;go_wp2_with fail;refine(Zbs hA.out.2.lim hA.out.2.ok).mono ?_;rintro e w2 ⟨rfl,o⟩;have C:Below w.heap.size w w2:=Gs y o;replace hA:=Zd (Qg (hA.out.1.below o) (hA.out.2.below o));replace q0:=Gm o q0;clear a0 a1 a2 a3 o y;obtain⟨a0,a1,a2,a3,-⟩:=q0.out.four;go_wp2_with fail;refine(Zmc na false A B n c m d za zb w2 hA.out.1 hA.out.2).mono ?_;rw[J];rintro e w3 ⟨T,ng,Ag,kg,cg,code,rfl,hR⟩;have hG:=Zd (hR.small (by rw[Qr];exact O));have I:Below w.heap.size w w3:=Gs C T;clear a0 a1 a2 a3 T C q0 hA hR;obtain⟨W4,a5,V,q4,kW,kB,s4⟩:=Zq 39 #[.bool ng,.slice Ag kg cg] I I.size;replace hG:=Zd (kW _ _ _ _ _ hG.out);clear kW kB;obtain⟨g0,g1,-⟩:=q4.two;replace q4:=Zd q4;go_wp2_with fail;refine Zz [] (λW'=>W'.cell? ⟨w3.heap.size,0,none⟩=some (.bool ng)/\W'.cell? ⟨w3.heap.size,1,none⟩=some (.slice Ag kg cg)) hmx ⟨g0,g1⟩ (λ_=>?_);refine Zkb 1 [0] rfl Gi ⟨g0,g1⟩ ?_
 (refine tkA ?_;try simp only[Qa,Zg9,Zgn,Zg3,Gr,Gq,Gp])
 refine tk0 ?_;refine wpAnyL_o 1 λK hK=>?_;go_simp;refine(Zc6 1 W4.drew Gk Gk).mono ?_;rintro e w5 ⟨f,n1,A1,k1,c1,rfl,hO⟩;replace f:=Zv f;have aJ:Below w.heap.size w w5:=V.trans (f.mono (by show w.heap.size<=W4.heap.size;have:=I.size;omega));replace hG:=Zd (hG.out.below f);replace q4:=Gm f q4;clear g0 g1;obtain⟨g0,g1,-⟩:=q4.out.two;refine hK.out _ _ (λ_=>⟨g0,g1⟩) ?_;clear hK K
 try simp only[Qa,Zg9,Zgn,Zg3]
 refine wpAnyL_o 2 λK hK=>?_;go_simp;refine(Zc8 ng n1 Ag A1 kg cg k1 c1 _ _ w5 hG.out.lim hO.lim).mono ?_;have iD:Zgf ng n1 (digits (Int.natAbs ((G:Nat):Int))) (digits (Int.natAbs 1))=false:=by have h1:=hG.out.1;have h2:=hO.1;rw[h1,h2];unfold Zgf;have:=hg.out;simp[Zdh,Zco];omega
 exact EM
theorem Zsn(na nb:Bool)(A B:Option Addr)(n c m d:Nat)(la lb:List Nat)(w:World)(ha:Lim w A n c la)(hb:Lim w B m d lb)(x:Bool)(hx:okF na la nb lb=x) :
    Calls Tryz.prog 17 #[.agg #[.bool na,.slice A n c,.bool nb,.slice B m d]] w λe w'=>e=.returned (.int .i64 (Zfq x))/\Below w.heap.size w w':=by
 cases x
 ·simp only[okF,Bool.and_eq_false_iff,Bool.not_eq_false',decide_eq_false_iff_not]at hx
  by_cases h1:okW na la=true
  case neg=>exact Zrb na nb A B n c m d la lb w ha hb (by simpa using h1)
  by_cases h2:okW nb lb=true
  case neg=>exact Zqd na nb A B n c m d la lb w ha hb h1 (by simpa using h2)
  have hA:=Wd.of_ok ha h1;have hD:=Wd.of_ok hb h2;cases nb
  ·by_cases hz:0<lb.length
   ·have e3:sg false (val lb)=(val lb:Nat):=rfl
    rw[e3]at hD;have f:=(Zjx hb.lt).1 h2;have e2:(sg false (val lb)).natAbs=val lb:=Zaa _ _;rw[e2]at f
    have hp:0<val lb:=by
     rw[f.2.2]at hz;exact length_digits_pos.1 hz
    refine Zrg na A B n c m d _ _ w hA hD Gk ?_;rw[Zaa,Qr];rcases hx with (((hx|hx)|hx)|hx)|hx;rw[h1]at hx;cases hx;rw[h2]at hx;cases hx;cases hx;omega;exact hx
   have h:lb=[]:=List.eq_nil_of_length_eq_zero Gk;subst h;have hm:m=0:=hb.len.symm;subst hm;exact Zq5 na A B n c d la w ha hb h1
  exact Zp9 na A B n c m d la lb w ha hb h1 h2
 exact Zjw na nb A B n c m d _ w (Zqy ha hb hx)
theorem Is{G:Prop}(h:G:=by
 go_wp2_with fail;go_ret;exact⟨rfl,(by first|exact aq|exact Zh aq _)⟩):G:=h
theorem Zp1(na nb:Bool)(A B:Option Addr)(n c m d:Nat)(w:World)(hn:n<=maxLen)(hm:m<=maxLen) :
    Calls Tryz.prog 24 #[.agg #[.bool na,.slice A n c,.bool nb,.slice B m d]] w λe w'=>e=.returned (.int .i64 (max n m:Nat))/\Below w.heap.size w w':=by
 unfold maxLen at hn hm;obtain⟨W0,f,aq,q0,s0⟩:=Zao w 41 #[.bool na,.slice A n c,.bool nb,.slice B m d];obtain⟨a0,a1,a2,a3,-⟩:=q0.four;have hx:max (n:Int) (m:Int)=((max n m:Nat):Int):=Gk
 go_in;exact Is
def FX.fine(e:FX):Bool:=decide (e.few<=8) && e.ok
def Zex(es:List FX):Bool:=es.all FX.fine
def FX.fine64(e:FX):Bool:=decide (e.few<=64) && e.ok
def Zc2(es:List FX):Bool:=es.all FX.fine64
def RX.long6(r:RX):Bool:=decide (6<r.n)
def long6(rs:List RX):Bool:=decide (6<rs.length) || rs.any RX.long6
def Zdb(k:Nat)(r:RX):Bool:=decide (r.n=k) && Zc2 r.es
def Zhf(Q:List (List Rat)):Bool:=decide (∀ i,i<Q.length->∀ k,k<i->Zj Q i k=Zj Q k i)
def posB(A:Nat->Nat->Rat)(n:Nat):Bool:=decide (∀ t,t<n->0<dQ A t)
theorem posB_iff{A:Nat->Nat->Rat}{n:Nat}:posB A n=true ↔ posP A n:=by unfold posB posP;rw[decide_eq_true_eq]
def Za9(rs:List RX):Int:=if long6 rs=true then 4 else if rs.length=0 then 8 else if rs.all (Zdb rs.length)=true then (if (Zhf (qM rs) && posB (Zj (qM rs)) rs.length)=true then 0 else 8)else 8
section
variable{rs:List RX}
theorem Zfz(h:long6 rs=true):Za9 rs=4:=by unfold Za9;rw[Gx h]
theorem Zr2(h:long6 rs=false)(h0:rs.length=0):Za9 rs=8:=by unfold Za9;rw[Gw (by simp[h]),Gx h0]
theorem IV{G:Prop}(h:G:=by
 rw[Gw (by simp[h]),Gw h0,Gw];intro e;rw[List.all_eq_true]at e;have:=e r hr;rw[hb]at this;cases this):G:=h
theorem Zrm(h:long6 rs=false)(h0:rs.length≠0){r:RX}(hr:r ∈ rs)(hb:Zdb rs.length r=false):Za9 rs=8:=by
 unfold Za9;exact IV
theorem Ia{G:Prop}(h:G:=by
 rw[List.all_eq_true]at h3;have h7:=h3 r hr;unfold Zdb at h7;rw[Bool.and_eq_true,decide_eq_true_eq]at h7;exact h7):G:=h
theorem Zjr(h:Za9 rs=0):0<rs.length/\rs.length<=6/\(∀ r ∈ rs,r.n=rs.length/\Zc2 r.es=true)/\Zhf (qM rs)=true/\posP (Zj (qM rs)) rs.length:=by
 unfold Za9 at h;by_cases h1:long6 rs=true;rw[Gx h1]at h;cases h;rw[Gw h1]at h;by_cases h2:rs.length=0;rw[Gx h2]at h;cases h;rw[Gw h2]at h;by_cases h3:rs.all (Zdb rs.length)=true
 ·rw[Gx h3]at h
  by_cases h4:(Zhf (qM rs) && posB (Zj (qM rs)) rs.length)=true
  ·rw[Qi]at h4
   have h5:long6 rs=false:=by simpa using h1
   unfold long6 at h5;rw[Qv]at h5;have h6:=of_decide_eq_false h5.1;refine⟨by omega,by omega,λr hr=>?_,h4.1,posB_iff.1 h4.2⟩;exact Ia
  rw[Gw h4]at h;cases h
 rw[Gw h3]at h;cases h
theorem symB_iff{Q:List (List Rat)}:Zhf Q=true ↔ ∀ i k,i<Q.length->k<Q.length->Zj Q i k=Zj Q k i:=by
 unfold Zhf;rw[decide_eq_true_eq];constructor
 ·intro h i k hi hk
  rcases Nat.lt_trichotomy i k with h1|h1|h1;exact(h k hk i h1).symm;rw[h1];exact h i hi k h1
 intro h i hi k hk;exact h i k hi Gk
theorem Zn9{es:List FX}(h:Zc2 es=true):∀ e ∈ es,e.ok=true:=λe he=>by
 unfold Zc2 at h;rw[Qn]at h;have:=h e he;unfold FX.fine64 at this;rw[Qi]at this;exact this.2
end
def Zkm(k:Nat)(rs:List RX):Prop:=∀ r ∈ rs,∀ e ∈ r.es,e.few<=k \/ 64<e.few
section
variable{w:World}{A:Option Addr}{n c:Nat}{rs:List RX}
theorem Zzx(h:MXL w A n c rs)(hE:Za9 rs=0):MFL w A n c (qM rs):=h.mfl λr hr=>Zn9 ((Zjr hE).2.2.1 r hr).2
theorem cov_row(h:MXL w A n c rs)(hE:Za9 rs=0)(i:Nat)(hi:i<n):((qM rs)[i]?.getD []).length=n:=by
 obtain⟨-,-,h3,-,-⟩:=Zjr hE;unfold qM;rw[Qm,Ql (by rw[h.1];exact hi)];simp only[Qp,Qo,Qj];have hr:rs[i]'(by rw[h.1];exact hi) ∈ rs:=Qz _;have h4:=(h.2.2.2.1 _ hr).1;rw[h4,(h3 _ hr).1,h.1]
theorem Zr1{e:FX}(hin:e.in_ w)(hk:e.ok=true){k:Nat}(hf:e.few<=k):(e.q).num.natAbs<=pw k/\(e.q).den<=pw k:=by
 have h1:Fr w e.na e.A e.n e.c e.nb e.B e.m e.d e.q:=Zqy hin.1 hin.2 hk;have h2:=h1.1.lim.len;have h3:=h1.2.lim.len;unfold FX.few at hf;constructor
 ·have h4:=Nat.le_of_lt (Zcw e.q.num.natAbs)
  rw[h2]at h4;exact Qd h4 (Zca Gk)
 have h4:=Nat.le_of_lt (Zcw ((e.q.den:Int).natAbs));rw[h3]at h4;simp only[Qr]at h4;exact Qd h4 (Zca Gk)
end
def IdxC(w:World)(b:Bool)(e:Ending)(w':World):Prop:=∃ i:Int,e=.returned (.int .i64 i)/\decide (0<=i)=b/\Below w.heap.size w w'
theorem EB{G:Prop}(h:G:=by
 go_wp2_with fail;go_ret;exact⟨rfl,(by first|exact Gs aq ab|exact(Zh aq _).trans (ab.mono aq.size))⟩):G:=h
theorem CL{G:Prop}(h:G:=by
 go_wp2_with fail;refine(hC.out _ (by first|exact aq|exact Zh aq _)).mono ?_;rintro e w1 ⟨rfl,ab⟩;simp only[Zfq,if_true];exact EB):G:=h
theorem CO{G:Prop}(h:G:=by
 go_wp2_with fail;refine(hC.out _ (by first|exact aq|exact Zh aq _)).mono ?_;rintro e w1 ⟨rfl,ab⟩;simp only[Zfq,Bool.false_eq_true,if_false];exact EB):G:=h
theorem Zzk(na nb:Bool)(A B:Option Addr)(n c m d:Nat)(la lb:List Nat)(w:World)(ha:Lim w A n c la)(hb:Lim w B m d lb)(b:Bool)(hx:(decide (max n m<=64) && okF na la nb lb)=b) :
    Calls Tryz.prog 109 #[.agg #[.bool na,.slice A n c,.bool nb,.slice B m d]] w λe w'=>e=.returned (.bool (!b))/\Below w.heap.size w w':=by
 obtain⟨W0,C,aq,q0,s0⟩:=Zao w 41 #[.bool na,.slice A n c,.bool nb,.slice B m d];obtain⟨a0,a1,a2,a3,-⟩:=q0.four;have u:=Qd ha.2.1 ha.2.2.1;have o:=Qd hb.2.1 hb.2.2.1;unfold maxLen at u o;obtain⟨y,hy⟩:=Gz (okF na la nb lb);rw[hy]at hx;have hC:=Zd (λW1 (h1:Below w.heap.size w W1)=>Zmj na nb A B n c m d la lb W1 (ha.below h1) (hb.below h1) y hy);clear ha hb hy;have hmx:max (n:Int) (m:Int)=((max n m:Nat):Int):=Gk;by_cases h8:max n m<=64
 ·have t1:decide ((64:Int)<((max n m:Nat):Int))=false:=Gu Gk
  have h:decide (64<max n m)=false:=Gu Gk;have f:decide ((64:Int)<max (n:Int) (m:Int))=false:=Gu Gk;rw[Gv h8,Bool.true_and]at hx;subst hx;cases y
  ·go_in
   exact CO
  go_in
  exact CL
 have t1:decide ((64:Int)<((max n m:Nat):Int))=true:=Gv Gk;have h:decide (64<max n m)=true:=Gv Gk;have f:decide ((64:Int)<max (n:Int) (m:Int))=true:=Gv Gk;rw[Gu h8,Bool.false_and]at hx;subst hx;go_in;exact Is
theorem Fh{G:Prop}(h:G:=by
 go_wp2_with fail;go_ret;exact⟨-1,rfl,rfl,aH⟩):G:=h
theorem EZ{G:Prop}(h:G:=by
 rw[List.all_eq_true];intro e he;obtain⟨j,hj,fR⟩:=List.getElem_of_mem he;exact aw.out j e (by rw[hl.out]at hj;exact hj) (by rw[List.getElem?_eq_getElem hj,fR])):G:=h
theorem Ek{G:Prop}(h:G:=by
 rintro e' w1 ⟨rfl,ab⟩;go_wp2_with fail;go_ret;exact⟨i,rfl,by simp,(by first|exact Gs aH ab|exact(Zh aH _).trans (ab.mono aH.size))⟩):G:=h
theorem Eo{G:Prop}(h:G:=by
 rintro e' w1 ⟨rfl,ab⟩;go_wp2_with fail
 go_roundw
 case rel=>exact⟨i+1,by omega,by go_num,ay,(by first|exact Gs aH ab|exact(Zh aH _).trans (ab.mono aH.size))⟩
 case measure=>simp[intOf];omega):G:=h
theorem CM{G:Prop}(h:G:=by
 replace he:=Zd he;clear hx;go_wp2_with fail;refine(hC.out _ (by first|exact Below.refl _ _|exact Zh (Below.refl _ _) _)).mono ?_;exact Eo):G:=h
theorem CN{G:Prop}(h:G:=by
 replace he:=Zd he;clear hx;go_wp2_with fail;refine(hC.out _ (by first|exact Below.refl _ _|exact Zh (Below.refl _ _) _)).mono ?_;exact Ek):G:=h
theorem Zzg(A:Option Addr)(n c:Nat)(es:List FX)(w:World)(h:FXL w A n c es)(b:Bool)(hb:Zc2 es=b) :
    Calls Tryz.prog 150 #[.slice A n c,.func (.func 109) #[] #[]] w (IdxC w (!b)):=by
 have hl:=h.1;have I:=h.2.1;have y:=h.2.2.1;unfold maxLen at y;replace hl:=Zd hl;replace hb:=Zd hb;replace h:=Zd h;go_in;go_wp2_with fail
 go_loopw [8] (λiv wr=>∃ i:Nat,i<=n/\iv=.int .i64 i/\Hid (∀ j e,j<i->es[j]?=some e->e.fine64=true)/\Below w.heap.size w wr) (λiv _=>n-(intOf iv).toNat)
 case atStart=>exact⟨0,Qu _,rfl,Zd (λj e hj=>by omega),Qb _ _⟩
 case round =>
  obtain⟨i,J,rfl,aw,aH⟩:=hrel;by_cases hin:i<n
  case neg =>
   obtain rfl:n=i:=Gk;have C:decide ((n:Int)<(n:Int))=false:=Gh
   obtain rfl:b=true:=by
    rw[<- hb.out];unfold Zc2;exact EZ
   exact Fh
  have C:decide ((i:Int)<(n:Int))=true:=Gv Gk;obtain⟨g,o,e,rfl,he,hc,f,u⟩:=(h.out.below aH).at_ hin;obtain⟨c0,c1,c2,c3⟩:=hc;obtain⟨x,hx⟩:=Gz e.fine64;have hC:=Zd (λW1 (hb:Below wr.heap.size wr W1)=>Zzk e.na e.nb e.A e.B e.n e.c e.m e.d e.la e.lb W1 (f.below hb) (u.below hb) x hx);clear f u;cases x
  ·obtain rfl:b=false:=by
     rw[<- hb.out];unfold Zc2;rw[List.all_eq_false];exact⟨e,Qe he,by rw[hx];decide⟩
   exact CN
  have ay:Hid (∀ j e,j<i+1->es[j]?=some e->e.fine64=true):=Zd (λj e' hj he'=>by
    rcases Qh j i with h'|h';exact aw.out j e' h' he';obtain rfl:j=i:=Gk;rw[he]at he';cases he';exact hx)
  exact CM
theorem EY{G:Prop}(h:G:=by
 rintro e w1 ⟨i,rfl,hi,ab⟩;replace hi:=Zd hi;go_wp2_with fail;go_ret;exact⟨Zer hi.out,ab⟩):G:=h
theorem Zxj(A:Option Addr)(n c:Nat)(es:List FX)(w:World)(h:FXL w A n c es)(b:Bool)(hb:Zc2 es=b) :
    Calls Tryz.prog 108 #[.slice A n c,.func (.func 109) #[] #[]] w λe w'=>e=.returned (.bool (!b))/\Below w.heap.size w w':=by
 go_in;go_wp2_with fail;refine(Zzg A n c es w h b hb).mono ?_;exact EY
theorem Zlo(A:Option Addr)(n c:Nat)(es:List FX)(w:World)(h:FXL w A n c es)(b:Bool)(hb:Zc2 es=b) :
    Calls Tryz.prog 65 #[.slice A n c] w λe w'=>e=.returned (.bool b)/\Below w.heap.size w w':=by
 go_in;go_wp2_with fail;refine(Zxj A n c es w h b hb).mono ?_;rintro e w1 ⟨rfl,f⟩;go_wp2_with fail;go_ret;exact⟨by simp,f⟩
theorem Fu{G:Prop}(h:G:=by
 go_wp2_with fail;go_ret;exact⟨by first|rfl|simp[hd],by first|exact Below.refl _ _|exact Zh (Below.refl _ _) _⟩):G:=h
theorem Bx{G:Prop}(h:G:=by
 unfold maxLen at hn;have hd:decide ((6:Int)<(n:Int))=decide (6<n):=decide_eq_decide.2 Gk;go_in;exact Fu):G:=h
theorem Zyh(A:Option Addr)(n c:Nat)(w:World)(hn:n<=maxLen) :
    Calls Tryz.prog 104 #[.slice A n c] w λe w'=>e=.returned (.bool (decide (6<n)))/\Below w.heap.size w w':=by
 exact Bx
theorem FXL.nlenC{w:World}{A:Option Addr}{n c:Nat}{es:List FX}(h:FXL w A n c es):n<=maxLen:=Qd h.2.1 h.2.2.1
theorem Em{G:Prop}(h:G:=by
 obtain rfl:n=i:=Gk;have fw:decide ((n:Int)<(n:Int))=false:=Gh
 obtain rfl:b=false:=by
  rw[<- hb.out,List.any_eq_false];intro e he;obtain⟨j,hj,fR⟩:=List.getElem_of_mem he;have:=aw.out j e (by rw[hl.out]at hj;exact hj) (by rw[List.getElem?_eq_getElem hj,fR]);rw[this];decide
 go_wp2_with fail;go_ret;exact⟨-1,rfl,rfl,aH⟩):G:=h
theorem CY{G:Prop}(h:G:=by
 rw[Gv hx]at hC;replace he:=Zd he;go_wp2_with fail;refine(hC.out _).mono ?_;exact Ek):G:=h
theorem CZ{G:Prop}(h:G:=by
 rw[Gu hx]at hC;replace he:=Zd he;go_wp2_with fail;refine(hC.out _).mono ?_;exact Eo):G:=h
theorem Zyw(A:Option Addr)(n c:Nat)(rs:List RX)(w:World)(h:MXL w A n c rs)(b:Bool)(hb:rs.any RX.long6=b) :
    Calls Tryz.prog 146 #[.slice A n c,.func (.func 104) #[] #[]] w (IdxC w b):=by
 have hl:=h.1;have u:=h.2.1;have f:=h.2.2.1;unfold maxLen at f;replace hl:=Zd hl;replace hb:=Zd hb;replace h:=Zd h;go_in;go_wp2_with fail
 go_loopw [8] (λiv wr=>∃ i:Nat,i<=n/\iv=.int .i64 i/\Hid (∀ j e,j<i->rs[j]?=some e->e.long6=false)/\Below w.heap.size w wr) (λiv _=>n-(intOf iv).toNat)
 case atStart=>exact⟨0,Qu _,rfl,Zd (λj e hj=>by omega),Qb _ _⟩
 case round =>
  obtain⟨i,y,rfl,aw,aH⟩:=hrel;by_cases hin:i<n
  case neg =>
   exact Em
  have fw:decide ((i:Int)<(n:Int))=true:=Gv Gk;obtain⟨g,o,r,rfl,he,c0,hL⟩:=(h.out.below aH).at_ hin;have hC:=Zd (λW1=>Zyh r.A r.n r.c W1 hL.nlenC);clear hL;by_cases hx:6<r.n
  ·obtain rfl:b=true:=by
     rw[<- hb.out,List.any_eq_true];exact⟨r,Qe he,by unfold RX.long6;simpa using hx⟩
   exact CY
  have ay:Hid (∀ j e,j<i+1->rs[j]?=some e->e.long6=false):=Zd (λj e' hj he'=>by
    rcases Qh j i with h'|h';exact aw.out j e' h' he';obtain rfl:j=i:=Gk;rw[he]at he';cases he';unfold RX.long6;simpa using hx)
  exact CZ
theorem Zvz(A:Option Addr)(n c:Nat)(rs:List RX)(w:World)(h:MXL w A n c rs)(b:Bool)(hb:rs.any RX.long6=b) :
    Calls Tryz.prog 105 #[.slice A n c,.func (.func 104) #[] #[]] w λe w'=>e=.returned (.bool b)/\Below w.heap.size w w':=by
 go_in;go_wp2_with fail;refine(Zyw A n c rs w h b hb).mono ?_;exact EY
def covV(rs:List RX):Prop:=long6 rs=false/\rs.length≠0/\rs.all (Zdb rs.length)=true
def FacC(rs:List RX):Prop:=covV rs->Zhf (qM rs)=true->FacP (Zj (qM rs)) rs.length
section
variable{w:World}{A:Option Addr}{n c:Nat}{rs:List RX}
theorem covV.facts(h:covV rs):0<rs.length/\rs.length<=6/\∀ r ∈ rs,r.n=rs.length/\Zc2 r.es=true:=by
 obtain⟨h1,h2,h3⟩:=h;unfold long6 at h1;rw[Qv]at h1;have h6:=of_decide_eq_false h1.1;refine⟨by omega,by omega,λr hr=>?_⟩;exact Ia
theorem Zhp(h:Za9 rs=0):covV rs/\Zhf (qM rs)=true/\posP (Zj (qM rs)) rs.length:=by
 obtain⟨h1,h2,h3,h4,h5⟩:=Zjr h;refine⟨⟨?_,by omega,?_⟩,h4,h5⟩
 ·cases hl:long6 rs with
  | false=>rfl
  | true=>rw[Zfz hl]at h;cases h
 rw[Qn];intro r hr;unfold Zdb;rw[Qi,decide_eq_true_eq];exact h3 r hr
theorem covV.E(h:covV rs):Za9 rs=if (Zhf (qM rs) && posB (Zj (qM rs)) rs.length)=true then 0 else 8:=by
 obtain⟨h1,h2,h3⟩:=h;unfold Za9;rw[Gw (by rw[h1];decide),Gw h2,Gx h3]
theorem covV.asym(h:covV rs)(hs:Zhf (qM rs)=false):Za9 rs=8:=by rw[h.E,hs];rfl
theorem covV.pos(h:covV rs)(hs:Zhf (qM rs)=true)(hp:posP (Zj (qM rs)) rs.length):Za9 rs=0:=by
 rw[h.E,hs,posB_iff.2 hp];rfl
theorem covV.neg(h:covV rs)(hs:Zhf (qM rs)=true)(hp:¬ posP (Zj (qM rs)) rs.length):Za9 rs=8:=by
 have:posB (Zj (qM rs)) rs.length=false:=by
  cases hb:posB (Zj (qM rs)) rs.length with
  | false=>rfl
  | true=>exact absurd (posB_iff.1 hb) hp
 rw[h.E,hs,this];rfl
theorem covV.good(hV:covV rs)(h:MXL w A n c rs):MFL w A n c (qM rs):=h.mfl λr hr=>Zn9 (hV.facts.2.2 r hr).2
theorem covV.row(hV:covV rs)(h:MXL w A n c rs)(i:Nat)(hi:i<n):((qM rs)[i]?.getD []).length=n:=by
 unfold qM;rw[Qm,Ql (by rw[h.1];exact hi)];simp only[Qp,Qo,Qj];have hr:rs[i]'(by rw[h.1];exact hi) ∈ rs:=Qz _;have h4:=(h.2.2.2.1 _ hr).1;rw[h4,(hV.facts.2.2 _ hr).1,h.1]
theorem covV.small(hV:covV rs)(h:MXL w A n c rs){k:Nat}(hf:Zkm k rs):SmE k (qM rs):=λi j=>by
 unfold Zj qM;rw[Qm];cases hr:rs[i]? with
 | none=>exact⟨Qu _,Zby _⟩
 | some r =>
  simp only[Qp,Qo,Qm];cases he:r.es[j]? with
  | none=>exact⟨Qu _,Zby _⟩
  | some e =>
   simp only[Qp,Qo];have o:=Qe hr;have f:=Qe he;have h5:=(hV.facts.2.2 r o).2;unfold Zc2 at h5;rw[Qn]at h5;have h6:=h5 e f;unfold FX.fine64 at h6;rw[Qi,decide_eq_true_eq]at h6;refine Zr1 ((h.2.2.2.1 r o).2.2.2.1 e f) h6.2 ?_;rcases hf r o e f with h7|h7 <;> omega
theorem covV.small64(hV:covV rs)(h:MXL w A n c rs):SmE 64 (qM rs):=hV.small h (λr _ e _=>Qh 64 e.few |>.symm)
theorem SmE.smC{k:Nat}{Q:List (List Rat)}(h:SmE k Q)(hk:k<1000)(i j:Nat):Sm (Zj Q i j):=
 ⟨Qy (h i j).1 (Zdm hk),Qy (h i j).2 (Zdm hk)⟩
theorem covV.fac(hV:covV rs)(h:MXL w A n c rs)(hs:Zhf (qM rs)=true){k:Nat}(hf:Zkm k rs)(hb:(k*n+k+1)*n+((k*n+k+1)*n+k*n)+2<=300):FacP (Zj (qM rs)) n:=by
 have h6:=hV.facts.2.1;have hl:(qM rs).length=n:=Zvw h;have hn:rs.length=n:=h.1;exact FacP.of (hV.small h hf) hl Gk (λi hi=>hV.row h i hi) (λi k hi hk=>symB_iff.1 hs i k Gk Gk) hb
theorem FacC.of(h:MXL w A n c rs){k:Nat}(hf:Zkm k rs)(hb:n<=6->(k*n+k+1)*n+((k*n+k+1)*n+k*n)+2<=300):FacC rs:=λhV hs=>by
 have hn:rs.length=n:=h.1;rw[hn];exact hV.fac h hs hf (hb (by have:=hV.facts.2.1;omega))
theorem MFL.atS{w:World}{g o n c:Nat}{Q:List (List Rat)}(h:MFL w (some ⟨g,o,none⟩) n c Q){k:Nat}(hk:k<n):∃ A' n' c',w.cell? ⟨g,o+k,none⟩=some (.slice A' n' c')/\FL w A' n' c' (Q[k]?.getD []):=by
 obtain⟨g',o',A',n',c',e,h1,h2⟩:=h.at_ hk;cases e;exact⟨_,_,_,h1,h2⟩
theorem cmpQ_zero{a b:Rat}:Zou a b=0 ↔ a=b:=by
 unfold Zou;constructor
 ·intro h
  split at h
  cases h
  split at h
  cases h;rename_i h1 h2;exact Rat.le_antisymm (Rat.not_lt.1 h2) (Rat.not_lt.1 h1)
 intro h;subst h;rw[Gw Rat.lt_irrefl,Gw Rat.lt_irrefl]
end
theorem fCmp_ok(na nb na' nb':Bool)(A B A' B':Option Addr)(n c m d n' c' m' d':Nat)(a b:Rat)(w:World)(ha:Fr w na A n c nb B m d a)(hb:Fr w na' A' n' c' nb' B' m' d' b)(sa:Sm a)(sb:Sm b) :
    Calls Tryz.prog 106 #[.agg #[.bool na,.slice A n c,.bool nb,.slice B m d],.agg #[.bool na',.slice A' n' c',.bool nb',.slice B' m' d']] w λe w'=>e=.returned (.tuple #[.int .i64 (Zou a b),.int .i64 0])/\Below w.heap.size w w':=by
 rw[<- Zsr];obtain⟨R,hR⟩:=Gz (Zco (a.num*b.den) (b.num*a.den));rw[hR];replace hR:=Zd hR;have hmx:=Gt;have h1:=Zd (Zbm sa.1 sb.dn);have h2:=Zd (Zbm sb.1 sa.dn);obtain⟨W0,Y,J,⟨q0,q1,q2⟩,s0⟩:=Zb2 w 41 #[.bool na,.slice A n c,.bool nb,.slice B m d] 41 #[.bool na',.slice A' n' c',.bool nb',.slice B' m' d'] 26 #[.int .i64 0];have hA:=Zd (ha.below J);have hD:=Zd (hb.below J);clear ha hb sa sb;obtain⟨a0,a1,a2,a3,-⟩:=q0.four;have hq:=Zd (Qg q0 (Qg q1 q2));clear q0 q1 q2
 go_enter_defers Tryz.func106,Tryz.ntmps106
 go_wp2_with fail;refine(Zek na nb A B n c m d a W0 hA.out).mono ?_;rintro e w1 ⟨rfl,I⟩;have O:Below w.heap.size w w1:=Gs J I;have s1:W0.heap.size<=w1.heap.size:=I.size;replace hA:=Zd (hA.out.below I);replace hD:=Zd (hD.out.below I);obtain⟨q0,q1,q2⟩:=hq.out;replace q0:=Ze I q0;replace q1:=Ze I q1;replace q2:=Ze I q2;clear Y hq I J a0 a1 a2 a3;obtain⟨b0,b1,b2,b3,-⟩:=q1.four;have hq:=Zd (Qg q0 (Qg q1 q2));clear q0 q1 q2;go_wp2_with fail;refine(Zfj w1).mono ?_;rintro e w1 ⟨rfl,rfl⟩;go_wp2_with fail;refine(Zek na' nb' A' B' n' c' m' d' b w1 hD.out).mono ?_;rintro e w2 ⟨rfl,C⟩;have hB:=Zd (Gs O C);have sz:=Zd hB.out.size;have s2:w1.heap.size<=w2.heap.size:=C.size;replace hA:=Zd (hA.out.below C);replace hD:=Zd (hD.out.below C);obtain⟨q0,q1,q2⟩:=hq.out;replace q0:=Zd (Ze C q0);replace q1:=Zd (Ze C q1);replace q2:=Zd (Ze C q2);clear hq C O b0 b1 b2 b3;go_wp2_with fail;refine(Zfj w2).mono ?_;rintro e w2 ⟨rfl,rfl⟩;obtain⟨a0,a1,a2,a3,-⟩:=q0.out.four;obtain⟨b0,b1,b2,b3,-⟩:=q1.out.four;go_wp2_with fail
 refine Zz [10] (λW'=>W'.cell? ⟨w.heap.size,0,none⟩=some (.bool na)/\W'.cell? ⟨w.heap.size,1,none⟩=some (.slice A n c)/\W'.cell? ⟨w.heap.size,2,none⟩=some (.bool nb)/\W'.cell? ⟨w.heap.size,3,none⟩=some (.slice B m d)/\W'.cell? ⟨w.heap.size+1,0,none⟩=some (.bool na')/\W'.cell? ⟨w.heap.size+1,1,none⟩=some (.slice A' n' c')/\W'.cell? ⟨w.heap.size+1,2,none⟩=some (.bool nb')/\W'.cell? ⟨w.heap.size+1,3,none⟩=some (.slice B' m' d')) hmx ⟨a0,a1,a2,a3,b0,b1,b2,b3⟩ (λ_=>?_);refine Zkb 4 [0,1,3,4] rfl Gi ⟨a0,a1,a2,a3,b0,b1,b2,b3⟩ ?_
 iterate 4 (refine tkA ?_;try simp only[Qa,Zg9,Zgn,Zg3,Gr,Gq,Gp])
 refine tk0 ?_;refine wpAnyL_o 2 λK hK=>?_;go_simp;refine(Zfe na nb na' nb' A B A' B' n c m d n' c' m' d' a b w2.drew hA.out hD.out h1.out).mono ?_;rintro e w3 ⟨h,nu,U,k1,u,rfl,hU⟩;replace h:=Zv h;replace hU:=Zd hU;replace q0:=Gm h q0;replace q1:=Gm h q1;replace q2:=Gm h q2;replace hA:=Zd (hA.out.below h);replace hD:=Zd (hD.out.below h);replace hB:=Zd (hB.out.trans (h.mono sz.out));replace sz:=Zd (Qd sz.out h.size);clear a0 a1 a2 a3 b0 b1 b2 b3;obtain⟨a0,a1,a2,a3,-⟩:=q0.out.four;obtain⟨b0,b1,b2,b3,-⟩:=q1.out.four;clear h;refine hK.out _ _ (λ_=>⟨a0,a1,a2,a3,b0,b1,b2,b3⟩) ?_;clear hK K
 try simp only[Qa,Zg9,Zgn,Zg3]
 refine wpAnyL_o 5 λK hK=>?_;go_simp;refine(Zfe na' nb' na nb A' B' A B n' c' m' d' n c m d b a w3 hD.out hA.out h2.out).mono ?_;rintro e w4 ⟨o,nv,V,k2,v,rfl,hV⟩;replace hU:=Zd (hU.out.below o);replace hV:=Zd hV;replace q0:=Gm o q0;replace q1:=Gm o q1;replace q2:=Gm o q2;replace hA:=Zd (hA.out.below o);replace hD:=Zd (hD.out.below o);replace hB:=Zd (hB.out.trans (o.mono sz.out));replace sz:=Zd (Qd sz.out o.size);clear a0 a1 a2 a3 b0 b1 b2 b3;obtain⟨a0,a1,a2,a3,-⟩:=q0.out.four;obtain⟨b0,b1,b2,b3,-⟩:=q1.out.four;clear o;refine hK.out _ _ (λ_=>⟨a0,a1,a2,a3,b0,b1,b2,b3⟩) ?_;clear hK K
 try simp only[Qa,Zg9,Zgn,Zg3]
 refine wpAnyL_o 6 λK hK=>?_;go_simp;refine(Zre nu nv U V k1 u k2 v _ _ w4 hU.out hV.out).mono ?_;rw[hR.out];rintro e w5 ⟨rfl,y⟩;replace q0:=Gm y q0;replace q1:=Gm y q1;replace q2:=Gm y q2;replace hA:=Zd (hA.out.below y);replace hD:=Zd (hD.out.below y);replace hB:=Zd (hB.out.trans (y.mono sz.out));replace sz:=Zd (Qd sz.out y.size);clear a0 a1 a2 a3 b0 b1 b2 b3;obtain⟨a0,a1,a2,a3,-⟩:=q0.out.four;obtain⟨b0,b1,b2,b3,-⟩:=q1.out.four;clear y;have x0:=q2.out.cell 0;have f0:=q2.out.frozen 0;simp at x0;refine hK.out _ _ (λ_=>⟨a0,a1,a2,a3,b0,b1,b2,b3⟩) ?_;clear hK K
 try simp only[Qa,Zg9,Zgn,Zg3]
 refine Zkb 3 [7,8,9] rfl Gi ⟨a0,a1,a2,a3,b0,b1,b2,b3⟩ ?_
 iterate 3 (refine tkA ?_;try simp only[Qa,Zg9,Zgn,Zg3,Gr,Gq,Gp])
 refine tk0 ?_;refine Zy (i:=10) rfl Gi Gi (λK hK=>?_);go_simp;obtain⟨W6,T,a5,a4,kW,kB,s6⟩:=Zak 0 hB.out Gk q2.out;rw[T];refine hK.out _ _ ?_;clear hK K
 try simp only[Qa,Zg9,Zgn,Zg3]
 refine wpAnyL_fin ?_;have r4:=a4.cell 0;simp at r4;go_wp2_with fail;refine leaves_cons (f:=147) (args:=#[.pointer (some ⟨w.heap.size+1+1,0,none⟩)]) Gh Gd ?_;refine(Zg8 _ _).mono ?_;rintro e u' w'' ⟨rfl,rfl,rfl⟩;refine⟨.tuple #[.int .i64 R,.int .i64 0],by simp[results,Tryz.results106,go_sem,r4],rfl,a5⟩
def LookPost(rs:List RX)(w:World)(e:Ending)(w':World):Prop:=
 Below w.heap.size w w'/\((Za9 rs=0/\∃ v1 v2 L,e=.returned (.agg #[v1,v2])/\FacM 97 73 w' w.heap.size v1 v2 L (Zhb (Zj (qM rs)) rs.length) (dsL (Zj (qM rs)) rs.length)) \/
  (Za9 rs≠0/\e=.panicked [{ v:=.iface 117 (.agg #[.int .i64 (Za9 rs)]),recovered:=false }]))
theorem LookPost.fall{rs:List RX}{w w':World}{E:Int}(hb:Below w.heap.size w w')(h:Za9 rs=E)(h0:E≠0):LookPost rs w (.panicked [{ v:=.iface 117 (.agg #[.int .i64 E]),recovered:=false }]) w':=by
 subst h;exact⟨hb,.inr ⟨h0,rfl⟩⟩
theorem IU{G:Prop}(h:G:=by
 go_wp2_with fail
 go_roundg (j-(k+1))
 case measure=>omega
 case rel=>exact⟨k+1,by omega,by go_num,eJ,aJ.out⟩):G:=h
theorem Ih{G:Prop}(h:G:=by
 rintro e w6 ⟨rfl,rfl⟩;go_wp2_with fail;exact⟨rfl,LookPost.fall (Gs aq ab) hE.out Gj⟩):G:=h
theorem Ip{G:Prop}(h:G:=by
 go_wp2_with fail
 go_roundg (n-(i+1))
 case measure=>omega
 case rel=>exact⟨i+1,by omega,by go_num,ay,Gs bX aa⟩):G:=h
theorem Zim(A:Option Addr)(n c:Nat)(rs:List RX)(w:World)(h:MXL w A n c rs)(hF:FacC rs) :
    Calls Tryz.prog 64 #[.slice A n c] w (LookPost rs w):=by
 have hmx:=Gt;have hl:=Zd h.1;have e6:=h.2.1;have d3:=h.2.2.1;unfold maxLen at d3;obtain⟨W0,a1,aq,q0,s0⟩:=Zao w 99 #[.slice none 0 0,.slice none 0 0];obtain⟨gx,Y⟩:=Gz w.heap.size;by_cases h6:6<n
 ·have t1:decide ((n:Int)<=6)=false:=Gu Gk
  have hE:Hid (Za9 rs=4):=Zd (Zfz (by unfold long6;rw[hl.out,Gv h6];rfl));clear h;go_in;go_wp2_with fail;(try rw[a1]);refine(Zax 4 W0).mono ?_;rintro e w6 ⟨rfl,rfl⟩;go_wp2_with fail;exact⟨rfl,LookPost.fall aq hE.out Gj⟩
 have t1:decide ((n:Int)<=6)=true:=Gv Gk;obtain⟨x,hx⟩:=Gz (rs.any RX.long6);have T:long6 rs=x:=by unfold long6;rw[hl.out,Gu h6,hx];rfl
 have hC:=Zd (λW1 (hb:Below w.heap.size w W1)=>Zvz A n c rs W1 (h.below hb) x hx);replace hx:=Zd hx;replace T:=Zd T;cases x
 case true =>
  have hE:Hid (Za9 rs=4):=Zd (Zfz T.out);clear h;go_in;go_wp2_with fail;(try rw[a1]);refine(hC.out _ aq).mono ?_;rintro e w1 ⟨rfl,ab⟩;go_wp2_with fail;refine(Zax 4 w1).mono ?_;exact Ih
 by_cases a0:n=0
 ·subst a0
  have hE:Hid (Za9 rs=8):=Zd (Zr2 T.out hl.out);clear h;go_in;go_wp2_with fail;(try rw[a1]);refine(hC.out _ aq).mono ?_;rintro e w1 ⟨rfl,ab⟩;go_wp2_with fail;refine(Zb4 4 w1).mono ?_;rintro e w1 ⟨rfl,rfl⟩;go_wp2_with fail;refine(Zax 8 w1).mono ?_;exact Ih
 have t2:decide ((0:Int)<(n:Int))=true:=Gv Gk;have e1:decide (0<n)=true:=Gv Gk;have hH:=Zd h;have b7:=Zd q0;replace a0:=Zd a0;clear h q0;go_in;go_wp2_with fail;(try rw[a1]);refine(hC.out _ aq).mono ?_;rintro e w1 ⟨rfl,ab⟩;have b5:=Gs aq ab;have b9:=Gm ab b7;clear b7 hC ab aq a1 s0;go_wp2_with fail;refine(Zb4 4 w1).mono ?_;rintro e w1 ⟨rfl,rfl⟩;go_wp2_with fail;refine(Zb4 8 w1).mono ?_;rintro e w1 ⟨rfl,rfl⟩;go_wp2_with fail
 go_loopg [27] n (λt iv wr=>∃ i:Nat,i+t=n/\iv=.int .i64 i/\Hid (∀ j r,j<i->rs[j]?=some r->Zdb rs.length r=true)/\Below w1.heap.size w1 wr)
 case atStart=>exact⟨0,by omega,rfl,Zd (λj r hj=>by omega),Qb _ _⟩
 case round =>
  obtain⟨wi,rfl⟩:=Gy wr;obtain⟨i,e7,rfl,b0,bX⟩:=hrel;have O:=Gs b5 bX;cases gk with
  | succ t =>
   obtain rfl:t=n-(i+1):=Gk;have d7:i<n:=Gk;have t3:decide ((i:Int)<(n:Int))=true:=Gv Gk;have bi:(i:Int)<(n:Int):=Gk;obtain⟨g,o,r,rfl,he,c0,hL⟩:=(hH.out.below O).at_ d7;have c9:=hL.nlenC;unfold maxLen at c9;have bad:Hid (Zdb rs.length r=false->Za9 rs=8):=Zd (λhf=>Zrm T.out (by rw[hl.out];exact a0.out) (Qe he) hf)
   have good:Hid (Zdb rs.length r=true->∀ j r',j<i+1->rs[j]?=some r'->Zdb rs.length r'=true):=Zd (λhf j r' hj he'=>by
    rcases Qh j i with h'|h';exact b0.out j r' h' he';obtain rfl:j=i:=Gk;rw[he]at he';cases he';exact hf)
   replace he:=Zd he;by_cases hq:r.n=n
   case neg =>
    have t4:((r.n:Int) == (n:Int))=false:=beq_eq_false_iff_ne.2 Gk;have d5:decide (r.n=n)=false:=by simpa using hq
    have hE:Hid (Za9 rs=8):=Zd (bad.out (by unfold Zdb;rw[hl.out,Gu hq];rfl));replace hq:=Zd hq;clear hL;go_wp2_with fail;refine(Zax 8 wi).mono ?_;rintro e w6 ⟨rfl,rfl⟩;go_wp2_with fail;exact⟨rfl,LookPost.fall O hE.out Gj⟩
   have t4:((r.n:Int) == (n:Int))=true:=beq_iff_eq.2 Gk;have d5:decide (r.n=n)=true:=by simpa using hq
   obtain⟨y,hy⟩:=Gz (Zc2 r.es);have hV:=Zd (λW1 (hb:Below wi.heap.size wi W1)=>Zlo r.A r.n r.c r.es W1 (hL.below hb) y hy);have d6:=Zd hq;replace hq:=Zd hq;clear hL;cases y
   ·have hE:Hid (Za9 rs=8):=Zd (bad.out (by unfold Zdb;rw[hy];simp))
    clear hy;go_wp2_with fail;refine(hV.out _ (by first|exact Qb _ _|exact Zh (Qb _ _) _)).mono ?_;rintro e' w2 ⟨rfl,aa⟩;go_wp2_with fail;refine(Zax 8 w2).mono ?_;rintro e w6 ⟨rfl,rfl⟩;go_wp2_with fail;exact⟨rfl,LookPost.fall (Gs O aa) hE.out Gj⟩
   have ay:=Zd (good.out (by unfold Zdb;rw[hy,hl.out,d6.out,Gv rfl];rfl));clear hy;go_wp2_with fail;refine(hV.out _ (by first|exact Qb _ _|exact Zh (Qb _ _) _)).mono ?_;rintro e' w2 ⟨rfl,aa⟩;go_wp2_with fail;refine(Zb4 8 w2).mono ?_;rintro e w2 ⟨rfl,rfl⟩;exact Ip
  | zero =>
   obtain rfl:i=n:=Gk;have t3:decide ((i:Int)<(i:Int))=false:=Gh
   have hV:Hid (covV rs):=Zd ⟨T.out,by rw[hl.out];exact a0.out,by
    rw[Qn];intro r hr;obtain⟨j,hj,e⟩:=List.getElem_of_mem hr;exact b0.out j r (by rw[hl.out]at hj;exact hj) (by rw[Ql hj,e])⟩
   have c4:=Gm bX b9;have hM:=Zd (hV.out.good (hH.out.below O));have c3:Hid (∀ a b,Sm (Zj (qM rs) a b)):=Zd (λa b=>(hV.out.small64 hH.out).smC Gj a b);have a2:Hid (∀ a,a<i->((qM rs)[a]?.getD []).length=i):=Zd (λa ha=>hV.out.row hH.out a ha);clear b9;go_wp2_with fail
   go_loopg [44] i (λt jv wr=>∃ j:Nat,j+t=i/\jv=.int .i64 j/\Hid (∀ a b,a<j->b<a->Zj (qM rs) a b=Zj (qM rs) b a)/\Below wi.heap.size wi wr)
   case atStart=>exact⟨0,by omega,rfl,Zd (λa b ha=>by omega),Qb _ _⟩
   case round =>
    obtain⟨wj,rfl⟩:=Gy wr;obtain⟨j,e5,rfl,b6,u⟩:=hrel;have f:=Gs O u;cases gk with
    | zero =>
     obtain rfl:j=i:=Gk;have t4:decide ((j:Int)<(j:Int))=false:=Gh
     have hs:Hid (Zhf (qM rs)=true):=Zd (by
      unfold Zhf;rw[decide_eq_true_eq];intro a ha b hb;rw[show (qM rs).length=j by unfold qM;rw[Qj,hl.out]]at ha;exact b6.out a b ha hb)
     have d4:Hid (FacP (Zj (qM rs)) j):=Zd (by have:=hF hV.out hs.out;rw[hl.out]at this;exact this);go_wp2_with fail;refine(Zuh A j c (qM rs) wj (hM.out.below u) Gk a2.out d4.out).mono ?_;rintro e w5 ⟨U,⟨hp,v1,v2,L,rfl,a3⟩|⟨hn,rfl⟩⟩
     ·have I:=Ze (Gs u U) c4.out
      rw[Y]at I;obtain⟨A1,c1,rfl,-⟩:=a3.1.mflA;obtain⟨A2,c2,rfl,-⟩:=a3.2.1.fl;rw[Zf0,Zj0]at a3 ⊢;have y0:w5.cell? ⟨gx,0,none⟩=some (.slice none 0 0):=by rw[I.cell];rfl
      have y1:w5.cell? ⟨gx,1,none⟩=some (.slice none 0 0):=by rw[I.cell];rfl
      have z0:=I.frozen 0;have z1:=I.frozen 1;obtain⟨X,hX⟩:∃ X,(w5.setCell ⟨gx,0,none⟩ (.slice A1 j c1)).setCell ⟨gx,1,none⟩ (.slice A2 j c2)=X:=⟨_,rfl⟩;have b3:Kept (λk=>k=gx) w5 X:=by rw[<- hX];exact Kept.set_ (G:=λk=>k=gx) (Kept.set_ (G:=λk=>k=gx) (Qq _ _) (p:=⟨gx,0,none⟩) (.inl rfl) _) (p:=⟨gx,1,none⟩) (.inl rfl) _
      have b2:Blk X gx 99 #[.slice A1 j c1,.slice A2 j c2]:=by rw[<- hX];exact(I.set_ 0 (.slice A1 j c1)).set_ 1 (.slice A2 j c2)
      have x0:X.cell? ⟨gx,0,none⟩=some (.slice A1 j c1):=by rw[b2.cell];rfl
      have x1:X.cell? ⟨gx,1,none⟩=some (.slice A2 j c2):=by rw[b2.cell];rfl
      have c6:gx<wj.heap.size:=by have:=c4.out.lt;rw[Y]at this;have:=u.size;omega
      have d9:=Zd (a3.box I (Zlb _ _ _ _ _ _) c6 b3);have d8:Hid (Za9 rs=0):=Zd (hV.out.pos hs.out (by rw[hl.out];exact hp));have aJ:Hid (Below w.heap.size w w5):=Zd (Gs f U);have d0:Hid (Below w.heap.size w X):=Zd (aJ.out.trans (b3.to_below (λk e=>by omega) (by have:=aJ.out.size;exact this)));have c7:Hid (w.heap.size<=wj.heap.size):=Zd f.size;clear a3 b3 b2 I hp;(try rw[Y]);go_wp2_with fail;(try rw[Y]);(try rw[hX]);refine bodyPost_ret (v:=.agg #[.slice A1 j c1,.slice A2 j c2]) (by simp[results,Tryz.results64,go_sem,x0,x1,Y]) rfl ?_;refine⟨d0.out,.inl ⟨d8.out,_,_,L,rfl,?_⟩⟩;rw[hl.out];exact d9.out.lower c7.out
     have hE:Hid (Za9 rs=8):=Zd (hV.out.neg hs.out (by rw[hl.out];exact hn));go_wp2_with fail;exact⟨rfl,LookPost.fall (Gs f U) hE.out Gj⟩
    | succ t =>
     obtain rfl:t=i-(j+1):=Gk;have a8:j<i:=Gk;have t4:decide ((j:Int)<(i:Int))=true:=Gv Gk;have bj:(j:Int)<(i:Int):=Gk;obtain⟨g,o,A',n',c',rfl,c0,hR⟩:=(hM.out.below u).at_ a8;have c8:i=n':=by rw[<- hR.len];exact(a2.out j a8).symm
     subst c8;have b1:=hR.cap;unfold maxLen at b1;replace hR:=Zd hR;go_wp2_with fail
     go_loopg [50] j (λt kv wr=>∃ k:Nat,k+t=j/\kv=.int .i64 k/\Hid (∀ b,b<k->Zj (qM rs) j b=Zj (qM rs) b j)/\Below wj.heap.size wj wr)
     case atStart=>exact⟨0,by omega,rfl,Zd (λb hb=>by omega),Qb _ _⟩
     case round =>
      obtain⟨wk,rfl⟩:=Gy wr;obtain⟨k,e2,rfl,b4,V⟩:=hrel;cases gk with
      | zero =>
       obtain rfl:k=j:=Gk;have t5:decide ((k:Int)<(k:Int))=false:=Gh
       have c5:Hid (∀ a b,a<k+1->b<a->Zj (qM rs) a b=Zj (qM rs) b a):=Zd (λa b ha hb=>by
        rcases Qh a k with h'|h';exact b6.out a b h' hb;obtain rfl:a=k:=Gk;exact b4.out b hb)
       go_wp2_with fail
       go_roundg (i-(k+1))
       case measure=>omega
       case rel=>exact⟨k+1,by omega,by go_num,c5,Gs u V⟩
      | succ t' =>
       obtain rfl:t'=j-(k+1):=Gk;have e4:k<j:=Gk;have t5:decide ((k:Int)<(j:Int))=true:=Gv Gk;have bk:(k:Int)<(j:Int):=Gk;have bki:(k:Int)<(i:Int):=Gk;have b8:=Gs u V;obtain⟨ga,oa,xn,xA,xk,xc,xm,xB,xj,xd,rfl,⟨r0,r1,r2,r3⟩,hX⟩:=(hR.out.below V).at_ (show k<i by omega);obtain⟨A2,n2,c2,ck,a6⟩:=(hM.out.below b8).atS (show k<i by omega);have e0:i=n2:=by rw[<- a6.len];exact(a2.out k Gk).symm
       subst e0;have a5:=a6.cap;unfold maxLen at a5;obtain⟨gb,ob,yn,yA,yk,yc,ym,yB,yj,yd,rfl,⟨s0,s1,s2,s3⟩,hY⟩:=a6.at_ a8;have eX:((qM rs)[j]?.getD [])[k]?.getD 0=Zj (qM rs) j k:=rfl;have eY:((qM rs)[k]?.getD [])[j]?.getD 0=Zj (qM rs) k j:=rfl;rw[eX]at hX;rw[eY]at hY;replace hX:=Zd hX;replace hY:=Zd hY;clear eX eY a6;go_wp2_with fail;obtain⟨X0,a9⟩:=Gz wk.drew;have J:Below wk.heap.size wk X0:=by rw[<- a9];exact Zh (Qb _ _) 1
       have C:Hid (∀ wx,Below wk.heap.size wk wx->wx.cell? ⟨ga,oa+k*4,none⟩=some (.bool xn)/\wx.cell? ⟨ga,oa+k*4+1,none⟩=some (.slice xA xk xc)/\wx.cell? ⟨ga,oa+k*4+2,none⟩=some (.bool xm)/\wx.cell? ⟨ga,oa+k*4+3,none⟩=some (.slice xB xj xd)/\wx.cell? ⟨g,o+k,none⟩=some (.slice (some ⟨gb,ob,none⟩) i c2)/\wx.cell? ⟨gb,ob+j*4,none⟩=some (.bool yn)/\wx.cell? ⟨gb,ob+j*4+1,none⟩=some (.slice yA yk yc)/\wx.cell? ⟨gb,ob+j*4+2,none⟩=some (.bool ym)/\wx.cell? ⟨gb,ob+j*4+3,none⟩=some (.slice yB yj yd)):=Zd (λwx hbx=>⟨Zc hbx r0,Zc hbx r1,Zc hbx r2,Zc hbx r3,Zc hbx ck,Zc hbx s0,Zc hbx s1,Zc hbx s2,Zc hbx s3⟩);refine wp_heldS [] hmx C (by rw[a9];exact J) (λhxs=>?_);rw[a9];refine Zkb 11 [0,1,2,3,4,5,6,7,8,9,10] rfl Gi (C.out _ J) ?_
       iterate 11 (refine tkA ?_;try simp only[Qa,Zg9,Zgn,Zg3,Gr,Gq,Gp])
       refine tk0 ?_;refine wpAnyL_o 11 λK hK=>?_;go_simp;refine(fCmp_ok xn xm yn ym xA xB yA yB xk xc xj xd yk yc yj yd _ _ X0 (hX.out.below J) (hY.out.below J) (c3.out _ _) (c3.out _ _)).mono ?_;rintro e w5 ⟨rfl,U⟩;have a7:=Gs J U;refine hK.out _ _ (λ_=>C.out _ a7) ?_;clear hK K
       try simp only[Qa,Zg9,Zgn,Zg3]
       refine Zgo 5 [12,13,14,15,16] rfl Gi (C.out _ a7) ?_
       iterate 5 (refine tkA ?_;try simp only[Qa,Zg9,Zgn,Zg3,Gr,Gq,Gp])
       refine tk0 ?_;refine wpAnyL_fin ?_;have aJ:Hid (Below wj.heap.size wj w5):=Zd (Gs V a7);clear C hxs J a7 U a9 r0 r1 r2 r3 s0 s1 s2 s3 ck hX hY;by_cases hq:Zj (qM rs) j k=Zj (qM rs) k j
       ·have hz:Zou (Zj (qM rs) j k) (Zj (qM rs) k j)=0:=cmpQ_zero.2 hq
        rw[hz]
        have eJ:Hid (∀ b,b<k+1->Zj (qM rs) j b=Zj (qM rs) b j):=Zd (λb hb=>by
         rcases Qh b k with h'|h';exact b4.out b h';obtain rfl:b=k:=Gk;exact hq)
        replace hq:=Zd hq;replace hz:=Zd hz;go_wp2_with fail;refine(Zb4 8 w5).mono ?_;rintro e w5 ⟨rfl,rfl⟩;exact IU
       obtain⟨z,hz⟩:=Gz (Zou (Zj (qM rs) j k) (Zj (qM rs) k j));have a4:z≠0:=λe=>hq (cmpQ_zero.1 (by rw[hz];exact e));rw[hz];have t6:(z == 0)=false:=by simpa using a4
       have e3:decide (z=0)=false:=by simpa using a4
       have hE:Hid (Za9 rs=8):=Zd (hV.out.asym (by
        cases hb:Zhf (qM rs)with
        | false=>rfl
        | true=>exact absurd (symB_iff.1 hb j k (by unfold qM;rw[Qj,hl.out];exact a8) (by unfold qM;rw[Qj,hl.out];omega)) hq))
       replace hq:=Zd hq;replace hz:=Zd hz;replace a4:=Zd a4;go_wp2_with fail;refine(Zax 8 w5).mono ?_;rintro e w6 ⟨rfl,rfl⟩;go_wp2_with fail;exact⟨rfl,LookPost.fall (Gs f aJ.out) hE.out Gj⟩
theorem Zu5(A:Option Addr)(n c:Nat)(rs:List RX)(w:World)(h:MXL w A n c rs)(hF:FacC rs)(E:Int)(hE:Za9 rs=E) :
    Calls Tryz.prog 35 #[.slice A n c] w λe w'=>e=.returned (.int .i64 E)/\Below w.heap.size w w':=by
 obtain⟨W0,I,o,q0,s0⟩:=Zao w 26 #[.int .i64 0];have hC:=Zd (Zim A n c rs W0 (h.below o) hF);replace q0:=Zd q0;clear h
 go_enter_defers Tryz.func35,Tryz.ntmps35
 go_wp2_with fail;(try rw[I]);refine hC.out.mono ?_;rintro e w1 ⟨y,⟨h0,v1,v2,L,rfl,O⟩|⟨h0,rfl⟩⟩
 ·have u:=Gs o y
  have q1:=Ze y q0.out;have e0:=q1.cell 0;have z0:=q1.frozen 0;simp at e0;obtain⟨U,hU,C,q3,-⟩:=Zak 0 u (Qc _) q1;have r4:=q3.cell 0;simp at r4;obtain rfl:E=0:=by rw[<- hE];exact h0
  clear O;go_wp2_with fail;(try rw[hU]);refine leaves_cons (f:=39) (args:=#[.pointer (some ⟨w.heap.size,0,none⟩)]) Gh Gd ?_;refine(Zeu _ _).mono ?_;rintro e u' w'' ⟨rfl,rfl,rfl⟩;exact⟨.int .i64 0,by simp[results,Tryz.results35,go_sem,r4],rfl,C⟩
 have u:=Gs o y;have q2:=Ze y q0.out;rw[hE];go_wp2_with fail;refine leaves_cons (f:=39) (args:=#[.pointer (some ⟨w.heap.size,0,none⟩)]) Gh Gd ?_;have e0:=q2.cell 0;simp at e0;refine(Za4 ⟨w.heap.size,0,none⟩ E 0 _ e0 (q2.frozen 0)).mono ?_;rintro e u' w'' ⟨rfl,rfl,hw⟩;obtain⟨V,hV,J,-,-,hk,sV⟩:=Zq 117 #[.int .i64 E] u (u.size);obtain⟨U,hU,C,q3,-⟩:=Zak E J (Qc _) (hk _ _ _ q2);rw[hV,hU]at hw;subst hw;have r4:=q3.cell 0;simp at r4;exact⟨.int .i64 E,by simp[results,Tryz.results35,go_sem,r4],rfl,C⟩
theorem Zx7(A:Option Addr)(n c:Nat)(rs:List RX)(w:World)(h:MXL w A n c rs)(hF:FacC rs) :
    Calls Tryz.prog 46 #[.slice A n c] w λe w'=>Below w.heap.size w w'/\((Za9 rs=0/\e=.returned (.slice A n c)) \/ (Za9 rs≠0/\e=.panicked [{ v:=.iface 117 (.agg #[.int .i64 16]),recovered:=false }])):=by
 obtain⟨E,hE⟩:=Gz (Za9 rs);have hC:=Zd (Zu5 A n c rs w h hF E hE);clear h hF;replace hE:=Zd hE;go_in;go_wp2_with fail;refine hC.out.mono ?_;rintro e w1 ⟨rfl,f⟩;by_cases h0:E=0
 ·subst h0
  go_wp2_with fail;refine(Zb4 16 w1).mono ?_;rintro e w1 ⟨rfl,rfl⟩;go_wp2_with fail;go_returns;exact⟨f,.inl ⟨hE.out,rfl⟩⟩
 have t1:(E == 0)=false:=by simpa using h0
 have o:decide (E=0)=false:=by simpa using h0
 replace h0:=Zd h0;go_wp2_with fail;refine(Zax 16 w1).mono ?_;rintro e w6 ⟨rfl,rfl⟩;go_wp2_with fail;exact⟨rfl,f,.inr ⟨by rw[hE.out];exact h0.out,rfl⟩⟩
section
variable{A:Nat->Nat->Rat}{n c:Nat}
def brd(A:Nat->Nat->Rat)(x:Nat->Rat)(n:Nat):Nat->Nat->Rat:=λi k=>if i<n then (if k<n then A i k else x i)else (if k<n then x k else 0)
theorem Z0p(x:Nat->Rat){t i k:Nat}(ht:t<=n)(hi:i<n)(hk:k<n):Zu (brd A x n) t i k=Zu A t i k:=Zcu (n:=n) (m:=n) (λi k hi hk=>by unfold brd;rw[Gx hi,Gx hk]) (Qc _) t i k ht hi hk
theorem brd_d(x:Nat->Rat){t:Nat}(ht:t<n):dQ (brd A x n) t=dQ A t:=Z0p x Gk ht ht
theorem brd_l(x:Nat->Rat){i t:Nat}(hi:i<n)(ht:t<n):lQ (brd A x n) i t=lQ A i t:=by unfold lQ;rw[brd_d x ht,Z0p x Gk hi ht]
theorem Z1n(hA:∀ i k,i<n->k<n->A i k=A k i)(x:Nat->Rat):∀ i k,i<n+1->k<n+1->brd A x n i k=brd A x n k i:=λi k hi hk=>by
 unfold brd;by_cases h1:i<n <;> by_cases h2:k<n;rw[Gx h1,Gx h2,Gx h2,Gx h1,hA i k h1 h2];rw[Gx h1,Gw h2,Gw h2,Gx h1];rw[Gw h1,Gx h2,Gx h2,Gw h1];rw[Gw h1,Gw h2,Gw h2,Gw h1]
theorem Zwz(hA:∀ i k,i<n->k<n->A i k=A k i)(x:Nat->Rat):∀ t,t<=n->Zu (brd A x n) t n n=- Za7 t (λs=>Zu (brd A x n) s s n*Zu (brd A x n) s s n/dQ (brd A x n) s)
 | 0,_=>by
  show brd A x n n n=-0;unfold brd;rw[Gw (Nat.lt_irrefl _),Gw (Nat.lt_irrefl _)]
  grind
 | t+1,ht=>by
  rw[Zfd Gk,Zwz hA x t Gk,Zfg (Z1n hA x) t n t Gk (Qc _) Gk Gk];show _=-(Za7 t _+Zu (brd A x n) t t n*Zu (brd A x n) t t n/dQ (brd A x n) t);unfold dQ;rw[Rat.div_def (Zu (brd A x n) t t n),Rat.div_def (Zu (brd A x n) t t n*Zu (brd A x n) t t n)]
  grind
end
def zV(A:Nat->Nat->Rat)(n:Nat)(x:Nat->Rat)(s:Nat):Rat:=Zu (brd A x n) s s n
def bil(A:Nat->Nat->Rat)(n:Nat)(x y:Nat->Rat):Rat:=Za7 n (λs=>zV A n x s*zV A n y s/dQ A s)
section
variable{A:Nat->Nat->Rat}{n:Nat}
theorem Zzv(x y:Nat->Rat):bil A n x y=bil A n y x:=by
 unfold bil;exact Zam λs _=>by rw[Rat.mul_comm]
theorem Zpk{x y z:Nat->Rat}(h:∀ i,i<n->x i=y i):bil A n x z=bil A n y z:=by
 unfold bil;refine Zam λs hs=>?_
 have h1:zV A n x s=zV A n y s:=by
  unfold zV
  exact Zcu (n:=n) (m:=n+1) (λi k hi hk=>by
   unfold brd;rw[Gx hi,Gx hi]
   split
   rfl;exact h i hi) Gk s s n Gk hs Gk
 rw[h1]
end
theorem Zaq{w:World}(t:TypeId)(cs:Array Value):∃ W,w.alloc (.cells cs t)=W/\Blk W w.heap.size t cs/\Below w.heap.size w W:=
 ⟨_,rfl,Qf _ _ _,(Qb _ _).alloc (Qc _) _⟩
