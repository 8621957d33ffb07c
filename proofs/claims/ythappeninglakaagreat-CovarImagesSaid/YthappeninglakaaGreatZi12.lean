/- Package covar: factor. Package frac: Cmp of small -/
import Derived.Deep.LoopGhost
import Derived.Test.YthappeninglakaaGreatZi11
set_option maxRecDepth 100000
set_option maxHeartbeats 16000000
set_option linter.unusedSimpArgs false
set_option linter.unusedVariables false
namespace Go.Proofs.YthappeninglakaaGreat
open Go.RowKit
open Act renaming put→Qa
open Below renaming refl→Qb
open Nat renaming le_refl→Qc,lt_or_ge→Qf,lt_trans→Qg,le_trans→Qh,lt_of_lt_of_le→Qi,lt_of_le_of_lt→Qm,lt_succ_self→Qn
open Blk renaming new→Qd
open List renaming length_map→Qe,getElem?_eq_getElem→Qj,mem_singleton→Ql,range_succ→Qp,take_of_length_le→Qr,getElem_of_mem→Qs,getElem?_map→Qt,all_eq_true→Qu,length_take→Qv,range→Qw
open Kept renaming refl→Qk
open Option renaming getD_some→Qo
open And renaming intro→Qq
attribute [local go_sem] Zg
theorem Zl8:(Tryz.prog.info? 73).map (λi=>(i.zero,i.size,i.bytes))=some (some (.agg #[.bool false,.slice none 0 0,.bool false,.slice none 0 0]),4,64):=by kernel_rfl
theorem Z3i:(Tryz.prog.info? 97).map (λi=>(i.zero,i.size,i.bytes))=some (some (.slice none 0 0),1,24):=by kernel_rfl
theorem Zev{w:World}{t:TypeId}{g:Nat}{A:Option Addr}{n c:Nat}(h:Blk w g t #[.slice A n c]):Reads w (g+1) 1 (some ⟨g,0,none⟩) 1 (Zaq [⟨A,n,c⟩]):=
 ⟨rfl,λ_=>⟨_,rfl,Qn _,λj u hu=>by
  rw[Zg,Nat.zero_add,h.cell];simpa [Zaq]using hu⟩⟩
def Zjr(A:Nat->Nat->Rat)(i k:Nat):List Rat:=(Qw k).map (lQ A i)
def Zhh(A:Nat->Nat->Rat)(i:Nat):List (List Rat):=(Qw i).map λr=>Zjr A r r
def dsL(A:Nat->Nat->Rat)(i:Nat):List Rat:=(Qw i).map (dQ A)
section
variable{A:Nat->Nat->Rat}{i j k:Nat}
theorem Zgb:(Zjr A i k).length=k:=by simp[Zjr]
theorem Zf3:(Zhh A i).length=i:=by simp[Zhh]
theorem Zj3:(dsL A i).length=i:=by simp[dsL]
theorem Zmd(h:j<k):(Zjr A i k)[j]?.getD 0=lQ A i j:=by simp[Zjr,h]
theorem Znb(h:j<i):(Zhh A i)[j]?.getD []=Zjr A j j:=by simp[Zhh,h]
theorem Zq6(h:j<i):(dsL A i)[j]?.getD 0=dQ A j:=by simp[dsL,h]
theorem Zz9:Zjr A i (k+1)=Zjr A i k ++ [lQ A i k]:=by simp[Zjr,Qp]
theorem Znp:Zhh A (i+1)=Zhh A i ++ [Zjr A i i]:=by simp[Zhh,Qp]
theorem Z29:dsL A (i+1)=dsL A i ++ [dQ A i]:=by simp[dsL,Qp]
end
theorem cmpZ_pos0{z:Int}:(0<Zdb z 0) ↔ 0<z:=by
 unfold Zdb
 split
 ·constructor <;> intro h <;> omega
 split
 ·constructor <;> intro h <;> omega
 constructor <;> intro h <;> omega
theorem num_pos0{q:Rat}:0<q.num ↔ 0<q:=by
 constructor
 ·intro h
  refine Rat.lt_of_le_of_ne (Rat.num_nonneg.1 Gk) (λe=>?_);rw[<- e]at h;exact absurd h Gj
 intro h;have h5:=Rat.num_nonneg.2 (Rat.le_of_lt h);rcases Int.lt_or_eq_of_le h5 with h6|h6;exact h6;rw[Rat.num_eq_zero.1 h6.symm]at h;exact absurd h Gj
def FacPost(A:Nat->Nat->Rat)(n:Nat)(w:World)(e:Ending)(w':World):Prop:=
 Below w.heap.size w w'/\((posP A n/\∃ v1 v2 rs,e=.returned (.agg #[v1,v2])/\FacM 97 73 w' w.heap.size v1 v2 rs (Zhh A n) (dsL A n)) \/
  (¬ posP A n/\e=.panicked [{ v:=.iface 117 (.agg #[.int .i64 8]),recovered:=false }]))
theorem Ij{G:Prop}(h:G:=by
 exact .inr ⟨g,sp,h1,Nat.le_trans hb h2,h3⟩):G:=h
theorem FacM.lower{tS tN:TypeId}{w:World}{b b':Nat}{v1 v2:Value}{rs:List RS}{Q:List (List Rat)}{ds:List Rat}(h:FacM tS tN w b v1 v2 rs Q ds)(hb:b'<=b):FacM tS tN w b' v1 v2 rs Q ds:=by
 refine⟨⟨?_,h.1.2.1,λi r hr=>(h.1.2.2.1 i r hr).lower hb,h.1.2.2.2⟩,h.2.1.lower hb,h.2.2⟩;rcases h.1.1 with h|⟨g,sp,h1,h2,h3⟩;exact .inl h;exact Ij
theorem Zp1{A:Nat->Nat->Rat}{n i k j:Nat}(h:FacP A n)(hi:i<n)(hk:k<i)(hj:j<k)(hp:posP A i):(∀ t,t<2->Sm (Zhk (lQ A i j) [lQ A k j,dQ A j] t))/\∀ t:Nat,t<2->Sm ([lQ A k j,dQ A j][t]?.getD 0):=by
 have e:posP A (j+1):=hp.mono Gk;constructor
 ·intro t ht
  match t,ht with
  | 0,_=>exact(h.l i j Gk hi e).sm Gj Gj
  | 1,_=>exact(h.ll Gk hi Gk (show k<n by omega) e).sm Gj Gj
 intro t ht
 match t,ht with
 | 0,_=>exact(h.l k j Gk Gk e).sm Gj Gj
 | 1,_=>exact(h.d (show j<n by omega) (hp.mono Gk)).sm Gj Gj
theorem Zmt{A:Nat->Nat->Rat}{n i k:Nat}(h:FacP A n)(hi:i<n)(hk:k<i)(hp:posP A i):(∀ t,t<2->Sm (Zhk (lQ A i k) [lQ A i k,dQ A k] t))/\∀ t:Nat,t<2->Sm ([lQ A i k,dQ A k][t]?.getD 0):=by
 have e:posP A (k+1):=hp.mono Gk;constructor
 ·intro t ht
  match t,ht with
  | 0,_=>exact(h.l i k Gk hi e).sm Gj Gj
  | 1,_=>exact(h.ll Gk hi Gk hi e).sm Gj Gj
 intro t ht
 match t,ht with
 | 0,_=>exact(h.l i k Gk hi e).sm Gj Gj
 | 1,_=>exact(h.d (show k<n by omega) (hp.mono Gk)).sm Gj Gj
theorem Z0n{A:Nat->Nat->Rat}{n i k j:Nat}(h:FacP A n)(hi:i<n)(hk:k<i)(hj:j<k)(hp:posP A i):Sm (Zr A j i k)/\Sm (Zhk (lQ A i j) [lQ A k j,dQ A j] 2):=
 ⟨(h.s j i k Gk (hp.mono Gk) hi Gk).sm Gj Gj,(h.lld Gk hi Gk (show k<n by omega) (hp.mono Gk)).sm Gj Gj⟩
theorem Zxm{A:Nat->Nat->Rat}{n i k:Nat}(h:FacP A n)(hi:i<n)(hk:k<i)(hp:posP A i):Sm (Zr A k i i)/\Sm (Zhk (lQ A i k) [lQ A i k,dQ A k] 2):=
 ⟨(h.s k i i Gk (hp.mono Gk) hi hi).sm Gj Gj,(h.lld Gk hi Gk hi (hp.mono Gk)).sm Gj Gj⟩
theorem fac_q{A:Nat->Nat->Rat}{n i k:Nat}(h:FacP A n)(hi:i<n)(hk:k<i)(hp:posP A i):Sm (Zr A k i k)/\Sm (dQ A k)/\dQ A k≠0:=
 ⟨(h.s k i k Gk (hp.mono Gk) hi Gk).sm Gj Gj,(h.d (show k<n by omega) (hp.mono Gk)).sm Gj Gj,hp.ne hk⟩
theorem Zvd(A0:Option Addr)(n c:Nat)(Q:List (List Rat))(w:World)(h:MFL w A0 n c Q)(hn9:n<=900)(hm:∀ i,i<n->(Q[i]?.getD []).length=n)(hF:FacP (Zh Q) n) :
    Calls Tryz.prog 107 #[.slice A0 n c] w (FacPost (Zh Q) n w):=by
 obtain⟨iN,hi,F8,D9,F3⟩:=info_parts Zl8;obtain⟨iS,ki,k6,k8,k9⟩:=info_parts Z3i;have hmx:=Gt;have c3:(97:TypeId)≠73:=Gj;have K3:=h.2.1;have I5:=h.2.2.1;unfold maxLen at I5;obtain⟨AQ,s6⟩:=Gz (Zh Q);rw[s6]at hF ⊢;obtain⟨W0,F2,s8,q0,s0⟩:=Zam w 99 #[.slice none 0 0,.slice none 0 0];obtain⟨gx,g0⟩:=Gz w.heap.size;rw[g0]at q0 s0 s8;have J3:Hid (W0.heap.size=gx+1):=Za s0;have hH:=Za h;replace hm:=Za hm;replace hF:=Za hF;replace s6:=Za s6;clear h s0;go_in;go_wp2_with fail;(try rw[F2]);(try rw[g0]);replace g0:=Za g0;replace s8:=Za s8;clear F2
 go_loopg [12] n (λt iv wr=>∃ (i:Nat) (v1 v2:Value) (rs:List RS),i+t=n/\iv=.int .i64 i/\Blk wr gx 99 #[v1,v2]/\FacM 97 73 wr W0.heap.size v1 v2 rs (Zhh AQ i) (dsL AQ i)/\Hid (posP AQ i)/\Kept (λk=>k=gx) W0 wr)
 case atStart=>exact⟨0,.slice none 0 0,.slice none 0 0,[],by omega,rfl,q0,FacM.nil _ _ _ _,Za (λt ht=>by omega),Qk _ _⟩
 case round =>
  clear q0;obtain⟨wi,rfl⟩:=Gy wr;obtain⟨i,v1,v2,rs,K8,rfl,f,c6,y,hK⟩:=hrel;have K2:=J3.out;have d9:Hid (Below gx w wi):=Za (s8.out.trans (hK.to_below (λk hk=>by omega) Gk));obtain⟨A1,c1,e1,o8⟩:=c6.1.mflA;obtain⟨A2,c2,e2,d7⟩:=c6.2.1.fl;rw[Zf3]at e1 o8;rw[Zj3]at e2 d7;subst e1;subst e2;have x0:wi.cell? ⟨gx,0,none⟩=some (.slice A1 i c1):=by rw[f.cell];rfl
  have x1:wi.cell? ⟨gx,1,none⟩=some (.slice A2 i c2):=by rw[f.cell];rfl
  have z0:=f.frozen 0;have z1:=f.frozen 1;cases gk with
  | zero =>
   obtain rfl:i=n:=Gk;have t1:decide ((i:Int)<(i:Int))=false:=Gh;obtain⟨X,hX⟩:∃ X,(wi.setCell ⟨gx,0,none⟩ (.slice A1 i c1)).setCell ⟨gx,1,none⟩ (.slice A2 i c2)=X:=⟨_,rfl⟩;have B9:Kept (λk=>k=gx) wi X:=by rw[<- hX];exact Kept.set_ (G:=λk=>k=gx) (Kept.set_ (G:=λk=>k=gx) (Qk _ _) (p:=⟨gx,0,none⟩) (.inl rfl) _) (p:=⟨gx,1,none⟩) (.inl rfl) _
   have A4:Blk X gx 99 #[.slice A1 i c1,.slice A2 i c2]:=by rw[<- hX];exact(f.set_ 0 (.slice A1 i c1)).set_ 1 (.slice A2 i c2)
   have y0:X.cell? ⟨gx,0,none⟩=some (.slice A1 i c1):=by rw[A4.cell];rfl
   have y1:X.cell? ⟨gx,1,none⟩=some (.slice A2 i c2):=by rw[A4.cell];rfl
   have I9:=Za (c6.box f (Zlg _ _ _ _ _ _) Gk B9);have I4:Hid (Below gx w X):=Za (d9.out.trans (B9.to_below (λk hk=>by omega) (by have:=d9.out.size;have:=hK.size;omega)));clear c6 o8 d7 hK B9 A4 f;go_wp2_with fail;(try rw[hX]);refine bodyPost_ret (v:=.agg #[.slice A1 i c1,.slice A2 i c2]) (by simp[results,Tryz.results107,go_sem,y0,y1]) rfl ?_;refine⟨by rw[g0.out];exact I4.out,.inl ⟨y.out,_,_,rs,rfl,I9.out.lower (by rw[g0.out];omega)⟩⟩
  | succ t =>
   obtain rfl:t=n-(i+1):=Gk;have a1:i<n:=Gk;have t1:decide ((i:Int)<(n:Int))=true:=Gv Gk;have bi:(i:Int)<(n:Int):=Gk;obtain⟨ga,oa,Ar,nr,cr,rfl,k0,hR⟩:=(hH.out.below (g0.out▸d9.out)).at_ a1;obtain⟨row,e0⟩:=Gz (Q[i]?.getD []);rw[e0]at hR;have H4:n=nr:=by rw[<- hR.len,<- e0];exact(hm.out i a1).symm
   subst H4;have u4:Hid (∀ t:Nat,row[t]?.getD 0=AQ i t):=Za (λt=>by rw[<- s6.out,<- e0];rfl);replace e0:=Za e0;obtain⟨gr,or_,xn,xA,xk,xc,xm,xB,xj,xd,rfl,⟨r0,r1,r2,r3⟩,hX⟩:=hR.at_ a1;rw[u4.out]at hX;obtain⟨V1,H1,m5,p1,s1⟩:=Zam wi 73 #[.bool false,.slice none 0 0,.bool false,.slice none 0 0];obtain⟨gl,l7⟩:=Gz wi.heap.size;rw[l7]at p1 s1;obtain⟨u0,u1,u2,u3,v0,v1,v2,v3⟩:=p1.four;obtain⟨W2,F1,p2,F5,s2⟩:=Zau xn xA xk xc xm xB xj xd p1;have n9:Below wi.heap.size wi W2:=m5.trans (F5.to_below (λk e=>by omega) m5.size);have J4:Hid (W2.heap.size=gl+1):=Za (by rw[s2,s1]);have E4:=Za (hX.below n9);have F0:Hid (gx<gl):=Za (by have:=d9.out.size;have:=hK.size;omega);replace n9:=Za n9;replace c6:=Za c6;replace o8:=Za o8;replace d7:=Za d7;replace hR:=Za hR;replace f:=Za f;replace hK:=Za hK;replace p2:=Za p2;clear hX m5 F5 s1 s2;go_wp2_with fail;(try rw[l7]);(try rw[F1]);clear u0 u1 u2 u3 v0 v1 v2 v3 p1 H1 F1 r0 r1 r2 r3 k0;replace l7:=Za l7
   go_loopg [5,23] i (λt ov kv wk=>∃ (k:Nat) (ln:Bool) (lA:Option Addr) (lk lc:Nat) (lm:Bool) (lB:Option Addr) (lj ld:Nat),k+t=i/\kv=.int .i64 k/\OwnF 73 wk W2.heap.size ov (Zjr AQ i k)/\Blk wk gl 73 #[.bool ln,.slice lA lk lc,.bool lm,.slice lB lj ld]/\Hid (Fr wk ln lA lk lc lm lB lj ld (Zr AQ k i i))/\Kept (λg=>g=gl) W2 wk)
   case atStart=>exact⟨0,_,_,_,_,_,_,_,_,by omega,rfl,OwnF.nil _ _ _,p2.out,E4,Qk _ _⟩
   case round =>
    clear p2 E4;obtain⟨wk,rfl⟩:=Gy wr;obtain⟨k,ln,lA,lk,lc,lm,lB,lj,ld,K9,rfl,a0,b4,hl,c0⟩:=hrel;have J7:=J4.out;have K0:=l7.out;have J5:=F0.out;have f9:Hid (Below wi.heap.size wi wk):=Za (n9.out.trans (c0.to_below (λk e=>by omega) Gk));obtain⟨Ao,co,e3,c5⟩:=a0.fl;rw[Zgb]at e3 c5;subst e3;have w4:=c5.cap;unfold maxLen at w4;have b9:=Zc f9.out f.out;have F9:wk.cell? ⟨gx,0,none⟩=some (.slice A1 i c1):=by rw[b9.cell];rfl
    have C9:wk.cell? ⟨gx,1,none⟩=some (.slice A2 i c2):=by rw[b9.cell];rfl
    have E1:=b9.frozen 0;have G2:=b9.frozen 1;clear x0 x1 z0 z1;obtain⟨l0,l1,l2,l3,m0,m1,m2,m3⟩:=b4.four;cases gk with
    | zero =>
     obtain rfl:k=i:=Gk;have t2:decide ((k:Int)<(k:Int))=false:=Gh;have D1:Hid (Zr AQ k k k=dQ AQ k):=Za rfl;by_cases hp:0<dQ AQ k
     case neg =>
      have J6:Hid (¬ posP AQ n):=Za (λhp9=>hp (hp9 k a1));have t4:decide ((0:Int)<Zdb (Zr AQ k k k).num 0)=false:=Gu (λh=>hp (by rw[<- D1.out];exact num_pos0.1 (cmpZ_pos0.1 h)));replace hp:=Za hp;replace c5:=Za c5;replace a0:=Za a0;replace c0:=Za c0;replace b4:=Za b4;clear b9;go_wp2_with fail;refine(Zid ln lA lk lc lm lB lj ld _ wk hl.out).mono ?_;rintro e w5 ⟨rfl,a5⟩;go_wp2_with fail;refine(Zai 8 w5).mono ?_;rintro e w6 ⟨rfl,rfl⟩;go_wp2_with fail;refine⟨rfl,?_,.inr ⟨J6.out,rfl⟩⟩;have h1:=d9.out.trans ((Gs f9.out a5).mono Gk);rw[g0.out];exact h1
     have y9:Hid (posP AQ (k+1)):=Za (λt ht=>by
      rcases Qf t k with h1|h1;exact y.out t h1;rw[show t=k by omega];exact hp)
     have t4:decide ((0:Int)<Zdb (Zr AQ k k k).num 0)=true:=Gv (cmpZ_pos0.2 (num_pos0.2 (by rw[D1.out];exact hp)));replace hp:=Za hp;replace c5:=Za c5;replace a0:=Za a0;replace c0:=Za c0;replace b4:=Za b4;clear b9;go_wp2_with fail;refine(Zid ln lA lk lc lm lB lj ld _ wk hl.out).mono ?_;rintro e w5 ⟨rfl,a5⟩;go_wp2_with fail;refine(Zbi 8 w5).mono ?_;rintro e w6 ⟨rfl,rfl⟩;have j2:Below wi.heap.size wi w6:=Gs f9.out a5;have r4:EnvF 97 73 99 w6 W0.heap.size W2.heap.size gl gx (.slice A1 k c1) (.slice A2 k c2) (.slice A1 k c1) (.slice A2 k c2) (.slice Ao k co) rs (Zhh AQ k) (dsL AQ k) (Zjr AQ k k) ln lA lk lc lm lB lj ld (dQ AQ k):=⟨c6.out.kept j2,a0.out.kept a5,Zc a5 b4.out,hl.out.below a5,Zc j2 f.out⟩;have I2:Hid (Kept (λk=>k=gx) W0 w6):=Za (hK.out.below j2);have b2:gx<W0.heap.size:=Gk;have c8:Hid (gl<W2.heap.size):=Za Gk;have c7:Hid (∀ k',(Value.slice A2 k c2).ownBlock=some k'->k'<gl):=Za (λk' e=>by have:=c6.out.2.1.blt k' e;omega);have c9:Hid (∀ s ∈ rs,∀ k',s.val.ownBlock=some k'->k'<W2.heap.size):=Za (λs hs k' e=>by have:=c6.out.rlt s hs k' e;omega);have L0:(rs).length=k:=by rw[c6.out.1.2.1,Zf3]
     have a6:rs.length+1<=1000:=Gk;have A3:(dsL AQ k).length+1<=1000:=by rw[Zj3];omega
     obtain⟨J8,K7⟩:=r4.cells;replace r4:=Za r4;clear a5 j2 F9 C9 E1 G2 l0 l1 l2 l3 m0 m1 m2 m3;go_wp2_with fail;obtain⟨X0,U⟩:=Gz w6.drew;have n2:Below w6.heap.size w6 X0:=by rw[<- U];exact Zf (Qb _ _) 1
     have hE:=r4.out.below n2;have x3:Kept (λk=>k=gx) W0 X0:=I2.out.below n2;have B7:w6.drew.cell? ⟨gx,0,none⟩=some (.slice A1 k c1)/\w6.drew.cell? ⟨gx,1,none⟩=some (.slice A2 k c2):=by rw[U];exact hE.cells
     refine Zz [11,13] (λwx=>wx.cell? ⟨gx,0,none⟩=some (.slice A1 k c1)/\wx.cell? ⟨gx,1,none⟩=some (.slice A2 k c2)) hmx B7 (λhxs9=>?_);refine Zke 5 [0,1,2,5,6] rfl Gi B7 ?_
     iterate 5 (refine tkA ?_;try simp only[Qa,Zhf,Zgs,Zg9,Gr,Gq,Gp])
     refine tk0 ?_;rw[U];clear B7 hxs9 n2 U;have k7:Hid (W0.heap.size<=W2.heap.size):=Za Gk;refine Zdc (i:=3) (j:=7) rfl rfl Gi (λK hK=>?_) (λK hK=>?_)
     focus
      obtain⟨Y1,T⟩:=Gz (X0.alloc (.cells #[.slice Ao k co] 97));obtain⟨r9,o6⟩:=Gz X0.heap.size;have u9:Below X0.heap.size X0 Y1:=by rw[<- T];exact(Qb _ _).alloc (Qc _) _
      have n8:Blk Y1 r9 97 #[.slice Ao k co]:=by rw[<- T,<- o6];exact Qd _ _ _
      have a4:=hE.below u9;have e6:=x3.below u9;go_simp;(try rw[T]);(try rw[o6]);refine hK.out _ _ (λ_=>a4.cells) ?_;clear hK K T o6
      try simp only[Qa,Zhf,Zgs,Zg9]
      refine Zdc (i:=4) (j:=7) rfl rfl Gi (λK hK=>?_) (λK hK=>?_)
      focus
       rw[Gx Gd];refine Zav _ (.tmp 90) (.tmp 92) 96 rfl W0.heap.size 97 iS Tryz.underlying96 ki k6 k8 k9 (.slice A1 k c1) rs rfl a4.1.1.1 _ (some ⟨r9,0,none⟩) 1 1 [⟨Ao,k,co⟩] rfl (Zev n8) rfl a6 e6.size ?_;intro J0 Y4 D4 u6 D8;have f4:=a4.app c3 (r:=⟨Ao,k,co⟩) rfl k7.out c9.out (λk' e=>Qg (c7.out k' e) c8.out) b2 D4 u6 D8;have E0:=Kept.grownC e6 u6 (λk' hk=>a4.1.1.1.row_ge k' hk);refine hK.out _ _ (λ_=>f4.cells) ?_;clear hK K
       try simp only[Qa,Zhf,Zgs,Zg9]
       refine Zgt 1 [10] rfl Gi f4.cells ?_
       (refine tkA ?_;try simp only[Qa,Zhf,Zgs,Zg9,Gr,Gq,Gp])
       refine tk0 ?_;refine wpAnyL_o 7 λK hK=>?_;obtain⟨I1,I8,H3,I3⟩:=f4.left;go_simp;refine hK.out _ _ (λ_=>f4.cells) ?_;clear hK K I1 I8 H3 I3
       try simp only[Qa,Zhf,Zgs,Zg9]
       refine wpAnyL_o 8 λK hK=>?_;obtain⟨Y6,r8⟩:=Gz (Y4.alloc (.cells #[.bool ln,.slice lA lk lc,.bool lm,.slice lB lj ld] 73));obtain⟨F7,l6⟩:=Gz Y4.heap.size;have v4:Below Y4.heap.size Y4 Y6:=by rw[<- r8];exact(Qb _ _).alloc (Qc _) _
       have C3:Blk Y6 F7 73 #[.bool ln,.slice lA lk lc,.bool lm,.slice lB lj ld]:=by rw[<- r8,<- l6];exact Qd _ _ _
       have t9:=f4.below v4;have D3:=E0.below v4;go_simp;(try rw[r8]);(try rw[l6]);refine hK.out _ _ (λ_=>t9.cells) ?_;clear hK K r8 l6
       try simp only[Qa,Zhf,Zgs,Zg9]
       have EL:=t9;have KL:=D3;have bL:=C3;obtain⟨vL,rfl⟩:∃ x:Value,x=J0:=⟨_,rfl⟩;obtain⟨gL,rfl⟩:∃ x:Nat,x=F7:=⟨_,rfl⟩;obtain⟨WL,rfl⟩:=Gy Y6
      rotate_left 1
      focus
       obtain⟨I7,H8,H2,H9⟩:=a4.left;go_simp;refine hK.out _ _ (λ_=>a4.cells) ?_;clear hK K I7 H8 H2 H9
       try simp only[Qa,Zhf,Zgs,Zg9]
       refine Zdc (i:=4) (j:=8) rfl rfl Gi (λK hK=>?_) (λK hK=>?_)
       focus
        rw[Gx Gd];refine Zav _ (.tmp 90) (.tmp 92) 96 rfl W0.heap.size 97 iS Tryz.underlying96 ki k6 k8 k9 (.slice A1 k c1) rs rfl a4.1.1.1 _ (some ⟨r9,0,none⟩) 1 1 [⟨Ao,k,co⟩] rfl (Zev n8) rfl a6 e6.size ?_;intro C5 r7 z5 m6 v7;have i3:=a4.app c3 (r:=⟨Ao,k,co⟩) rfl k7.out c9.out (λk' e=>Qg (c7.out k' e) c8.out) b2 z5 m6 v7;have y5:=Kept.grownC e6 m6 (λk' hk=>a4.1.1.1.row_ge k' hk);refine hK.out _ _ (λ_=>i3.cells) ?_;clear hK K
        try simp only[Qa,Zhf,Zgs,Zg9]
        refine Zgt 1 [10] rfl Gi i3.cells ?_
        (refine tkA ?_;try simp only[Qa,Zhf,Zgs,Zg9,Gr,Gq,Gp])
        refine tk0 ?_;refine wpAnyL_o 8 λK hK=>?_;obtain⟨B3,j7⟩:=Gz (r7.alloc (.cells #[.bool ln,.slice lA lk lc,.bool lm,.slice lB lj ld] 73));obtain⟨u5,j0⟩:=Gz r7.heap.size;have o4:Below r7.heap.size r7 B3:=by rw[<- j7];exact(Qb _ _).alloc (Qc _) _
        have w8:Blk B3 u5 73 #[.bool ln,.slice lA lk lc,.bool lm,.slice lB lj ld]:=by rw[<- j7,<- j0];exact Qd _ _ _
        have q8:=i3.below o4;have v6:=y5.below o4;go_simp;(try rw[j7]);(try rw[j0]);refine hK.out _ _ (λ_=>q8.cells) ?_;clear hK K j7 j0
        try simp only[Qa,Zhf,Zgs,Zg9]
        have EL:=q8;have KL:=v6;have bL:=w8;obtain⟨vL,rfl⟩:∃ x:Value,x=C5:=⟨_,rfl⟩;obtain⟨gL,rfl⟩:∃ x:Nat,x=u5:=⟨_,rfl⟩;obtain⟨WL,rfl⟩:=Gy B3
       rotate_left 1
       focus
        obtain⟨D7,j8⟩:=Gz (Y1.alloc (.cells #[.bool ln,.slice lA lk lc,.bool lm,.slice lB lj ld] 73));obtain⟨t6,g9⟩:=Gz Y1.heap.size;have h3:Below Y1.heap.size Y1 D7:=by rw[<- j8];exact(Qb _ _).alloc (Qc _) _
        have A5:Blk D7 t6 73 #[.bool ln,.slice lA lk lc,.bool lm,.slice lB lj ld]:=by rw[<- j8,<- g9];exact Qd _ _ _
        have b8:=a4.below h3;have n0:=e6.below h3;have q6:=Zc h3 n8;go_simp;(try rw[j8]);(try rw[g9]);refine hK.out _ _ (λ_=>b8.cells) ?_;clear hK K j8 g9
        try simp only[Qa,Zhf,Zgs,Zg9]
        refine wpAnyL_o 4 λK hK=>?_;rw[Gx Gd];refine Zav _ (.tmp 90) (.tmp 92) 96 rfl W0.heap.size 97 iS Tryz.underlying96 ki k6 k8 k9 (.slice A1 k c1) rs rfl b8.1.1.1 _ (some ⟨r9,0,none⟩) 1 1 [⟨Ao,k,co⟩] rfl (Zev q6) rfl a6 n0.size ?_;intro C7 J2 w2 i5 A6;have h4:=b8.app c3 (r:=⟨Ao,k,co⟩) rfl k7.out c9.out (λk' e=>Qg (c7.out k' e) c8.out) b2 w2 i5 A6;have w3:=Kept.grownC n0 i5 (λk' hk=>b8.1.1.1.row_ge k' hk);have k2:=b8.far c3 i5 A5;refine hK.out _ _ (λ_=>h4.cells) ?_;clear hK K
        try simp only[Qa,Zhf,Zgs,Zg9]
        refine Zgt 1 [10] rfl Gi h4.cells ?_
        (refine tkA ?_;try simp only[Qa,Zhf,Zgs,Zg9,Gr,Gq,Gp])
        refine tk0 ?_;have EL:=h4;have KL:=w3;have bL:=k2;obtain⟨vL,rfl⟩:∃ x:Value,x=C7:=⟨_,rfl⟩;obtain⟨gL,rfl⟩:∃ x:Nat,x=t6:=⟨_,rfl⟩;obtain⟨WL,rfl⟩:=Gy J2
     rotate_left 3
     focus
      obtain⟨G3,F4,E9,E3⟩:=hE.left;go_simp;refine hK.out _ _ (λ_=>hE.cells) ?_;clear hK K G3 F4 E9 E3
      try simp only[Qa,Zhf,Zgs,Zg9]
      refine Zdc (i:=3) (j:=8) rfl rfl Gi (λK hK=>?_) (λK hK=>?_)
      focus
       obtain⟨j9,j5⟩:=Gz (X0.alloc (.cells #[.slice Ao k co] 97));obtain⟨n5,i7⟩:=Gz X0.heap.size;have q5:Below X0.heap.size X0 j9:=by rw[<- j5];exact(Qb _ _).alloc (Qc _) _
       have m8:Blk j9 n5 97 #[.slice Ao k co]:=by rw[<- j5,<- i7];exact Qd _ _ _
       have b7:=hE.below q5;have i9:=x3.below q5;go_simp;(try rw[j5]);(try rw[i7]);refine hK.out _ _ (λ_=>b7.cells) ?_;clear hK K j5 i7
       try simp only[Qa,Zhf,Zgs,Zg9]
       refine Zdc (i:=4) (j:=8) rfl rfl Gi (λK hK=>?_) (λK hK=>?_)
       focus
        rw[Gx Gd];refine Zav _ (.tmp 90) (.tmp 92) 96 rfl W0.heap.size 97 iS Tryz.underlying96 ki k6 k8 k9 (.slice A1 k c1) rs rfl b7.1.1.1 _ (some ⟨n5,0,none⟩) 1 1 [⟨Ao,k,co⟩] rfl (Zev m8) rfl a6 i9.size ?_;intro C8 r5 z3 o7 x5;have h2:=b7.app c3 (r:=⟨Ao,k,co⟩) rfl k7.out c9.out (λk' e=>Qg (c7.out k' e) c8.out) b2 z3 o7 x5;have B2:=Kept.grownC i9 o7 (λk' hk=>b7.1.1.1.row_ge k' hk);refine hK.out _ _ (λ_=>h2.cells) ?_;clear hK K
        try simp only[Qa,Zhf,Zgs,Zg9]
        refine Zgt 1 [10] rfl Gi h2.cells ?_
        (refine tkA ?_;try simp only[Qa,Zhf,Zgs,Zg9,Gr,Gq,Gp])
        refine tk0 ?_;refine wpAnyL_o 8 λK hK=>?_;obtain⟨x2,j6⟩:=Gz (r5.alloc (.cells #[.bool ln,.slice lA lk lc,.bool lm,.slice lB lj ld] 73));obtain⟨u8,i1⟩:=Gz r5.heap.size;have m7:Below r5.heap.size r5 x2:=by rw[<- j6];exact(Qb _ _).alloc (Qc _) _
        have B4:Blk x2 u8 73 #[.bool ln,.slice lA lk lc,.bool lm,.slice lB lj ld]:=by rw[<- j6,<- i1];exact Qd _ _ _
        have o5:=h2.below m7;have B8:=B2.below m7;go_simp;(try rw[j6]);(try rw[i1]);refine hK.out _ _ (λ_=>o5.cells) ?_;clear hK K j6 i1
        try simp only[Qa,Zhf,Zgs,Zg9]
        have EL:=o5;have KL:=B8;have bL:=B4;obtain⟨vL,rfl⟩:∃ x:Value,x=C8:=⟨_,rfl⟩;obtain⟨gL,rfl⟩:∃ x:Nat,x=u8:=⟨_,rfl⟩;obtain⟨WL,rfl⟩:=Gy x2
       rotate_left 1
       focus
        obtain⟨E5,j4⟩:=Gz (j9.alloc (.cells #[.bool ln,.slice lA lk lc,.bool lm,.slice lB lj ld] 73));obtain⟨u7,h9⟩:=Gz j9.heap.size;have i6:Below j9.heap.size j9 E5:=by rw[<- j4];exact(Qb _ _).alloc (Qc _) _
        have v5:Blk E5 u7 73 #[.bool ln,.slice lA lk lc,.bool lm,.slice lB lj ld]:=by rw[<- j4,<- h9];exact Qd _ _ _
        have b5:=b7.below i6;have m4:=i9.below i6;have l4:=Zc i6 m8;go_simp;(try rw[j4]);(try rw[h9]);refine hK.out _ _ (λ_=>b5.cells) ?_;clear hK K j4 h9
        try simp only[Qa,Zhf,Zgs,Zg9]
        refine wpAnyL_o 4 λK hK=>?_;rw[Gx Gd];refine Zav _ (.tmp 90) (.tmp 92) 96 rfl W0.heap.size 97 iS Tryz.underlying96 ki k6 k8 k9 (.slice A1 k c1) rs rfl b5.1.1.1 _ (some ⟨n5,0,none⟩) 1 1 [⟨Ao,k,co⟩] rfl (Zev l4) rfl a6 m4.size ?_;intro D0 H5 B1 g8 y8;have i0:=b5.app c3 (r:=⟨Ao,k,co⟩) rfl k7.out c9.out (λk' e=>Qg (c7.out k' e) c8.out) b2 B1 g8 y8;have A8:=Kept.grownC m4 g8 (λk' hk=>b5.1.1.1.row_ge k' hk);have k4:=b5.far c3 g8 v5;refine hK.out _ _ (λ_=>i0.cells) ?_;clear hK K
        try simp only[Qa,Zhf,Zgs,Zg9]
        refine Zgt 1 [10] rfl Gi i0.cells ?_
        (refine tkA ?_;try simp only[Qa,Zhf,Zgs,Zg9,Gr,Gq,Gp])
        refine tk0 ?_;have EL:=i0;have KL:=A8;have bL:=k4;obtain⟨vL,rfl⟩:∃ x:Value,x=D0:=⟨_,rfl⟩;obtain⟨gL,rfl⟩:∃ x:Nat,x=u7:=⟨_,rfl⟩;obtain⟨WL,rfl⟩:=Gy H5
      rotate_left 2
      focus
       obtain⟨k5,j3⟩:=Gz (X0.alloc (.cells #[.bool ln,.slice lA lk lc,.bool lm,.slice lB lj ld] 73));obtain⟨t5,h0⟩:=Gz X0.heap.size;have l5:Below X0.heap.size X0 k5:=by rw[<- j3];exact(Qb _ _).alloc (Qc _) _
       have w7:Blk k5 t5 73 #[.bool ln,.slice lA lk lc,.bool lm,.slice lB lj ld]:=by rw[<- j3,<- h0];exact Qd _ _ _
       have q7:=hE.below l5;have y6:=x3.below l5;go_simp;(try rw[j3]);(try rw[h0]);refine hK.out _ _ (λ_=>q7.cells) ?_;clear hK K j3 h0
       try simp only[Qa,Zhf,Zgs,Zg9]
       refine wpAnyL_o 3 λK hK=>?_;obtain⟨G1,j1⟩:=Gz (k5.alloc (.cells #[.slice Ao k co] 97));obtain⟨t7,i4⟩:=Gz k5.heap.size;have h5:Below k5.heap.size k5 G1:=by rw[<- j1];exact(Qb _ _).alloc (Qc _) _
       have A7:Blk G1 t7 97 #[.slice Ao k co]:=by rw[<- j1,<- i4];exact Qd _ _ _
       have b6:=q7.below h5;have q9:=y6.below h5;have k3:=Zc h5 w7;go_simp;(try rw[j1]);(try rw[i4]);refine hK.out _ _ (λ_=>b6.cells) ?_;clear hK K j1 i4
       try simp only[Qa,Zhf,Zgs,Zg9]
       refine wpAnyL_o 4 λK hK=>?_;rw[Gx Gd];refine Zav _ (.tmp 90) (.tmp 92) 96 rfl W0.heap.size 97 iS Tryz.underlying96 ki k6 k8 k9 (.slice A1 k c1) rs rfl b6.1.1.1 _ (some ⟨t7,0,none⟩) 1 1 [⟨Ao,k,co⟩] rfl (Zev A7) rfl a6 q9.size ?_;intro E6 G8 w9 i2 v9;have i8:=b6.app c3 (r:=⟨Ao,k,co⟩) rfl k7.out c9.out (λk' e=>Qg (c7.out k' e) c8.out) b2 w9 i2 v9;have x8:=Kept.grownC q9 i2 (λk' hk=>b6.1.1.1.row_ge k' hk);have d4:=b6.far c3 i2 k3;refine hK.out _ _ (λ_=>i8.cells) ?_;clear hK K
       try simp only[Qa,Zhf,Zgs,Zg9]
       refine Zgt 1 [10] rfl Gi i8.cells ?_
       (refine tkA ?_;try simp only[Qa,Zhf,Zgs,Zg9,Gr,Gq,Gp])
       refine tk0 ?_;have EL:=i8;have KL:=x8;have bL:=d4;obtain⟨vL,rfl⟩:∃ x:Value,x=E6:=⟨_,rfl⟩;obtain⟨gL,rfl⟩:∃ x:Nat,x=t5:=⟨_,rfl⟩;obtain⟨WL,rfl⟩:=Gy G8
     all_goals
      refine wpAnyL_o 9 λK hK=>?_;rw[Gx Gd];refine Zbe _ (.tmp 95) (.tmp 97) 97 rfl W0.heap.size 73 iN Tryz.underlying97 hi F8 D9 F3 (.slice A2 k c2) _ rfl EL.1.2.1 _ (some ⟨gL,0,none⟩) 1 1 [⟨ln,lA,lk,lc,lm,lB,lj,ld,dQ AQ k⟩] rfl (Zb9 _ bL) rfl (by intro e he;rw[Ql]at he;subst he;exact EL.2.2.1) A3 KL.size ?_;intro G4 h7 C1 m9 x9 C0;obtain⟨f1,f3⟩:=EL.app c3 b2 C1 m9 x9 C0;have w0:=Kept.grownC KL m9 (λk' hk=>EL.1.2.1.row_ge k' hk);refine hK.out _ _ (λ_=>⟨by rw[f3.cell];rfl,by rw[f3.cell];rfl⟩) ?_;clear hK K
      try simp only[Qa,Zhf,Zgs,Zg9]
      obtain⟨a7,a9,e7,-⟩:=f1.1.mflA;obtain⟨b1,b3,e8,-⟩:=f1.2.1.fl;rw[<- Znp,Zf3]at e7;subst e7;obtain rfl:G4=.slice b1 (k+1) b3:=by rw[e8];congr 1;simp[Zj3]
      clear e8;have f6:Kept (λk=>k=gx) h7 ((h7.setCell ⟨gx,0,none⟩ (.slice a7 (k+1) a9)).setCell ⟨gx,1,none⟩ (.slice b1 (k+1) b3)):=Kept.set_ (G:=λk=>k=gx) (Kept.set_ (G:=λk=>k=gx) (Qk _ _) (p:=⟨gx,0,none⟩) (.inl rfl) _) (p:=⟨gx,1,none⟩) (.inl rfl) _;have f5:Blk (h7.setCell ⟨gx,0,none⟩ (.slice a7 (k+1) a9)) gx 99 #[.slice a7 (k+1) a9,.slice A2 k c2]:=f3.set_ 0 _;have f7:Blk ((h7.setCell ⟨gx,0,none⟩ (.slice a7 (k+1) a9)).setCell ⟨gx,1,none⟩ (.slice b1 (k+1) b3)) gx 99 #[.slice a7 (k+1) a9,.slice b1 (k+1) b3]:=f5.set_ 1 _;have f8:=f1.box f3 (Zlg _ _ _ _ _ _) b2 f6;have u0:h7.cell? ⟨gx,0,none⟩=some (.slice A1 k c1):=by rw[f3.cell];rfl
      have H6:=f3.frozen 0;have u1:(h7.setCell ⟨gx,0,none⟩ (.slice a7 (k+1) a9)).cell? ⟨gx,1,none⟩=some (.slice A2 k c2):=by rw[f5.cell];rfl
      have G7:=f5.frozen 1;have s5:=w0.trans f6;obtain⟨Z9,z8⟩:∃ Z,((h7.setCell ⟨gx,0,none⟩ (.slice a7 (k+1) a9)).setCell ⟨gx,1,none⟩ (.slice b1 (k+1) b3))=Z:=⟨_,rfl⟩;rw[z8]at f7 f8 s5;replace f7:=Za f7;replace f8:=Za f8;replace s5:=Za s5;clear f1 f3 f6;refine Zu (i:=11) rfl Gi Gi (λK hK=>?_);go_simp;refine hK.out _ _ ?_;clear hK K
      try simp only[Qa,Zhf,Zgs,Zg9]
      (refine Zj (i:=12) (v:=?_) rfl Gi Gi Gi Gi (Or.inl ⟨by kernel_rfl,?_⟩) (λhno=>absurd hno Gj) ?_;rotate_left;(· intro W2 _;go_simp;try with_reducible rfl);try simp only[Qa,Zhf,Zgs,Zg9,Gr,Gq,Gp])
      refine Zu (i:=13) rfl Gi Gi (λK hK=>?_);go_simp;(try rw[z8]);refine hK.out _ _ ?_;clear hK K
      try simp only[Qa,Zhf,Zgs,Zg9]
      refine wpAnyL_fin ?_;clear z8 u0 H6 u1 G7 f5;go_wp2_with fail
      go_roundg (n-(k+1))
      case measure=>omega
      case rel=>exact⟨k+1,_,_,rs ++ [⟨Ao,k,co⟩],by omega,by go_num,f7.out,by rw[Znp,Z29];exact f8.out,y9,s5.out⟩
    | succ t2 =>
     obtain rfl:t2=i-(k+1):=Gk;have J:k<i:=Gk;have t2:decide ((k:Int)<(i:Int))=true:=Gv Gk;have bki:(k:Int)<(i:Int):=Gk;have bkn:(k:Int)<(n:Int):=Gk;obtain⟨yn,yA,yk,yc,ym,yB,yj,yd,⟨r0,r1,r2,r3⟩,hY⟩:=(hR.out.below f9.out).atS (show k<n by omega);rw[u4.out]at hY;obtain⟨V3,G9,o9,p3,s3⟩:=Zam wk 73 #[.bool false,.slice none 0 0,.bool false,.slice none 0 0];obtain⟨gs,n1⟩:=Gz wk.heap.size;rw[n1]at p3 s3;obtain⟨u0,u1,u2,u3,v0,v1,v2,v3⟩:=p3.four;obtain⟨W4,E7,p4,E2,s4⟩:=Zau yn yA yk yc ym yB yj yd p3;have r6:Below wk.heap.size wk W4:=o9.trans (E2.to_below (λk e=>by omega) o9.size);have H7:Hid (W4.heap.size=gs+1):=Za (by rw[s4,s3]);have C6:=Za (hY.below r6);have J9:Hid (gl<gs):=Za (by have:=b4.lt;omega);replace r6:=Za r6;replace a0:=Za a0;replace c5:=Za c5;replace b4:=Za b4;replace c0:=Za c0;replace p4:=Za p4;clear hY o9 E2 s3 s4 b9;go_wp2_with fail;(try rw[n1]);(try rw[E7]);clear u0 u1 u2 u3 v0 v1 v2 v3 p3 G9 E7 r0 r1 r2 r3 F9 C9 E1 G2 l0 l1 l2 l3 m0 m1 m2 m3;replace n1:=Za n1
     go_loopg [32] k (λt jv wj=>∃ (j:Nat) (sn:Bool) (sA:Option Addr) (sk sc:Nat) (sm:Bool) (sB:Option Addr) (sj sd:Nat),j+t=k/\jv=.int .i64 j/\Blk wj gs 73 #[.bool sn,.slice sA sk sc,.bool sm,.slice sB sj sd]/\Hid (Fr wj sn sA sk sc sm sB sj sd (Zr AQ j i k))/\Kept (λg=>g=gs) W4 wj)
     case atStart=>exact⟨0,_,_,_,_,_,_,_,_,by omega,rfl,p4.out,C6,Qk _ _⟩
     case round =>
      clear p4 C6;obtain⟨wj,rfl⟩:=Gy wr;obtain⟨j,sn,sA,sk,sc,sm,sB,sj,sd,L1,rfl,z4,hs,B6⟩:=hrel;have K1:=H7.out;have K6:=n1.out;have q4:Hid (Below wk.heap.size wk wj):=Za (r6.out.trans (B6.to_below (λk e=>by omega) Gk));have d6:Hid (Below wi.heap.size wi wj):=Za (Gs f9.out q4.out);have l9:=Zc d6.out f.out;have C2:wj.cell? ⟨gx,0,none⟩=some (.slice A1 i c1):=by rw[l9.cell];rfl
      have x6:wj.cell? ⟨gx,1,none⟩=some (.slice A2 i c2):=by rw[l9.cell];rfl
      obtain⟨s0,s1,s2,s3,y0,y1,y2,y3⟩:=z4.four;cases gk with
      | zero =>
       obtain rfl:j=k:=Gk;have t3:decide ((j:Int)<(j:Int))=false:=Gh;obtain⟨gd,C,dn,dA,dk,dc,dm,dB,dj,dd,rfl,⟨d0,d1,d2,d3⟩,hD⟩:=(d7.out.below d6.out).at_ J;rw[Zq6 J]at hD;replace hD:=Za hD;go_wp2_with fail;obtain⟨X0,U⟩:=Gz wj.drew;have V:Below wj.heap.size wj X0:=by rw[<- U];exact Zf (Qb _ _) 1
       have u:Hid (∀ wx,Below wj.heap.size wj wx->wx.cell? ⟨gs,0,none⟩=some (.bool sn)/\wx.cell? ⟨gs,1,none⟩=some (.slice sA sk sc)/\wx.cell? ⟨gs,2,none⟩=some (.bool sm)/\wx.cell? ⟨gs,3,none⟩=some (.slice sB sj sd)/\wx.cell? ⟨gx,1,none⟩=some (.slice (some ⟨gd,C,none⟩) i c2)/\wx.cell? ⟨gd,C+j*4,none⟩=some (.bool dn)/\wx.cell? ⟨gd,C+j*4+1,none⟩=some (.slice dA dk dc)/\wx.cell? ⟨gd,C+j*4+2,none⟩=some (.bool dm)/\wx.cell? ⟨gd,C+j*4+3,none⟩=some (.slice dB dj dd)):=Za (λwx f=>⟨Zb f s0,Zb f s1,Zb f s2,Zb f s3,Zb f x6,Zb f d0,Zb f d1,Zb f d2,Zb f d3⟩);refine wp_heldS [] hmx u (by rw[U];exact V) (λhxs=>?_);rw[U];refine Zke 7 [0,1,2,3,4,5,6] rfl Gi (u.out _ V) ?_
       iterate 7 (refine tkA ?_;try simp only[Qa,Zhf,Zgs,Zg9,Gr,Gq,Gp])
       refine tk0 ?_;refine wpAnyL_o 7 λK hK=>?_;go_simp;refine(Zto sn sm dn dm sA sB dA dB sk sc sj sd dk dc dj dd _ _ X0 (hs.out.below V) (hD.out.below V) (fac_q hF.out a1 J y.out).1 (fac_q hF.out a1 J y.out).2.1 (fac_q hF.out a1 J y.out).2.2).mono ?_;rintro e w5 ⟨a5,an,aA,ak,ac,am,aB,aj,ad,rfl,hT⟩;have a3:=Gs V a5;refine hK.out _ _ (λ_=>u.out _ a3) ?_;clear hK K
       try simp only[Qa,Zhf,Zgs,Zg9]
       obtain⟨Y1,T⟩:=Gz (w5.alloc (.cells #[.bool an,.slice aA ak ac,.bool am,.slice aB aj ad] 73));obtain⟨g5,a2⟩:=Gz w5.heap.size;have d5:Below w5.heap.size w5 Y1:=by rw[<- T];exact(Qb _ _).alloc (Qc _) _
       have d8:Blk Y1 g5 73 #[.bool an,.slice aA ak ac,.bool am,.slice aB aj ad]:=by rw[<- T,<- a2];exact Qd _ _ _
       have O:Below wj.heap.size wj Y1:=Gs a3 d5;refine wpAnyL_o 8 λK hK=>?_;go_simp;(try rw[T]);(try rw[a2]);refine hK.out _ _ (λ_=>u.out _ O) ?_;clear hK K T a2
       try simp only[Qa,Zhf,Zgs,Zg9]
       have E8:=hT.below d5;have a8:Below wk.heap.size wk Y1:=Gs q4.out O;have B5:=a0.out.kept a8;have D2:W2.heap.size<=Y1.heap.size:=Qh c0.out.size a8.size;have l8:(Zjr AQ i j).length+1<=1000:=by rw[Zgb];omega
       refine wpAnyL_o 9 λK hK=>?_;rw[Gx Gd];refine Zbe _ (.tmp 57) (.tmp 65) 97 rfl W2.heap.size 73 iN Tryz.underlying97 hi F8 D9 F3 (.slice Ao j co) _ rfl B5 _ (some ⟨g5,0,none⟩) 1 1 [⟨an,aA,ak,ac,am,aB,aj,ad,Zr AQ j i j/dQ AQ j⟩] rfl (Zb9 _ d8) rfl (by intro e he;rw[Ql]at he;subst he;exact E8) l8 D2 ?_;intro vY Y2 C4 e5 x7 J1;have g2:OwnF 73 Y2 W2.heap.size vY (Zjr AQ i (j+1)):=by rw[Zz9];exact C4
       obtain⟨Ap,cp,e4,n6⟩:=g2.fl;rw[Zgb]at e4 n6;subst e4;have g6:=B5.row_ge;have n7:=a0.out.blt;have h6:Hid (Kept (λg=>g=gl) W2 Y1):=Za (c0.out.below a8);have t0:Hid (Kept (λg=>g=gl) W2 Y2):=Za ⟨e5.os.trans h6.out.os,e5.tape.trans h6.out.tape,e5.output.trans h6.out.output,Qh h6.out.size e5.size,λg hg hne=>(e5.block g (Qi hg h6.out.size) (λe=>by have:=g6 g (by first|exact e|exact e.symm);omega)).trans (h6.out.block g hg hne)⟩;have t8:Hid (Blk Y2 gl 73 #[.bool ln,.slice lA lk lc,.bool lm,.slice lB lj ld]):=Za ((e5.block gl (Qi b4.out.lt a8.size) (λe=>by have:=g6 gl (by first|exact e|exact e.symm);omega)).trans (Zc a8 b4.out));have G6:Hid (Fr Y2 ln lA lk lc lm lB lj ld (Zr AQ j i i)):=Za ⟨⟨hl.out.1.1,hl.out.1.2.1,x7 _ _ _ _ (hl.out.below a8).1.2.2⟩,⟨hl.out.2.1,hl.out.2.2.1,x7 _ _ _ _ (hl.out.below a8).2.2.2⟩⟩;have s9:Hid (Below wi.heap.size wi Y2):=Za (n9.out.trans (t0.out.to_below (λg e=>by omega) Gk));obtain⟨_,_,_,_,_,_,_,_,⟨D5,-⟩,-⟩:=d7.out.atS J;have I0:gd<wi.heap.size:=Zo D5
       have I:∀ (g o:Nat) (v:Value),(∀ k',(Value.slice Ao j co).ownBlock=some k'->k'≠g)->Y1.cell? ⟨g,o,none⟩=some v->Y2.cell? ⟨g,o,none⟩=some v:=λg o v hne hv=>by
        rw[<- hv];exact World.cell?_of_block (e5.block g (Zo hv) (λe=>hne g (by first|exact e|exact e.symm) rfl))
       have n3:Y2.cell? ⟨gs,0,none⟩=some (.bool sn)/\Y2.cell? ⟨gs,1,none⟩=some (.slice sA sk sc)/\Y2.cell? ⟨gs,2,none⟩=some (.bool sm)/\Y2.cell? ⟨gs,3,none⟩=some (.slice sB sj sd)/\Y2.cell? ⟨gx,1,none⟩=some (.slice (some ⟨gd,C,none⟩) i c2)/\Y2.cell? ⟨gd,C+j*4,none⟩=some (.bool dn)/\Y2.cell? ⟨gd,C+j*4+1,none⟩=some (.slice dA dk dc)/\Y2.cell? ⟨gd,C+j*4+2,none⟩=some (.bool dm)/\Y2.cell? ⟨gd,C+j*4+3,none⟩=some (.slice dB dj dd):=by
        obtain⟨p0,p1,p2,p3,p4,p5,p6,p7,p8⟩:=u.out _ O;refine⟨I _ _ _ (λk' e=>by have:=n7 k' e;omega) p0,I _ _ _ (λk' e=>by have:=n7 k' e;omega) p1,I _ _ _ (λk' e=>by have:=n7 k' e;omega) p2,I _ _ _ (λk' e=>by have:=n7 k' e;omega) p3,I _ _ _ (λk' e=>by have:=g6 k' e;omega) p4,I _ _ _ (λk' e=>by have:=g6 k' e;omega) p5,I _ _ _ (λk' e=>by have:=g6 k' e;omega) p6,I _ _ _ (λk' e=>by have:=g6 k' e;omega) p7,I _ _ _ (λk' e=>by have:=g6 k' e;omega) p8⟩
       refine hK.out _ _ (λ_=>n3) ?_;clear hK K D5 I
       try simp only[Qa,Zhf,Zgs,Zg9]
       refine Zgt 1 [10] rfl Gi n3 ?_
       (refine tkA ?_;try simp only[Qa,Zhf,Zgs,Zg9,Gr,Gq,Gp])
       refine tk0 ?_;refine wpAnyL_fin ?_;replace g2:=Za g2;replace n6:=Za n6;clear n3 I0 u hxs V O a3 d8 d5 U C4 e5 x7 J1 g6 n7 B5 E8 hT a8 h6 D2 l8 s0 s1 s2 s3 y0 y1 y2 y3 C2 x6 d0 d1 d2 d3 hD z4 hs B6 l9 q4 d6 hl b4 c0 a0 c5;obtain⟨l0,l1,l2,l3,-⟩:=t8.out.four;have G0:=Zc s9.out f.out;have H0:Y2.cell? ⟨gx,1,none⟩=some (.slice (some ⟨gd,C,none⟩) i c2):=by rw[G0.cell];rfl
       obtain⟨dn,dA,dk,dc,dm,dB,dj,dd,⟨d0,d1,d2,d3⟩,hD⟩:=(d7.out.below s9.out).atS J;rw[Zq6 J]at hD;replace hD:=Za hD;obtain⟨go,oo,on_,oA,ok,oc,om,oB,oj,od,rfl,⟨o0,o1,o2,o3⟩,hO⟩:=n6.out.at_ (Qn j);rw[Zmd (Qn j)]at hO;replace hO:=Za hO;have x4:=n6.out.cap;unfold maxLen at x4;have bjs:(j:Int)<((j:Int)+1):=Gk;have K4:(j:Int)<((j+1:Nat):Int):=Gk;have bji:(j:Int)<(i:Int):=Gk;go_wp2_with fail;obtain⟨X0,U⟩:=Gz Y2.drew;have V:Below Y2.heap.size Y2 X0:=by rw[<- U];exact Zf (Qb _ _) 1
       have u:Hid (∀ wx,Below Y2.heap.size Y2 wx->wx.cell? ⟨gl,0,none⟩=some (.bool ln)/\wx.cell? ⟨gl,1,none⟩=some (.slice lA lk lc)/\wx.cell? ⟨gl,2,none⟩=some (.bool lm)/\wx.cell? ⟨gl,3,none⟩=some (.slice lB lj ld)/\wx.cell? ⟨go,oo+j*4,none⟩=some (.bool on_)/\wx.cell? ⟨go,oo+j*4+1,none⟩=some (.slice oA ok oc)/\wx.cell? ⟨go,oo+j*4+2,none⟩=some (.bool om)/\wx.cell? ⟨go,oo+j*4+3,none⟩=some (.slice oB oj od)/\wx.cell? ⟨gx,1,none⟩=some (.slice (some ⟨gd,C,none⟩) i c2)/\wx.cell? ⟨gd,C+j*4,none⟩=some (.bool dn)/\wx.cell? ⟨gd,C+j*4+1,none⟩=some (.slice dA dk dc)/\wx.cell? ⟨gd,C+j*4+2,none⟩=some (.bool dm)/\wx.cell? ⟨gd,C+j*4+3,none⟩=some (.slice dB dj dd)):=Za (λwx f=>⟨Zb f l0,Zb f l1,Zb f l2,Zb f l3,Zb f o0,Zb f o1,Zb f o2,Zb f o3,Zb f H0,Zb f d0,Zb f d1,Zb f d2,Zb f d3⟩);refine wp_heldS [17] hmx u (by rw[U];exact V) (λhxs=>?_);rw[U];refine Zke 14 [0,1,2,3,4,5,6,7,8,9,10,11,12,13] rfl Gi (u.out _ V) ?_
       iterate 14 (refine tkA ?_;try simp only[Qa,Zhf,Zgs,Zg9,Gr,Gq,Gp])
       refine tk0 ?_;obtain⟨Y1,T⟩:=Gz (X0.alloc (.cells #[.bool on_,.slice oA ok oc,.bool om,.slice oB oj od,.bool dn,.slice dA dk dc,.bool dm,.slice dB dj dd] 73));obtain⟨g5,a2⟩:=Gz X0.heap.size;have d5:Below X0.heap.size X0 Y1:=by rw[<- T];exact(Qb _ _).alloc (Qc _) _
       have d8:Blk Y1 g5 73 #[.bool on_,.slice oA ok oc,.bool om,.slice oB oj od,.bool dn,.slice dA dk dc,.bool dm,.slice dB dj dd]:=by rw[<- T,<- a2];exact Qd _ _ _
       have O:Below Y2.heap.size Y2 Y1:=Gs V d5;refine wpAnyL_o 14 λK hK=>?_;go_simp;(try rw[T]);(try rw[a2]);refine hK.out _ _ (λ_=>u.out _ O) ?_;clear hK K T a2
       try simp only[Qa,Zhf,Zgs,Zg9]
       refine wpAnyL_o 15 λK hK=>?_;go_simp;refine(Zcf on_ oA ok oc om oB oj od (lQ AQ i j) (some ⟨g5,0,none⟩) 2 2 [lQ AQ i j,dQ AQ j] Y1 (hO.out.below O) (FL.pair2 d8 (hO.out.below O) (hD.out.below O)) Gk (Zmt hF.out a1 J y.out).1 (Zmt hF.out a1 J y.out).2).mono ?_;rintro e w5 ⟨a5,an,aA,ak,ac,am,aB,aj,ad,rfl,hT⟩;have a3:=Gs O a5;refine hK.out _ _ (λ_=>u.out _ a3) ?_;clear hK K
       try simp only[Qa,Zhf,Zgs,Zg9]
       refine wpAnyL_o 16 λK hK=>?_;go_simp;refine(Ze4 ln lm an am lA lB aA aB lk lc lj ld ak ac aj ad _ _ w5 (G6.out.below a3) hT (Zxm hF.out a1 J y.out).1 (Zxm hF.out a1 J y.out).2).mono ?_;rintro e w6 ⟨y4,bn,bA,bk,bc,bm,bB,bj,bd,rfl,hU⟩;have g7:=Gs a3 y4;refine hK.out _ _ (λ_=>u.out _ g7) ?_;clear hK K
       try simp only[Qa,Zhf,Zgs,Zg9]
       have b0:Below Y2.heap.size Y2 w6:=g7;have c4:=Zc b0 t8.out;obtain⟨f0,f1,f2,f3,w1,y7,v8,z9⟩:=c4.four;obtain⟨W7,p9,p7,e9,s7⟩:=Zau bn bA bk bc bm bB bj bd c4;have n4:=Za (hU.keptN e9 c4 (Za6 _ _ _ _ _ _ _ _));have A9:=Za ((g2.out.kept b0).keptG c4 (Za6 _ _ _ _ _ _ _ _) (λe=>by have h8:=g2.out.row_ge gl e;omega) e9);have z7:Hid (Kept (λg=>g=gl) W2 W7):=Za ((t0.out.below b0).trans e9);replace p7:=Za p7;clear e9 hU hT;refine Zu (i:=17) rfl Gi Gi (λK hK=>?_);go_simp;(try rw[p9]);refine hK.out _ _ ?_;clear hK K
       try simp only[Qa,Zhf,Zgs,Zg9]
       refine wpAnyL_fin ?_;clear p9 f0 f1 f2 f3 w1 y7 v8 z9 c4 u hxs V O a3 g7 b0 d8 d5 U
       have z6:Hid (Fr W7 bn bA bk bc bm bB bj bd (Zr AQ (j+1) i i)):=Za (by
        rw[Zmz hF.out.sym J (Qc _) a1 (y.out.ne J)];exact n4.out)
       have G5:Hid (OwnF 73 W7 W2.heap.size (.slice (some ⟨go,oo,none⟩) (j+1) cp) (Zjr AQ i (j+1))):=Za (A9.out);clear n4;go_wp2_with fail
       go_roundg (i-(j+1))
       case measure=>omega
       case rel=>exact⟨j+1,_,_,_,_,_,_,_,_,by omega,by go_num,G5.out,p7.out,z6,z7.out⟩
      | succ t3 =>
       obtain rfl:t3=k-(j+1):=Gk;have g4:j<k:=Gk;have t3:decide ((j:Int)<(k:Int))=true:=Gv Gk;have bjk:(j:Int)<(k:Int):=Gk;have bji:(j:Int)<(i:Int):=Gk;have K5:(k:Int)<(i:Int):=Gk;obtain⟨go,oo,on_,oA,ok,oc,om,oB,oj,od,rfl,⟨o0,o1,o2,o3⟩,hO⟩:=(c5.out.below q4.out).at_ g4;obtain⟨g1,F6,A',n',c',rfl,ck,k1⟩:=(o8.out.below d6.out).at_ J;rw[Znb J]at k1;have D6:n'=k:=by rw[<- k1.len,Zgb]
       rw[D6]at k1 ck;clear D6 n';have I6:=k1.cap;unfold maxLen at I6;obtain⟨gq,oq,qn,qA,qk,qc,qm,qB,qj,qd,rfl,⟨q0,q1,q2,q3⟩,hQ⟩:=k1.at_ g4;obtain⟨gd,C,dn,dA,dk,dc,dm,dB,dj,dd,rfl,⟨d0,d1,d2,d3⟩,hD⟩:=(d7.out.below d6.out).at_ (show j<i by omega);rw[Zmd g4]at hO hQ;rw[Zq6 (show j<i by omega)]at hD;replace hO:=Za hO;replace hQ:=Za hQ;replace hD:=Za hD;clear k1;go_wp2_with fail;obtain⟨X0,U⟩:=Gz wj.drew;have V:Below wj.heap.size wj X0:=by rw[<- U];exact Zf (Qb _ _) 1
       have u:Hid (∀ wx,Below wj.heap.size wj wx->wx.cell? ⟨gs,0,none⟩=some (.bool sn)/\wx.cell? ⟨gs,1,none⟩=some (.slice sA sk sc)/\wx.cell? ⟨gs,2,none⟩=some (.bool sm)/\wx.cell? ⟨gs,3,none⟩=some (.slice sB sj sd)/\wx.cell? ⟨go,oo+j*4,none⟩=some (.bool on_)/\wx.cell? ⟨go,oo+j*4+1,none⟩=some (.slice oA ok oc)/\wx.cell? ⟨go,oo+j*4+2,none⟩=some (.bool om)/\wx.cell? ⟨go,oo+j*4+3,none⟩=some (.slice oB oj od)/\wx.cell? ⟨gx,0,none⟩=some (.slice (some ⟨g1,F6,none⟩) i c1)/\wx.cell? ⟨g1,F6+k,none⟩=some (.slice (some ⟨gq,oq,none⟩) k c')/\wx.cell? ⟨gq,oq+j*4,none⟩=some (.bool qn)/\wx.cell? ⟨gq,oq+j*4+1,none⟩=some (.slice qA qk qc)/\wx.cell? ⟨gq,oq+j*4+2,none⟩=some (.bool qm)/\wx.cell? ⟨gq,oq+j*4+3,none⟩=some (.slice qB qj qd)/\wx.cell? ⟨gx,1,none⟩=some (.slice (some ⟨gd,C,none⟩) i c2)/\wx.cell? ⟨gd,C+j*4,none⟩=some (.bool dn)/\wx.cell? ⟨gd,C+j*4+1,none⟩=some (.slice dA dk dc)/\wx.cell? ⟨gd,C+j*4+2,none⟩=some (.bool dm)/\wx.cell? ⟨gd,C+j*4+3,none⟩=some (.slice dB dj dd)):=Za (λwx f=>⟨Zb f s0,Zb f s1,Zb f s2,Zb f s3,Zb f o0,Zb f o1,Zb f o2,Zb f o3,Zb f C2,Zb f ck,Zb f q0,Zb f q1,Zb f q2,Zb f q3,Zb f x6,Zb f d0,Zb f d1,Zb f d2,Zb f d3⟩);refine wp_heldS [21] hmx u (by rw[U];exact V) (λhxs=>?_);rw[U];refine Zke 18 [0,1,2,3,4,5,6,7,8,9,10,11,12,13,14,15,16,17] rfl Gi (u.out _ V) ?_
       iterate 18 (refine tkA ?_;try simp only[Qa,Zhf,Zgs,Zg9,Gr,Gq,Gp])
       refine tk0 ?_;obtain⟨Y1,T⟩:=Gz (X0.alloc (.cells #[.bool qn,.slice qA qk qc,.bool qm,.slice qB qj qd,.bool dn,.slice dA dk dc,.bool dm,.slice dB dj dd] 73));obtain⟨g5,a2⟩:=Gz X0.heap.size;have d5:Below X0.heap.size X0 Y1:=by rw[<- T];exact(Qb _ _).alloc (Qc _) _
       have d8:Blk Y1 g5 73 #[.bool qn,.slice qA qk qc,.bool qm,.slice qB qj qd,.bool dn,.slice dA dk dc,.bool dm,.slice dB dj dd]:=by rw[<- T,<- a2];exact Qd _ _ _
       have O:Below wj.heap.size wj Y1:=Gs V d5;refine wpAnyL_o 18 λK hK=>?_;go_simp;(try rw[T]);(try rw[a2]);refine hK.out _ _ (λ_=>u.out _ O) ?_;clear hK K T a2
       try simp only[Qa,Zhf,Zgs,Zg9]
       refine wpAnyL_o 19 λK hK=>?_;go_simp;refine(Zcf on_ oA ok oc om oB oj od (lQ AQ i j) (some ⟨g5,0,none⟩) 2 2 [lQ AQ k j,dQ AQ j] Y1 (hO.out.below O) (FL.pair2 d8 (hQ.out.below O) (hD.out.below O)) Gk (Zp1 hF.out a1 J g4 y.out).1 (Zp1 hF.out a1 J g4 y.out).2).mono ?_;rintro e w5 ⟨a5,an,aA,ak,ac,am,aB,aj,ad,rfl,hT⟩;have a3:=Gs O a5;refine hK.out _ _ (λ_=>u.out _ a3) ?_;clear hK K
       try simp only[Qa,Zhf,Zgs,Zg9]
       refine wpAnyL_o 20 λK hK=>?_;go_simp;refine(Ze4 sn sm an am sA sB aA aB sk sc sj sd ak ac aj ad _ _ w5 (hs.out.below a3) hT (Z0n hF.out a1 J g4 y.out).1 (Z0n hF.out a1 J g4 y.out).2).mono ?_;rintro e w6 ⟨y4,bn,bA,bk,bc,bm,bB,bj,bd,rfl,hU⟩;have g7:=Gs a3 y4;refine hK.out _ _ (λ_=>u.out _ g7) ?_;clear hK K
       try simp only[Qa,Zhf,Zgs,Zg9]
       have b0:Below wj.heap.size wj w6:=g7;have c4:=Zc b0 z4;obtain⟨f0,f1,f2,f3,w1,y7,v8,z9⟩:=c4.four;obtain⟨W7,p9,p7,e9,s7⟩:=Zau bn bA bk bc bm bB bj bd c4;have n4:=Za (hU.keptN e9 c4 (Za6 _ _ _ _ _ _ _ _));have z7:Hid (Kept (λg=>g=gs) W4 W7):=Za ((B6.below b0).trans e9);replace p7:=Za p7;clear e9 hU hT;refine Zu (i:=21) rfl Gi Gi (λK hK=>?_);go_simp;(try rw[p9]);refine hK.out _ _ ?_;clear hK K
       try simp only[Qa,Zhf,Zgs,Zg9]
       refine wpAnyL_fin ?_;clear p9 f0 f1 f2 f3 w1 y7 v8 z9 c4 u hxs V O a3 g7 b0 d8 d5 U
       have z6:Hid (Fr W7 bn bA bk bc bm bB bj bd (Zr AQ (j+1) i k)):=Za (by
        rw[Zmz hF.out.sym g4 Gk a1 (y.out.ne Gk)];exact n4.out)
       clear n4;go_wp2_with fail
       go_roundg (k-(j+1))
       case measure=>omega
       case rel=>exact⟨j+1,_,_,_,_,_,_,_,_,by omega,by go_num,p7.out,z6,z7.out⟩
theorem fCmp_ok(na nb na' nb':Bool)(A B A' B':Option Addr)(n c m d n' c' m' d':Nat)(a b:Rat)(w:World)(ha:Fr w na A n c nb B m d a)(hb:Fr w na' A' n' c' nb' B' m' d' b)(sa:Sm a)(sb:Sm b) :
    Calls Tryz.prog 106 #[.agg #[.bool na,.slice A n c,.bool nb,.slice B m d],.agg #[.bool na',.slice A' n' c',.bool nb',.slice B' m' d']] w λe w'=>e=.returned (.tuple #[.int .i64 (cmpQ a b),.int .i64 0])/\Below w.heap.size w w':=by
 rw[<- Z19];obtain⟨R,hR⟩:=Gz (Zdb (a.num*b.den) (b.num*a.den));rw[hR];replace hR:=Za hR;have hmx:=Gt;have h1:=Za (Zbs sa.1 sb.dn);have h2:=Za (Zbs sb.1 sa.dn);obtain⟨W0,Y,J,⟨q0,q1,q2⟩,s0⟩:=Zb0 w 41 #[.bool na,.slice A n c,.bool nb,.slice B m d] 41 #[.bool na',.slice A' n' c',.bool nb',.slice B' m' d'] 26 #[.int .i64 0];have hA:=Za (ha.below J);have hD:=Za (hb.below J);clear ha hb sa sb;obtain⟨a0,a1,a2,a3,-⟩:=q0.four;have hq:=Za (Qq q0 (Qq q1 q2));clear q0 q1 q2
 go_enter_defers Tryz.func106,Tryz.ntmps106
 go_wp2_with fail;refine(Zek na nb A B n c m d a W0 hA.out).mono ?_;rintro e w1 ⟨rfl,I⟩;have O:Below w.heap.size w w1:=Gs J I;have s1:W0.heap.size<=w1.heap.size:=I.size;replace hA:=Za (hA.out.below I);replace hD:=Za (hD.out.below I);obtain⟨q0,q1,q2⟩:=hq.out;replace q0:=Zc I q0;replace q1:=Zc I q1;replace q2:=Zc I q2;clear Y hq I J a0 a1 a2 a3;obtain⟨b0,b1,b2,b3,-⟩:=q1.four;have hq:=Za (Qq q0 (Qq q1 q2));clear q0 q1 q2;go_wp2_with fail;refine(Zfn w1).mono ?_;rintro e w1 ⟨rfl,rfl⟩;go_wp2_with fail;refine(Zek na' nb' A' B' n' c' m' d' b w1 hD.out).mono ?_;rintro e w2 ⟨rfl,C⟩;have hB:=Za (Gs O C);have sz:=Za hB.out.size;have s2:w1.heap.size<=w2.heap.size:=C.size;replace hA:=Za (hA.out.below C);replace hD:=Za (hD.out.below C);obtain⟨q0,q1,q2⟩:=hq.out;replace q0:=Za (Zc C q0);replace q1:=Za (Zc C q1);replace q2:=Za (Zc C q2);clear hq C O b0 b1 b2 b3;go_wp2_with fail;refine(Zfn w2).mono ?_;rintro e w2 ⟨rfl,rfl⟩;obtain⟨a0,a1,a2,a3,-⟩:=q0.out.four;obtain⟨b0,b1,b2,b3,-⟩:=q1.out.four;go_wp2_with fail
 refine Zz [10] (λW'=>W'.cell? ⟨w.heap.size,0,none⟩=some (.bool na)/\W'.cell? ⟨w.heap.size,1,none⟩=some (.slice A n c)/\W'.cell? ⟨w.heap.size,2,none⟩=some (.bool nb)/\W'.cell? ⟨w.heap.size,3,none⟩=some (.slice B m d)/\W'.cell? ⟨w.heap.size+1,0,none⟩=some (.bool na')/\W'.cell? ⟨w.heap.size+1,1,none⟩=some (.slice A' n' c')/\W'.cell? ⟨w.heap.size+1,2,none⟩=some (.bool nb')/\W'.cell? ⟨w.heap.size+1,3,none⟩=some (.slice B' m' d')) hmx ⟨a0,a1,a2,a3,b0,b1,b2,b3⟩ (λ_=>?_);refine Zke 4 [0,1,3,4] rfl Gi ⟨a0,a1,a2,a3,b0,b1,b2,b3⟩ ?_
 iterate 4 (refine tkA ?_;try simp only[Qa,Zhf,Zgs,Zg9,Gr,Gq,Gp])
 refine tk0 ?_;refine wpAnyL_o 2 λK hK=>?_;go_simp;refine(Zfg na nb na' nb' A B A' B' n c m d n' c' m' d' a b w2.drew hA.out hD.out h1.out).mono ?_;rintro e w3 ⟨h,nu,U,k1,u,rfl,hU⟩;replace h:=Zt h;replace hU:=Za hU;replace q0:=Gm h q0;replace q1:=Gm h q1;replace q2:=Gm h q2;replace hA:=Za (hA.out.below h);replace hD:=Za (hD.out.below h);replace hB:=Za (hB.out.trans (h.mono sz.out));replace sz:=Za (Qh sz.out h.size);clear a0 a1 a2 a3 b0 b1 b2 b3;obtain⟨a0,a1,a2,a3,-⟩:=q0.out.four;obtain⟨b0,b1,b2,b3,-⟩:=q1.out.four;clear h;refine hK.out _ _ (λ_=>⟨a0,a1,a2,a3,b0,b1,b2,b3⟩) ?_;clear hK K
 try simp only[Qa,Zhf,Zgs,Zg9]
 refine wpAnyL_o 5 λK hK=>?_;go_simp;refine(Zfg na' nb' na nb A' B' A B n' c' m' d' n c m d b a w3 hD.out hA.out h2.out).mono ?_;rintro e w4 ⟨o,nv,V,k2,v,rfl,hV⟩;replace hU:=Za (hU.out.below o);replace hV:=Za hV;replace q0:=Gm o q0;replace q1:=Gm o q1;replace q2:=Gm o q2;replace hA:=Za (hA.out.below o);replace hD:=Za (hD.out.below o);replace hB:=Za (hB.out.trans (o.mono sz.out));replace sz:=Za (Qh sz.out o.size);clear a0 a1 a2 a3 b0 b1 b2 b3;obtain⟨a0,a1,a2,a3,-⟩:=q0.out.four;obtain⟨b0,b1,b2,b3,-⟩:=q1.out.four;clear o;refine hK.out _ _ (λ_=>⟨a0,a1,a2,a3,b0,b1,b2,b3⟩) ?_;clear hK K
 try simp only[Qa,Zhf,Zgs,Zg9]
 refine wpAnyL_o 6 λK hK=>?_;go_simp;refine(Zr0 nu nv U V k1 u k2 v _ _ w4 hU.out hV.out).mono ?_;rw[hR.out];rintro e w5 ⟨rfl,y⟩;replace q0:=Gm y q0;replace q1:=Gm y q1;replace q2:=Gm y q2;replace hA:=Za (hA.out.below y);replace hD:=Za (hD.out.below y);replace hB:=Za (hB.out.trans (y.mono sz.out));replace sz:=Za (Qh sz.out y.size);clear a0 a1 a2 a3 b0 b1 b2 b3;obtain⟨a0,a1,a2,a3,-⟩:=q0.out.four;obtain⟨b0,b1,b2,b3,-⟩:=q1.out.four;clear y;have x0:=q2.out.cell 0;have f0:=q2.out.frozen 0;simp at x0;refine hK.out _ _ (λ_=>⟨a0,a1,a2,a3,b0,b1,b2,b3⟩) ?_;clear hK K
 try simp only[Qa,Zhf,Zgs,Zg9]
 refine Zke 3 [7,8,9] rfl Gi ⟨a0,a1,a2,a3,b0,b1,b2,b3⟩ ?_
 iterate 3 (refine tkA ?_;try simp only[Qa,Zhf,Zgs,Zg9,Gr,Gq,Gp])
 refine tk0 ?_;refine Zu (i:=10) rfl Gi Gi (λK hK=>?_);go_simp;obtain⟨W6,T,a5,a4,kW,kB,s6⟩:=Z8 0 hB.out Gk q2.out;rw[T];refine hK.out _ _ ?_;clear hK K
 try simp only[Qa,Zhf,Zgs,Zg9]
 refine wpAnyL_fin ?_;have r4:=a4.cell 0;simp at r4;go_wp2_with fail;refine leaves_cons (f:=147) (args:=#[.pointer (some ⟨w.heap.size+1+1,0,none⟩)]) Gh Ge ?_;refine(Zhe _ _).mono ?_;rintro e u' w'' ⟨rfl,rfl,rfl⟩;refine⟨.tuple #[.int .i64 R,.int .i64 0],by simp[results,Tryz.results106,go_sem,r4],rfl,a5⟩
def LookPost(rs:List RX)(w:World)(e:Ending)(w':World):Prop:=
 Below w.heap.size w w'/\((Zat rs=0/\∃ v1 v2 L,e=.returned (.agg #[v1,v2])/\FacM 97 73 w' w.heap.size v1 v2 L (Zhh (Zh (qM rs)) rs.length) (dsL (Zh (qM rs)) rs.length)) \/
  (Zat rs≠0/\e=.panicked [{ v:=.iface 117 (.agg #[.int .i64 (Zat rs)]),recovered:=false }]))
theorem LookPost.fall{rs:List RX}{w w':World}{E:Int}(hb:Below w.heap.size w w')(h:Zat rs=E)(h0:E≠0):LookPost rs w (.panicked [{ v:=.iface 117 (.agg #[.int .i64 E]),recovered:=false }]) w':=by
 subst h;exact⟨hb,.inr ⟨h0,rfl⟩⟩
theorem IR{G:Prop}(h:G:=by
 go_wp2_with fail
 go_roundg (j-(k+1))
 case measure=>omega
 case rel=>exact⟨k+1,by omega,by go_num,eM,aG.out⟩):G:=h
theorem Ig{G:Prop}(h:G:=by
 rintro e w6 ⟨rfl,rfl⟩;go_wp2_with fail;exact⟨rfl,LookPost.fall (Gs aw ab) hE.out Gj⟩):G:=h
theorem Ip{G:Prop}(h:G:=by
 go_wp2_with fail
 go_roundg (n-(i+1))
 case measure=>omega
 case rel=>exact⟨i+1,by omega,by go_num,ar,Gs aW aa⟩):G:=h
theorem Zgj(A:Option Addr)(n c:Nat)(rs:List RX)(w:World)(h:MXL w A n c rs)(hF:FacC rs) :
    Calls Tryz.prog 64 #[.slice A n c] w (LookPost rs w):=by
 have hmx:=Gt;have hl:=Za h.1;have e6:=h.2.1;have d3:=h.2.2.1;unfold maxLen at d3;obtain⟨W0,a1,aw,q0,s0⟩:=Zam w 99 #[.slice none 0 0,.slice none 0 0];obtain⟨gx,Y⟩:=Gz w.heap.size;by_cases h6:6<n
 ·have t1:decide ((n:Int)<=6)=false:=Gu Gk
  have hE:Hid (Zat rs=4):=Za (Zf2 (by unfold long6;rw[hl.out,Gv h6];rfl));clear h;go_in;go_wp2_with fail;(try rw[a1]);refine(Zai 4 W0).mono ?_;rintro e w6 ⟨rfl,rfl⟩;go_wp2_with fail;exact⟨rfl,LookPost.fall aw hE.out Gj⟩
 have t1:decide ((n:Int)<=6)=true:=Gv Gk;obtain⟨x,hx⟩:=Gz (rs.any RX.long6);have T:long6 rs=x:=by unfold long6;rw[hl.out,Gu h6,hx];rfl
 have hC:=Za (λW1 (hb:Below w.heap.size w W1)=>Zwx A n c rs W1 (h.below hb) x hx);replace hx:=Za hx;replace T:=Za T;cases x
 case true =>
  have hE:Hid (Zat rs=4):=Za (Zf2 T.out);clear h;go_in;go_wp2_with fail;(try rw[a1]);refine(hC.out _ aw).mono ?_;rintro e w1 ⟨rfl,ab⟩;go_wp2_with fail;refine(Zai 4 w1).mono ?_;exact Ig
 by_cases a0:n=0
 ·subst a0
  have hE:Hid (Zat rs=8):=Za (Zsr T.out hl.out);clear h;go_in;go_wp2_with fail;(try rw[a1]);refine(hC.out _ aw).mono ?_;rintro e w1 ⟨rfl,ab⟩;go_wp2_with fail;refine(Zbi 4 w1).mono ?_;rintro e w1 ⟨rfl,rfl⟩;go_wp2_with fail;refine(Zai 8 w1).mono ?_;exact Ig
 have t2:decide ((0:Int)<(n:Int))=true:=Gv Gk;have e1:decide (0<n)=true:=Gv Gk;have hH:=Za h;have b7:=Za q0;replace a0:=Za a0;clear h q0;go_in;go_wp2_with fail;(try rw[a1]);refine(hC.out _ aw).mono ?_;rintro e w1 ⟨rfl,ab⟩;have b5:=Gs aw ab;have b9:=Gm ab b7;clear b7 hC ab aw a1 s0;go_wp2_with fail;refine(Zbi 4 w1).mono ?_;rintro e w1 ⟨rfl,rfl⟩;go_wp2_with fail;refine(Zbi 8 w1).mono ?_;rintro e w1 ⟨rfl,rfl⟩;go_wp2_with fail
 go_loopg [27] n (λt iv wr=>∃ i:Nat,i+t=n/\iv=.int .i64 i/\Hid (∀ j r,j<i->rs[j]?=some r->Zc6 rs.length r=true)/\Below w1.heap.size w1 wr)
 case atStart=>exact⟨0,by omega,rfl,Za (λj r hj=>by omega),Qb _ _⟩
 case round =>
  obtain⟨wi,rfl⟩:=Gy wr;obtain⟨i,e7,rfl,b0,aW⟩:=hrel;have O:=Gs b5 aW;cases gk with
  | succ t =>
   obtain rfl:t=n-(i+1):=Gk;have d7:i<n:=Gk;have t3:decide ((i:Int)<(n:Int))=true:=Gv Gk;have bi:(i:Int)<(n:Int):=Gk;obtain⟨g,o,r,rfl,he,c0,hL⟩:=(hH.out.below O).at_ d7;have c9:=hL.nlenC;unfold maxLen at c9;have bad:Hid (Zc6 rs.length r=false->Zat rs=8):=Za (λhf=>Zr9 T.out (by rw[hl.out];exact a0.out) (List.mem_of_getElem? he) hf)
   have good:Hid (Zc6 rs.length r=true->∀ j r',j<i+1->rs[j]?=some r'->Zc6 rs.length r'=true):=Za (λhf j r' hj he'=>by
    rcases Qf j i with h'|h';exact b0.out j r' h' he';obtain rfl:j=i:=Gk;rw[he]at he';cases he';exact hf)
   replace he:=Za he;by_cases hq:r.n=n
   case neg =>
    have t4:((r.n:Int) == (n:Int))=false:=beq_eq_false_iff_ne.2 Gk;have d5:decide (r.n=n)=false:=by simpa using hq
    have hE:Hid (Zat rs=8):=Za (bad.out (by unfold Zc6;rw[hl.out,Gu hq];rfl));replace hq:=Za hq;clear hL;go_wp2_with fail;refine(Zai 8 wi).mono ?_;rintro e w6 ⟨rfl,rfl⟩;go_wp2_with fail;exact⟨rfl,LookPost.fall O hE.out Gj⟩
   have t4:((r.n:Int) == (n:Int))=true:=beq_iff_eq.2 Gk;have d5:decide (r.n=n)=true:=by simpa using hq
   obtain⟨y,hy⟩:=Gz (Zcz r.es);have hV:=Za (λW1 (hb:Below wi.heap.size wi W1)=>Zlq r.A r.n r.c r.es W1 (hL.below hb) y hy);have d6:=Za hq;replace hq:=Za hq;clear hL;cases y
   ·have hE:Hid (Zat rs=8):=Za (bad.out (by unfold Zc6;rw[hy];simp))
    clear hy;go_wp2_with fail;refine(hV.out _ (by first|exact Qb _ _|exact Zf (Qb _ _) _)).mono ?_;rintro e' w2 ⟨rfl,aa⟩;go_wp2_with fail;refine(Zai 8 w2).mono ?_;rintro e w6 ⟨rfl,rfl⟩;go_wp2_with fail;exact⟨rfl,LookPost.fall (Gs O aa) hE.out Gj⟩
   have ar:=Za (good.out (by unfold Zc6;rw[hy,hl.out,d6.out,Gv rfl];rfl));clear hy;go_wp2_with fail;refine(hV.out _ (by first|exact Qb _ _|exact Zf (Qb _ _) _)).mono ?_;rintro e' w2 ⟨rfl,aa⟩;go_wp2_with fail;refine(Zbi 8 w2).mono ?_;rintro e w2 ⟨rfl,rfl⟩;exact Ip
  | zero =>
   obtain rfl:i=n:=Gk;have t3:decide ((i:Int)<(i:Int))=false:=Gh
   have hV:Hid (covV rs):=Za ⟨T.out,by rw[hl.out];exact a0.out,by
    rw[Qu];intro r hr;obtain⟨j,hj,e⟩:=Qs hr;exact b0.out j r (by rw[hl.out]at hj;exact hj) (by rw[Qj hj,e])⟩
   have c4:=Gm aW b9;have hM:=Za (hV.out.good (hH.out.below O));have c3:Hid (∀ a b,Sm (Zh (qM rs) a b)):=Za (λa b=>(hV.out.small64 hH.out).smC Gj a b);have a2:Hid (∀ a,a<i->((qM rs)[a]?.getD []).length=i):=Za (λa ha=>hV.out.row hH.out a ha);clear b9;go_wp2_with fail
   go_loopg [44] i (λt jv wr=>∃ j:Nat,j+t=i/\jv=.int .i64 j/\Hid (∀ a b,a<j->b<a->Zh (qM rs) a b=Zh (qM rs) b a)/\Below wi.heap.size wi wr)
   case atStart=>exact⟨0,by omega,rfl,Za (λa b ha=>by omega),Qb _ _⟩
   case round =>
    obtain⟨wj,rfl⟩:=Gy wr;obtain⟨j,e5,rfl,b6,u⟩:=hrel;have f:=Gs O u;cases gk with
    | zero =>
     obtain rfl:j=i:=Gk;have t4:decide ((j:Int)<(j:Int))=false:=Gh
     have hs:Hid (Zhm (qM rs)=true):=Za (by
      unfold Zhm;rw[decide_eq_true_eq];intro a ha b hb;rw[show (qM rs).length=j by unfold qM;rw[Qe,hl.out]]at ha;exact b6.out a b ha hb)
     have d4:Hid (FacP (Zh (qM rs)) j):=Za (by have:=hF hV.out hs.out;rw[hl.out]at this;exact this);go_wp2_with fail;refine(Zvd A j c (qM rs) wj (hM.out.below u) Gk a2.out d4.out).mono ?_;rintro e w5 ⟨U,⟨hp,v1,v2,L,rfl,a3⟩|⟨hn,rfl⟩⟩
     ·have I:=Zc (Gs u U) c4.out
      rw[Y]at I;obtain⟨A1,c1,rfl,-⟩:=a3.1.mflA;obtain⟨A2,c2,rfl,-⟩:=a3.2.1.fl;rw[Zf3,Zj3]at a3 ⊢;have y0:w5.cell? ⟨gx,0,none⟩=some (.slice none 0 0):=by rw[I.cell];rfl
      have y1:w5.cell? ⟨gx,1,none⟩=some (.slice none 0 0):=by rw[I.cell];rfl
      have z0:=I.frozen 0;have z1:=I.frozen 1;obtain⟨X,hX⟩:∃ X,(w5.setCell ⟨gx,0,none⟩ (.slice A1 j c1)).setCell ⟨gx,1,none⟩ (.slice A2 j c2)=X:=⟨_,rfl⟩;have b3:Kept (λk=>k=gx) w5 X:=by rw[<- hX];exact Kept.set_ (G:=λk=>k=gx) (Kept.set_ (G:=λk=>k=gx) (Qk _ _) (p:=⟨gx,0,none⟩) (.inl rfl) _) (p:=⟨gx,1,none⟩) (.inl rfl) _
      have b2:Blk X gx 99 #[.slice A1 j c1,.slice A2 j c2]:=by rw[<- hX];exact(I.set_ 0 (.slice A1 j c1)).set_ 1 (.slice A2 j c2)
      have x0:X.cell? ⟨gx,0,none⟩=some (.slice A1 j c1):=by rw[b2.cell];rfl
      have x1:X.cell? ⟨gx,1,none⟩=some (.slice A2 j c2):=by rw[b2.cell];rfl
      have c6:gx<wj.heap.size:=by have:=c4.out.lt;rw[Y]at this;have:=u.size;omega
      have d9:=Za (a3.box I (Zlg _ _ _ _ _ _) c6 b3);have d8:Hid (Zat rs=0):=Za (hV.out.pos hs.out (by rw[hl.out];exact hp));have aG:Hid (Below w.heap.size w w5):=Za (Gs f U);have d0:Hid (Below w.heap.size w X):=Za (aG.out.trans (b3.to_below (λk e=>by omega) (by have:=aG.out.size;exact this)));have c7:Hid (w.heap.size<=wj.heap.size):=Za f.size;clear a3 b3 b2 I hp;(try rw[Y]);go_wp2_with fail;(try rw[Y]);(try rw[hX]);refine bodyPost_ret (v:=.agg #[.slice A1 j c1,.slice A2 j c2]) (by simp[results,Tryz.results64,go_sem,x0,x1,Y]) rfl ?_;refine⟨d0.out,.inl ⟨d8.out,_,_,L,rfl,?_⟩⟩;rw[hl.out];exact d9.out.lower c7.out
     have hE:Hid (Zat rs=8):=Za (hV.out.neg hs.out (by rw[hl.out];exact hn));go_wp2_with fail;exact⟨rfl,LookPost.fall (Gs f U) hE.out Gj⟩
    | succ t =>
     obtain rfl:t=i-(j+1):=Gk;have a8:j<i:=Gk;have t4:decide ((j:Int)<(i:Int))=true:=Gv Gk;have bj:(j:Int)<(i:Int):=Gk;obtain⟨g,o,A',n',c',rfl,c0,hR⟩:=(hM.out.below u).at_ a8;have c8:i=n':=by rw[<- hR.len];exact(a2.out j a8).symm
     subst c8;have b1:=hR.cap;unfold maxLen at b1;replace hR:=Za hR;go_wp2_with fail
     go_loopg [50] j (λt kv wr=>∃ k:Nat,k+t=j/\kv=.int .i64 k/\Hid (∀ b,b<k->Zh (qM rs) j b=Zh (qM rs) b j)/\Below wj.heap.size wj wr)
     case atStart=>exact⟨0,by omega,rfl,Za (λb hb=>by omega),Qb _ _⟩
     case round =>
      obtain⟨wk,rfl⟩:=Gy wr;obtain⟨k,e2,rfl,b4,V⟩:=hrel;cases gk with
      | zero =>
       obtain rfl:k=j:=Gk;have t5:decide ((k:Int)<(k:Int))=false:=Gh
       have c5:Hid (∀ a b,a<k+1->b<a->Zh (qM rs) a b=Zh (qM rs) b a):=Za (λa b ha hb=>by
        rcases Qf a k with h'|h';exact b6.out a b h' hb;obtain rfl:a=k:=Gk;exact b4.out b hb)
       go_wp2_with fail
       go_roundg (i-(k+1))
       case measure=>omega
       case rel=>exact⟨k+1,by omega,by go_num,c5,Gs u V⟩
      | succ t' =>
       obtain rfl:t'=j-(k+1):=Gk;have e4:k<j:=Gk;have t5:decide ((k:Int)<(j:Int))=true:=Gv Gk;have bk:(k:Int)<(j:Int):=Gk;have bki:(k:Int)<(i:Int):=Gk;have b8:=Gs u V;obtain⟨ga,oa,xn,xA,xk,xc,xm,xB,xj,xd,rfl,⟨r0,r1,r2,r3⟩,hX⟩:=(hR.out.below V).at_ (show k<i by omega);obtain⟨A2,n2,c2,ck,a6⟩:=(hM.out.below b8).atS (show k<i by omega);have e0:i=n2:=by rw[<- a6.len];exact(a2.out k Gk).symm
       subst e0;have a5:=a6.cap;unfold maxLen at a5;obtain⟨gb,ob,yn,yA,yk,yc,ym,yB,yj,yd,rfl,⟨s0,s1,s2,s3⟩,hY⟩:=a6.at_ a8;have eX:((qM rs)[j]?.getD [])[k]?.getD 0=Zh (qM rs) j k:=rfl;have eY:((qM rs)[k]?.getD [])[j]?.getD 0=Zh (qM rs) k j:=rfl;rw[eX]at hX;rw[eY]at hY;replace hX:=Za hX;replace hY:=Za hY;clear eX eY a6;go_wp2_with fail;obtain⟨X0,a9⟩:=Gz wk.drew;have J:Below wk.heap.size wk X0:=by rw[<- a9];exact Zf (Qb _ _) 1
       have C:Hid (∀ wx,Below wk.heap.size wk wx->wx.cell? ⟨ga,oa+k*4,none⟩=some (.bool xn)/\wx.cell? ⟨ga,oa+k*4+1,none⟩=some (.slice xA xk xc)/\wx.cell? ⟨ga,oa+k*4+2,none⟩=some (.bool xm)/\wx.cell? ⟨ga,oa+k*4+3,none⟩=some (.slice xB xj xd)/\wx.cell? ⟨g,o+k,none⟩=some (.slice (some ⟨gb,ob,none⟩) i c2)/\wx.cell? ⟨gb,ob+j*4,none⟩=some (.bool yn)/\wx.cell? ⟨gb,ob+j*4+1,none⟩=some (.slice yA yk yc)/\wx.cell? ⟨gb,ob+j*4+2,none⟩=some (.bool ym)/\wx.cell? ⟨gb,ob+j*4+3,none⟩=some (.slice yB yj yd)):=Za (λwx hbx=>⟨Zb hbx r0,Zb hbx r1,Zb hbx r2,Zb hbx r3,Zb hbx ck,Zb hbx s0,Zb hbx s1,Zb hbx s2,Zb hbx s3⟩);refine wp_heldS [] hmx C (by rw[a9];exact J) (λhxs=>?_);rw[a9];refine Zke 11 [0,1,2,3,4,5,6,7,8,9,10] rfl Gi (C.out _ J) ?_
       iterate 11 (refine tkA ?_;try simp only[Qa,Zhf,Zgs,Zg9,Gr,Gq,Gp])
       refine tk0 ?_;refine wpAnyL_o 11 λK hK=>?_;go_simp;refine(fCmp_ok xn xm yn ym xA xB yA yB xk xc xj xd yk yc yj yd _ _ X0 (hX.out.below J) (hY.out.below J) (c3.out _ _) (c3.out _ _)).mono ?_;rintro e w5 ⟨rfl,U⟩;have a7:=Gs J U;refine hK.out _ _ (λ_=>C.out _ a7) ?_;clear hK K
       try simp only[Qa,Zhf,Zgs,Zg9]
       refine Zgt 5 [12,13,14,15,16] rfl Gi (C.out _ a7) ?_
       iterate 5 (refine tkA ?_;try simp only[Qa,Zhf,Zgs,Zg9,Gr,Gq,Gp])
       refine tk0 ?_;refine wpAnyL_fin ?_;have aG:Hid (Below wj.heap.size wj w5):=Za (Gs V a7);clear C hxs J a7 U a9 r0 r1 r2 r3 s0 s1 s2 s3 ck hX hY;by_cases hq:Zh (qM rs) j k=Zh (qM rs) k j
       ·have hz:cmpQ (Zh (qM rs) j k) (Zh (qM rs) k j)=0:=cmpQ_zero.2 hq
        rw[hz]
        have eM:Hid (∀ b,b<k+1->Zh (qM rs) j b=Zh (qM rs) b j):=Za (λb hb=>by
         rcases Qf b k with h'|h';exact b4.out b h';obtain rfl:b=k:=Gk;exact hq)
        replace hq:=Za hq;replace hz:=Za hz;go_wp2_with fail;refine(Zbi 8 w5).mono ?_;rintro e w5 ⟨rfl,rfl⟩;exact IR
       obtain⟨z,hz⟩:=Gz (cmpQ (Zh (qM rs) j k) (Zh (qM rs) k j));have a4:z≠0:=λe=>hq (cmpQ_zero.1 (by rw[hz];exact e));rw[hz];have t6:(z == 0)=false:=by simpa using a4
       have e3:decide (z=0)=false:=by simpa using a4
       have hE:Hid (Zat rs=8):=Za (hV.out.asym (by
        cases hb:Zhm (qM rs)with
        | false=>rfl
        | true=>exact absurd (symB_iff.1 hb j k (by unfold qM;rw[Qe,hl.out];exact a8) (by unfold qM;rw[Qe,hl.out];omega)) hq))
       replace hq:=Za hq;replace hz:=Za hz;replace a4:=Za a4;go_wp2_with fail;refine(Zai 8 w5).mono ?_;rintro e w6 ⟨rfl,rfl⟩;go_wp2_with fail;exact⟨rfl,LookPost.fall (Gs f aG.out) hE.out Gj⟩
theorem Zv3(A:Option Addr)(n c:Nat)(rs:List RX)(w:World)(h:MXL w A n c rs)(hF:FacC rs)(E:Int)(hE:Zat rs=E) :
    Calls Tryz.prog 35 #[.slice A n c] w λe w'=>e=.returned (.int .i64 E)/\Below w.heap.size w w':=by
 obtain⟨W0,I,o,q0,s0⟩:=Zam w 26 #[.int .i64 0];have hC:=Za (Zgj A n c rs W0 (h.below o) hF);replace q0:=Za q0;clear h
 go_enter_defers Tryz.func35,Tryz.ntmps35
 go_wp2_with fail;(try rw[I]);refine hC.out.mono ?_;rintro e w1 ⟨y,⟨h0,v1,v2,L,rfl,O⟩|⟨h0,rfl⟩⟩
 ·have u:=Gs o y
  have q1:=Zc y q0.out;have e0:=q1.cell 0;have z0:=q1.frozen 0;simp at e0;obtain⟨U,hU,C,q3,-⟩:=Z8 0 u (Qc _) q1;have r4:=q3.cell 0;simp at r4;obtain rfl:E=0:=by rw[<- hE];exact h0
  clear O;go_wp2_with fail;(try rw[hU]);refine leaves_cons (f:=39) (args:=#[.pointer (some ⟨w.heap.size,0,none⟩)]) Gh Ge ?_;refine(Zdv _ _).mono ?_;rintro e u' w'' ⟨rfl,rfl,rfl⟩;exact⟨.int .i64 0,by simp[results,Tryz.results35,go_sem,r4],rfl,C⟩
 have u:=Gs o y;have q2:=Zc y q0.out;rw[hE];go_wp2_with fail;refine leaves_cons (f:=39) (args:=#[.pointer (some ⟨w.heap.size,0,none⟩)]) Gh Ge ?_;have e0:=q2.cell 0;simp at e0;refine(Zae ⟨w.heap.size,0,none⟩ E 0 _ e0 (q2.frozen 0)).mono ?_;rintro e u' w'' ⟨rfl,rfl,hw⟩;obtain⟨V,hV,J,-,-,hk,sV⟩:=Zn 117 #[.int .i64 E] u (u.size);obtain⟨U,hU,C,q3,-⟩:=Z8 E J (Qc _) (hk _ _ _ q2);rw[hV,hU]at hw;subst hw;have r4:=q3.cell 0;simp at r4;exact⟨.int .i64 E,by simp[results,Tryz.results35,go_sem,r4],rfl,C⟩
theorem Zpu(A:Option Addr)(n c:Nat)(rs:List RX)(w:World)(h:MXL w A n c rs)(hF:FacC rs) :
    Calls Tryz.prog 46 #[.slice A n c] w λe w'=>Below w.heap.size w w'/\((Zat rs=0/\e=.returned (.slice A n c)) \/ (Zat rs≠0/\e=.panicked [{ v:=.iface 117 (.agg #[.int .i64 16]),recovered:=false }])):=by
 obtain⟨E,hE⟩:=Gz (Zat rs);have hC:=Za (Zv3 A n c rs w h hF E hE);clear h hF;replace hE:=Za hE;go_in;go_wp2_with fail;refine hC.out.mono ?_;rintro e w1 ⟨rfl,f⟩;by_cases h0:E=0
 ·subst h0
  go_wp2_with fail;refine(Zbi 16 w1).mono ?_;rintro e w1 ⟨rfl,rfl⟩;go_wp2_with fail;go_returns;exact⟨f,.inl ⟨hE.out,rfl⟩⟩
 have t1:(E == 0)=false:=by simpa using h0
 have o:decide (E=0)=false:=by simpa using h0
 replace h0:=Za h0;go_wp2_with fail;refine(Zai 16 w1).mono ?_;rintro e w6 ⟨rfl,rfl⟩;go_wp2_with fail;exact⟨rfl,f,.inr ⟨by rw[hE.out];exact h0.out,rfl⟩⟩
def PartPost(rs:List RX)(ls:List Int)(w:World)(e:Ending)(w':World):Prop:=
 Below w.heap.size w w'/\((Zhi rs ls=0/\∃ v L,e=.returned (.tuple #[v,.int .i64 0])/\MatOA 35 41 w' w.heap.size v L (Zlv (qM rs) ls)) \/
  (Zhi rs ls≠0/\e=.returned (.tuple #[.slice none 0 0,.int .i64 (Zhi rs ls)])))
theorem PartPost.fall{rs:List RX}{ls:List Int}{w w':World}{E:Int}(hb:Below w.heap.size w w')(h:Zhi rs ls=E)(h0:E≠0):PartPost rs ls w (.returned (.tuple #[.slice none 0 0,.int .i64 E])) w':=by
 subst h;exact⟨hb,.inr ⟨h0,rfl⟩⟩
theorem MatOA.lowerC{tS tF:TypeId}{w:World}{b b':Nat}{v:Value}{L:List RS}{Q:List (List Rat)}(h:MatOA tS tF w b v L Q)(hb:b'<=b):MatOA tS tF w b' v L Q:=by
 refine⟨?_,h.2.1,λi r hr=>(h.2.2.1 i r hr).lower hb,h.2.2.2⟩;rcases h.1 with h|⟨g,sp,h1,h2,h3⟩;exact .inl h;exact Ij
theorem MatOA.boxC{tS tF:TypeId}{w w':World}{base:Nat}{v:Value}{rs:List RS}{Q:List (List Rat)}(h:MatOA tS tF w base v rs Q){g:Nat}{t:TypeId}{cs:Array Value}(hb:Blk w g t cs)(hn:NoLimb cs)(hg:g<base)(hk:Kept (λk=>k=g) w w'):MatOA tS tF w' base v rs Q:=
 ⟨h.1.keptG hg hk,h.2.1,λi r hr=>(h.2.2.1 i r hr).keptG hb hn (λe=>by have:=(h.2.2.1 i r hr).row_ge g e;omega) hk,h.2.2.2⟩
theorem FF{G:Prop}(h:G:=by
 rcases h with ⟨rfl,_⟩|⟨g,sp,rfl,_⟩;exact⟨_,_,_,rfl⟩;exact⟨_,_,_,rfl⟩):G:=h
theorem RowS.isSlP{t:TypeId}{w:World}{base:Nat}{v:Value}{rs:List RS}(h:RowS t w base v rs):∃ A n c,v=.slice A n c:=by
 exact FF
theorem Zz6(na:Bool)(A:Option Addr)(n c:Nat)(nb:Bool)(B:Option Addr)(m d:Nat)(w:World):(Instr.field 73 (.agg #[.bool na,.slice A n c,.bool nb,.slice B m d]) 0).run Tryz.prog w=.ok (.agg #[.bool na,.slice A n c,.bool nb,.slice B m d]) w:=by kernel_rfl
theorem Zqe(x:Int):NoLimb #[.int .i64 x]:=λi y=>by
 match i with
 | 0=>simp[limb]
 | i+1=>simp
theorem Ib{G:Prop}(h:G:=by
 replace dV:=Za dV
 go_roundg (m-(j+1))
 case measure=>omega
 case rel=>exact⟨j+1,_,by omega,by go_num,dV.out,aG⟩):G:=h
theorem FU{G:Prop}(h:G:=by
 go_wp2_with fail;refine(Zbi 8 w2).mono ?_;rintro e w2 ⟨rfl,rfl⟩;go_wp2_with fail
 go_roundg (m-(i+1))
 case measure=>omega
 case rel=>exact⟨i+1,by omega,by go_num,ar,Gs aW aa⟩):G:=h
theorem Ej{G:Prop}(h:G:=by
 rw[hV,hU]at hw;subst hw;have r4:=q3.cell 0;simp at r4;exact⟨.tuple #[.slice none 0 0,.int .i64 8],by simp[results,Tryz.results27,go_sem,r4],PartPost.fall aS aO (by first|decide|assumption|exact dh.out)⟩):G:=h
theorem Ci{G:Prop}(h:G:=by
 go_wp2_with fail;refine(Zai 8 w1).mono ?_;rintro e w6 ⟨rfl,rfl⟩;go_wp2_with fail;refine leaves_cons (f:=39) (args:=#[.pointer (some ⟨w.heap.size,0,none⟩)]) Gh Ge ?_;have e0:=(q1.out).cell 0;simp at e0;refine(Zae ⟨w.heap.size,0,none⟩ 8 0 _ e0 ((q1.out).frozen 0)).mono ?_;rintro e u' w'' ⟨rfl,rfl,hw⟩;obtain⟨V,hV,aR,-,-,hk,sV⟩:=Zn 117 #[.int .i64 8] (ae) ((ae).size);obtain⟨U,hU,aS,q3,-⟩:=Z8 8 aR (Nat.le_refl _) (hk _ _ _ (q1.out));exact Ej):G:=h
theorem Cj{G:Prop}(h:G:=by
 clear fN;go_wp2_with fail;refine(Zai 8 wi).mono ?_;rintro e w6 ⟨rfl,rfl⟩;go_wp2_with fail;refine leaves_cons (f:=39) (args:=#[.pointer (some ⟨w.heap.size,0,none⟩)]) Gh Ge ?_;have e0:=(qi.out).cell 0;simp at e0;refine(Zae ⟨w.heap.size,0,none⟩ 8 0 _ e0 ((qi.out).frozen 0)).mono ?_;rintro e u' w'' ⟨rfl,rfl,hw⟩;obtain⟨V,hV,aR,-,-,hk,sV⟩:=Zn 117 #[.int .i64 8] (aZ) ((aZ).size);obtain⟨U,hU,aS,q3,-⟩:=Z8 8 aR (Nat.le_refl _) (hk _ _ _ (qi.out));exact Ej):G:=h
theorem Zy8(A:Option Addr)(n c:Nat)(rs:List RX)(B:Option Addr)(m d:Nat)(ls:List Int)(w:World)(h:MXL w A n c rs)(hv:LimI w B m d ls)(hF:FacC rs)(hm9:m<=100) :
    Calls Tryz.prog 27 #[.slice A n c,.slice B m d] w (PartPost rs ls w):=by
 obtain⟨iF,hi,f6,h6,h3⟩:=info_parts Zd6;obtain⟨iS,ki,j6,i4,k7⟩:=info_parts Zhb;obtain⟨iN,ni,m4,m3,l8⟩:=info_parts Zl8;have hmx:=Gt;have j5:(35:TypeId)≠41:=Gj;have b8:=Za h.1;have C:=Za hv.1;have l0:=hv.2.1;have j1:=hv.2.2.1;have m0:=h.2.1;have i9:=h.2.2.1;unfold maxLen at i9 j1;obtain⟨W0,h2,b0,q0,s0⟩:=Zam w 26 #[.int .i64 0];have l5:Hid (W0.heap.size=w.heap.size+1):=Za s0;have hC:=Za (Zgj A n c rs W0 (h.below b0) hF);have hH:=Za h;have c3:=Za hv;replace q0:=Za q0;clear h hv s0
 go_enter_defers Tryz.func27,Tryz.ntmps27
 go_wp2_with fail;(try rw[h2]);refine hC.out.mono ?_;rintro e w1 ⟨c1,⟨h0,v1,v2,L0,rfl,-⟩|⟨h0,rfl⟩⟩
 case inr =>
  have ae:=Gs b0 c1;have q2:=Zc c1 q0.out;obtain⟨E,hE⟩:=Gz (Zat rs);rw[hE]at h0 ⊢;have dh:=Za h0;have aO:=Zyg (ls:=ls) hE h0;replace hE:=Za hE;go_wp2_with fail;refine leaves_cons (f:=39) (args:=#[.pointer (some ⟨w.heap.size,0,none⟩)]) Gh Ge ?_;have e0:=(q2).cell 0;simp at e0;refine(Zae ⟨w.heap.size,0,none⟩ E 0 _ e0 ((q2).frozen 0)).mono ?_;rintro e u' w'' ⟨rfl,rfl,hw⟩;obtain⟨V,hV,aR,-,-,hk,sV⟩:=Zn 117 #[.int .i64 E] (ae) ((ae).size);obtain⟨U,hU,aS,q3,-⟩:=Z8 E aR (Qc _) (hk _ _ _ (q2));rw[hV,hU]at hw;subst hw;have r4:=q3.cell 0;simp at r4;exact⟨.tuple #[.slice none 0 0,.int .i64 E],by simp[results,Tryz.results27,go_sem,r4],PartPost.fall aS aO (by first|decide|assumption|exact dh.out)⟩
 have ae:=Gs b0 c1;have q1:=Gm c1 q0;obtain⟨a8,k4,i2⟩:=Zew h0;have hM:=Za (a8.good hH.out);have h5:Hid (∀ a,a<n->((qM rs)[a]?.getD []).length=n):=Za (λa ha=>a8.row hH.out a ha);have k1:Hid (∀ a b,SmE 64 (qM rs)/\Sm (Zh (qM rs) a b)):=Za (λa b=>⟨a8.small64 hH.out,(a8.small64 hH.out).smC Gj a b⟩);have l7:n<=6:=by rw[<- b8.out];exact a8.facts.2.1
 have a9:=Za h0;clear h0 a8 k4 i2 q0 hC c1 b0 h2;by_cases a7:m=0
 case pos =>
  subst a7;have t1:decide ((0:Int)<((0:Nat):Int))=false:=Gj;have aO:=Zf1 a9.out (Zy1 (n:=rs.length) C.out);exact Ci
 have t1:decide ((0:Int)<(m:Int))=true:=Gv Gk;have l2:decide (0<m)=true:=Gv Gk;by_cases a2:m<=n
 case neg =>
  have t2:decide ((m:Int)<=(n:Int))=false:=Gu Gk;have h9:decide (m<=n)=false:=Gu a2;have aO:=Zf1 a9.out (Zwc (n:=rs.length) (ls:=ls) (by rw[C.out,b8.out];omega));replace a2:=Za a2;replace a7:=Za a7;exact Ci
 have t2:decide ((m:Int)<=(n:Int))=true:=Gv Gk;have h9:decide (m<=n)=true:=Gv a2;replace a7:=Za a7;replace a2:=Za a2;go_wp2_with fail;refine(Zbi 8 w1).mono ?_;rintro e w1 ⟨rfl,rfl⟩;go_wp2_with fail
 go_loopg [28] m (λt iv wr=>∃ i:Nat,i+t=m/\iv=.int .i64 i/\Hid (∀ k,k<i->idxOk n ls k)/\Below w1.heap.size w1 wr)
 case atStart=>exact⟨0,by omega,rfl,Za (λk hk=>by omega),Qb _ _⟩
 case round =>
  obtain⟨wi,rfl⟩:=Gy wr;obtain⟨i,m1,rfl,O,aW⟩:=hrel;have aZ:=Gs ae aW;cases gk with
  | succ t =>
   obtain rfl:t=m-(i+1):=Gk;have g9:i<m:=Gk;have t3:decide ((i:Int)<(m:Int))=true:=Gv Gk;have bi:(i:Int)<(m:Int):=Gk;have l6:(i:Int)<=(m:Int):=Gk;have l9:(i:Int)<=(d:Int):=Gk;have fN:=(c3.out.below aZ).takeC (show i<=m by omega);obtain⟨g,o,rfl,c0⟩:=(c3.out.below aZ).atC g9;obtain⟨x,hx⟩:=Gz (ls[i]?.getD 0);have k3:=c3.out.i64C i;rw[hx]at c0 k3;have b9:Hid (i<ls.length):=Za (by rw[C.out];exact g9);have qi:=Gm aW q1;by_cases y:0<=x
   case neg =>
    have t4:decide ((0:Int)<=x)=false:=Gu y;have aO:=Zf1 a9.out (Zlf (n:=rs.length) b9.out (λh=>y (by rw[<- hx];exact h.1.1)));replace hx:=Za hx;replace y:=Za y;exact Cj
   have t4:decide ((0:Int)<=x)=true:=Gv y;by_cases J:x<n
   case neg =>
    have t5:decide (x<(n:Int))=false:=Gu J;have aO:=Zf1 a9.out (Zlf (n:=rs.length) b9.out (λh=>J (by have:=h.1.2;rw[hx,b8.out]at this;exact this)));replace hx:=Za hx;replace y:=Za y;replace J:=Za J;exact Cj
   have t5:decide (x<(n:Int))=true:=Gv J;obtain⟨b,hb⟩:=Gz (decide (x ∈ ls.take i));have g5:=Za (λW1 (hbb:Below wi.heap.size wi W1)=>Zqk (some ⟨g,o,none⟩) i i (ls.take i) x W1 (fN.below hbb) b hb);clear fN;cases b
   ·have ar:Hid (∀ k,k<i+1->idxOk n ls k):=Za (λk hk=>by
      rcases Qf k i with h'|h';exact O.out k h';obtain rfl:k=i:=Gk;refine⟨⟨by rw[hx];exact y,by rw[hx];exact J⟩,λj hj e=>?_⟩;refine of_decide_eq_false hb ?_;rw[<- hx];exact(idxOk.mem b9.out).2 ⟨j,hj,e⟩)
    replace hx:=Za hx;replace y:=Za y;replace J:=Za J;replace hb:=Za hb;go_wp2_with fail;refine(g5.out _ (by first|exact Qb _ _|exact Zf (Qb _ _) _)).mono ?_;rintro e w2 ⟨rfl,aa⟩;exact FU
   have aO:=Zf1 a9.out (Zlf (n:=rs.length) b9.out (λh=>by
     have:=of_decide_eq_true hb;rw[<- hx]at this;obtain⟨j,hj,e⟩:=(idxOk.mem b9.out).1 this;exact h.2 j hj e))
   replace hx:=Za hx;replace y:=Za y;replace J:=Za J;replace hb:=Za hb;go_wp2_with fail;refine(g5.out _ (by first|exact Qb _ _|exact Zf (Qb _ _) _)).mono ?_;rintro e w2 ⟨rfl,aa⟩;have d0:=Zc aa qi.out;have f9:=Gs aZ aa;go_wp2_with fail;refine(Zai 8 w2).mono ?_;rintro e w6 ⟨rfl,rfl⟩;go_wp2_with fail;refine leaves_cons (f:=39) (args:=#[.pointer (some ⟨w.heap.size,0,none⟩)]) Gh Ge ?_;have e0:=(d0).cell 0;simp at e0;refine(Zae ⟨w.heap.size,0,none⟩ 8 0 _ e0 ((d0).frozen 0)).mono ?_;rintro e u' w'' ⟨rfl,rfl,hw⟩;obtain⟨V,hV,aR,-,-,hk,sV⟩:=Zn 117 #[.int .i64 8] (f9) ((f9).size);obtain⟨U,hU,aS,q3,-⟩:=Z8 8 aR (Qc _) (hk _ _ _ (d0));exact Ej
  | zero =>
   obtain rfl:m=i:=Gk;have t3:decide ((m:Int)<(m:Int))=false:=Gh;have aO:Hid (Zhi rs ls=0):=Za (Zul a9.out (Zr8 (by rw[C.out];have:=a7.out;omega) (by rw[C.out,b8.out];exact a2.out) (by rw[C.out,b8.out];exact O.out)));have g6:Hid (Blk wi w.heap.size 26 #[.int .i64 0]):=Gm aW q1;have e7:Hid (w.heap.size<wi.heap.size):=Za g6.out.lt;have j4:=Za (hM.out.below aZ);have e8:=Za (c3.out.below aZ);clear q1;go_wp2_with fail
   go_loopg [4,54] m (λt ov jv wr=>∃ (j:Nat) (L:List RS),j+t=m/\jv=.int .i64 j/\MatOA 35 41 wr wi.heap.size ov L ((Zlv (qM rs) ls).take j)/\Below wi.heap.size wi wr)
   case atStart=>exact⟨0,[],by omega,rfl,MatOA.nil _ _ _ _,Qb _ _⟩
   case round =>
    obtain⟨wj,rfl⟩:=Gy wr;obtain⟨j,L1,l4,rfl,T,a1⟩:=hrel;have k2:Hid (L1.length=j):=Za (by rw[T.2.1,Qv,Zpy,C.out];omega);obtain⟨oA,on_,oc,rfl⟩:=T.1.isSlP;cases gk with
    | zero =>
     obtain rfl:m=j:=Gk;have t4:decide ((m:Int)<(m:Int))=false:=Gh;have q5:=Zc a1 g6.out;have i6:Below w.heap.size w wj:=Gs aZ a1;have e0:=q5.cell 0;have z0:=q5.frozen 0;simp at e0;obtain⟨U,hU,aS,q3,-⟩:=Z8 0 i6 (Qc _) q5;have r4:=q3.cell 0;simp at r4;have f8:Kept (λk=>k=w.heap.size) wj U:=by rw[<- hU];exact Kept.set_ (G:=λk=>k=w.heap.size) (Qk _ _) (p:=⟨w.heap.size,0,none⟩) (.inl rfl) _
     have k6:=Za ((T.boxC q5 (Zqe _) e7.out f8).lowerC (Nat.le_of_lt e7.out));replace T:=Za T;clear f8 q5;go_wp2_with fail;(try rw[hU]);refine leaves_cons (f:=39) (args:=#[.pointer (some ⟨w.heap.size,0,none⟩)]) Gh Ge ?_;refine(Zdv _ _).mono ?_;rintro e u' w'' ⟨rfl,rfl,rfl⟩;refine⟨.tuple #[.slice oA on_ oc,.int .i64 0],by simp[results,Tryz.results27,go_sem,r4],aS,.inl ⟨aO.out,_,L1,rfl,?_⟩⟩;have h1:=k6.out;rw[Qr (by rw[Zpy,C.out];exact Qc _)]at h1;exact h1
    | succ t =>
     obtain rfl:t=m-(j+1):=Gk;have c2:j<m:=Gk;have t4:decide ((j:Int)<(m:Int))=true:=Gv Gk;have bj:(j:Int)<(m:Int):=Gk;obtain⟨gl,ol,rfl,c0⟩:=(e8.out.below a1).atC c2;obtain⟨a,ha⟩:∃ a:Nat,ls[j]?.getD 0=(a:Int):=⟨(ls[j]?.getD 0).toNat,by have:=(O.out j c2).1.1;omega⟩;have e6:a<n:=by have:=(O.out j c2).1.2;omega
     rw[ha]at c0;have ban:(a:Int)<(n:Int):=Gk;have i0:Hid (j<ls.length):=Za (by rw[C.out];exact c2);have i8:Hid (Zcv (qM rs) ls (ls[j]?.getD 0)=ls.map λb=>Zh (qM rs) a b.toNat):=Za (by unfold Zcv;rw[ha];rfl);have g4:=Z2q (P:=Tryz.prog) 35 41 Tryz.underlying35 hi f6 h6 h3 m Gk wj;have b7:=Zx6 41 wj m (by unfold maxLen;omega);obtain⟨V1,e2⟩:=Gz (wj.alloc (.cells (Zx (List.replicate m Zas)) 41));have aR:Below wj.heap.size wj V1:=by rw[<- e2];exact(Qb _ _).alloc (Qc _) _
     rw[e2]at b7 g4;have i3:=Zb aR c0;replace ha:=Za ha;replace T:=Za T;replace b7:=Za b7;go_wp2_with fail;clear g4 c0 i3
     go_loopg [10,63] m (λt rv kv wr=>∃ k:Nat,k+t=m/\kv=.int .i64 k/\OwnF 41 wr wj.heap.size rv ((Zcv (qM rs) ls (ls[j]?.getD 0)).take k)/\Below wj.heap.size wj wr)
     case atStart=>exact⟨0,by omega,rfl,by simpa using b7.out,aR⟩
     case round =>
      clear b7 e2 aR V1;obtain⟨wk,rfl⟩:=Gy wr;obtain⟨k,l3,rfl,hO,b1⟩:=hrel;have u:Below wi.heap.size wi wk:=Gs a1 b1;obtain⟨rA,rc,e9,e1⟩:=hO.fl;have g0:((Zcv (qM rs) ls (ls[j]?.getD 0)).take k).length=k:=by rw[Qv,Zlx,C.out];omega
      rw[g0]at e9 e1;subst e9;cases gk with
      | zero =>
       obtain rfl:m=k:=Gk;have t5:decide ((m:Int)<(m:Int))=false:=Gh;have d9:=T.out.kept b1
       have i1:Hid (∀ s ∈ L1,∀ k',s.val.ownBlock=some k'->k'<wj.heap.size):=Za (λs hs k' hk'=>by
        obtain⟨q,hq,e⟩:=Qs hs;exact(T.out.2.2.1 q s (by rw[Qj hq,e])).blt k' hk')
       obtain⟨Y1,a0⟩:=Gz (wk.alloc (.cells #[.slice rA m rc] 35));obtain⟨gz,h7⟩:=Gz wk.heap.size;have a4:Below wk.heap.size wk Y1:=by rw[<- a0];exact(Qb _ _).alloc (Qc _) _
       have c4:Blk Y1 gz 35 #[.slice rA m rc]:=by rw[<- a0,<- h7];exact Qd _ _ _
       have f0:=d9.kept a4;have a3:=hO.kept a4;have c7:Below wi.heap.size wi Y1:=Gs u a4;have j9:L1.length+1<=1000:=by rw[k2.out];omega
       have c8:=f0.1;have b3:=c7.size;replace hO:=Za hO;replace d9:=Za d9;replace a3:=Za a3;clear e1;go_wp2_with ((try rw[a0]);(try rw[h7]);at_builtin;refine Zfs _ rfl (.tmp 83) (.tmp 85) 25 rfl wi.heap.size 35 iS Tryz.underlying25 ki j6 i4 k7 _ L1 rfl c8 _ (some ⟨gz,0,none⟩) 1 1 [⟨rA,m,rc⟩] rfl (Zev c4) rfl j9 b3 ?_;intro v5 w5 j8 h8 j3);have dV:=f0.snoc j5 (r:=⟨rA,m,rc⟩) a3.out a1.size i1.out j8 h8 j3;have aG:=c7.grown h8 b3 (λk hk=>c8.row_ge k hk);have e4:(Zcv (qM rs) ls (ls[j]?.getD 0)).take m=Zcv (qM rs) ls (ls[j]?.getD 0):=Qr (by rw[Zlx,C.out];exact Qc _);rw[e4,Zu0 i0.out]at dV;exact Ib
      | succ t' =>
       obtain rfl:t'=m-(k+1):=Gk;have a5:k<m:=Gk;have t5:decide ((k:Int)<(m:Int))=true:=Gv Gk;have bk:(k:Int)<(m:Int):=Gk;have y0:=(e8.out.below u).atCS a5;obtain⟨b,hb⟩:∃ b:Nat,ls[k]?.getD 0=(b:Int):=⟨(ls[k]?.getD 0).toNat,by have:=(O.out k a5).1.1;omega⟩;have k8:b<n:=by have:=(O.out k a5).1.2;omega
       rw[hb]at y0;have bbn:(b:Int)<(n:Int):=Gk;obtain⟨g1,o1,A',n',c',rfl,k0,hR⟩:=j4.out.at_ e6;have i5:n=n':=by rw[<- hR.len];exact(h5.out a e6).symm
       subst i5;have d7:=hR.cap;unfold maxLen at d7;obtain⟨g2,o2,xn,xA,xk,xc,xm,xB,xj,xd,rfl,⟨x0,x1,x2,x3⟩,hX⟩:=hR.at_ k8;have eX:((qM rs)[a]?.getD [])[b]?.getD 0=Zh (qM rs) a b:=rfl;rw[eX]at hX
       have e3:Hid ((Zcv (qM rs) ls (ls[j]?.getD 0)).take k ++ [Zh (qM rs) a b*((1:Int):Rat)]=(Zcv (qM rs) ls (ls[j]?.getD 0)).take (k+1)):=Za (by
        have h1:=Zrz (Q:=qM rs) (a:=ls[j]?.getD 0) (k:=k) (ls:=ls) (by rw[C.out];exact a5);rw[ha.out,hb]at h1;rw[ha.out,<- h1];congr 2;simp)
       replace hX:=Za hX;replace hb:=Za hb;replace hO:=Za hO;have z0:=Zb u k0;have z1:=Zb u x0;have z2:=Zb u x1;have z3:=Zb u x2;have z4:=Zb u x3;clear eX hR e1;go_wp2_with fail;clear z0 z1 z2 z3 z4;obtain⟨X0,c5⟩:=Gz wk.drew;have d4:Below wk.heap.size wk X0:=by rw[<- c5];exact Zf (Qb _ _) 1
       have I:Hid (∀ wx,Below wi.heap.size wi wx->wx.cell? ⟨g1,o1+a,none⟩=some (.slice (some ⟨g2,o2,none⟩) n c')/\wx.cell? ⟨g2,o2+b*4,none⟩=some (.bool xn)/\wx.cell? ⟨g2,o2+b*4+1,none⟩=some (.slice xA xk xc)/\wx.cell? ⟨g2,o2+b*4+2,none⟩=some (.bool xm)/\wx.cell? ⟨g2,o2+b*4+3,none⟩=some (.slice xB xj xd)):=Za (λwx hbx=>⟨Zb hbx k0,Zb hbx x0,Zb hbx x1,Zb hbx x2,Zb hbx x3⟩);have d3:Below wi.heap.size wi X0:=Gs u d4;refine wp_heldS [] hmx I (by rw[c5];exact d3) (λhxs=>?_);rw[c5];refine Zke 8 [0,1,2,3,4,5,6,7] rfl Gi (I.out _ d3) ?_
       iterate 8 (refine tkA ?_;try simp only[Qa,Zhf,Zgs,Zg9,Gr,Gq,Gp])
       refine tk0 ?_;refine Zgt 1 [8] rfl Gi (I.out _ d3) ?_
       (refine tkA ?_;try simp only[Qa,Zhf,Zgs,Zg9,Gr,Gq,Gp])
       refine tk0 ?_;refine wpAnyL_o 9 λK hK=>?_;go_simp;refine(Zjo 1 X0 Gj Gj).mono ?_;rintro e w5 ⟨k5,pn,pA,pk,pc,pm,pB,pj,pd,rfl,hP⟩;have d8:=Gs d4 k5;have i7:=Gs u d8;refine hK.out _ _ (λ_=>I.out _ i7) ?_;clear hK K
       try simp only[Qa,Zhf,Zgs,Zg9]
       obtain⟨Y1,a0⟩:=Gz (w5.alloc (.cells #[.bool pn,.slice pA pk pc,.bool pm,.slice pB pj pd] 73));obtain⟨h4,b2⟩:=Gz w5.heap.size;have a4:Below w5.heap.size w5 Y1:=by rw[<- a0];exact(Qb _ _).alloc (Qc _) _
       have c4:Blk Y1 h4 73 #[.bool pn,.slice pA pk pc,.bool pm,.slice pB pj pd]:=by rw[<- a0,<- b2];exact Qd _ _ _
       have d6:=Gs d8 a4;have f5:=Gs u d6;refine wpAnyL_o 10 λK hK=>?_;go_simp;(try rw[a0]);(try rw[b2]);refine hK.out _ _ (λ_=>I.out _ f5) ?_;clear hK K a0 b2
       try simp only[Qa,Zhf,Zgs,Zg9]
       refine wpAnyL_o 11 λK hK=>?_;go_simp;refine(Zcf xn xA xk xc xm xB xj xd (Zh (qM rs) a b) (some ⟨h4,0,none⟩) 1 1 [((1:Int):Rat)] Y1 (hX.out.below f5) (FL.sing1 c4 (hP.below a4)) Gk (λt ht=>?_) (λt ht=>?_)).mono ?_
       ·obtain rfl:t=0:=Gk
        exact(k1.out a b).2
       ·obtain rfl:t=0:=Gk
        exact⟨by show (1:Nat)<_;rw[show (1000:Nat)=999+1 by rfl,Zaz];have:=Zbt 999;omega,by show (1:Nat)<_;rw[show (1000:Nat)=999+1 by rfl,Zaz];have:=Zbt 999;omega⟩
       rintro e w6 ⟨j2,un,uA,uk,uc,um,uB,uj,ud,rfl,hU⟩;have d5:=Gs d6 j2;have e5:=Gs u d5;refine hK.out _ _ (λ_=>I.out _ e5) ?_;clear hK K
       try simp only[Qa,Zhf,Zgs,Zg9]
       have l1:=Zz6 un uA uk uc um uB uj ud;refine Zgt 1 [12] rfl Gi (I.out _ e5) ?_
       (refine tkA ?_;try simp only[Qa,Zhf,Zgs,Zg9,Gr,Gq,Gp])
       refine tk0 ?_;obtain⟨Y2,c6⟩:=Gz (w6.alloc (.cells #[.bool un,.slice uA uk uc,.bool um,.slice uB uj ud] 41));obtain⟨f3,b6⟩:=Gz w6.heap.size;have b5:Below w6.heap.size w6 Y2:=by rw[<- c6];exact(Qb _ _).alloc (Qc _) _
       have c9:Blk Y2 f3 41 #[.bool un,.slice uA uk uc,.bool um,.slice uB uj ud]:=by rw[<- c6,<- b6];exact Qd _ _ _
       have a6:=Gs d5 b5;have g7:=Gs u a6;refine wpAnyL_o 13 λK hK=>?_;go_simp;(try rw[c6]);(try rw[b6]);refine hK.out _ _ (λ_=>I.out _ g7) ?_;clear hK K c6 b6
       try simp only[Qa,Zhf,Zgs,Zg9]
       have a3:=hO.out.kept a6;have g8:=hU.below b5;have b3:wj.heap.size<=Y2.heap.size:=Qh b1.size a6.size;have j7:Below wj.heap.size wj Y2:=Gs b1 a6;refine wpAnyL_o 14 λK hK=>?_;rw[Gx Gd];refine Zbe _ (.tmp 67) (.tmp 80) 35 rfl wj.heap.size 41 iF Tryz.underlying35 hi f6 h6 h3 (.slice rA k rc) _ rfl a3 _ (some ⟨f3,0,none⟩) 1 1 [⟨un,uA,uk,uc,um,uB,uj,ud,Zh (qM rs) a b*((1:Int):Rat)⟩] rfl (Zb9 _ c9) rfl (by intro e he;rw[Ql]at he;subst he;exact g8) (by rw[g0];omega) b3 ?_;intro v7 w7 b4 j0 k9 m2;have f7:=j7.grown j0 b3 (λk hk=>a3.row_ge k hk);have f4:Below wi.heap.size wi w7:=Gs a1 f7;simp only[List.map_cons,List.map_nil]at b4;rw[e3.out]at b4;refine hK.out _ _ (λ_=>I.out _ f4) ?_;clear hK K
       try simp only[Qa,Zhf,Zgs,Zg9]
       refine Zgt 1 [15] rfl Gi (I.out _ f4) ?_
       (refine tkA ?_;try simp only[Qa,Zhf,Zgs,Zg9,Gr,Gq,Gp])
       refine tk0 ?_;refine wpAnyL_fin ?_;replace b4:=Za b4;clear a3 g8 c9 b5 c4 a4 hU hP c5;go_wp2_with fail
       go_roundg (m-(k+1))
       case measure=>omega
       case rel=>exact⟨k+1,by omega,by go_num,b4.out,f7⟩
def Zk6(n:Nat)(l:List Int):Bool:=decide (l.length=n) && !Zop l
def Zh0(rs:List RX)(js:List (List Int)):Int:=if Zat rs=0 then (if 6<js.length then 4 else if js.length=0 then 8 else if js.all (Zk6 rs.length)=true then 0 else 8)else Zat rs
section
variable{rs:List RX}{js:List (List Int)}{n:Nat}
theorem Z1e{E:Int}(h:Zat rs=E)(h0:E≠0):Zh0 rs js=E:=by subst h;unfold Zh0;rw[Gw h0]
theorem Zyx(h:Zat rs=0)(hm:6<js.length):Zh0 rs js=4:=by unfold Zh0;rw[Gx h,Gx hm]
theorem Z23(h:Zat rs=0)(hm:js.length=0):Zh0 rs js=8:=by unfold Zh0;rw[Gx h,Gw Gk,Gx hm]
theorem Z0q(h:Zat rs=0)(h6:¬ 6<js.length){l:List Int}(hl:l ∈ js)(hb:Zk6 rs.length l=false):Zh0 rs js=8:=by
 unfold Zh0;rw[Gx h,Gw h6]
 split
 rfl;rw[Gw];intro e;rw[Qu]at e;have:=e l hl;rw[hb]at this;cases this
theorem Zxr(h:Zat rs=0)(h6:¬ 6<js.length)(h0:js.length≠0)(ha:∀ l ∈ js,Zk6 rs.length l=true):Zh0 rs js=0:=by
 unfold Zh0;rw[Gx h,Gw h6,Gw h0,Gx (List.all_eq_true.2 ha)]
theorem Zzp{l:List Int}(h:Zk6 n l=true):l.length=n/\Zfi l:=by
 unfold Zk6 at h;rw[Bool.and_eq_true,decide_eq_true_eq]at h;refine⟨h.1,λk=>?_⟩;have h2:Zop l=false:=by simpa using h.2
 unfold Zop at h2;rw[List.any_eq_false]at h2;unfold gI;rcases Qf k l.length with h3|h3
 ·rw[Qj h3,Qo]
  have:=h2 _ (List.getElem_mem h3);simpa using this
 rw[List.getElem?_eq_none h3];decide
end
def ImgPost(rs:List RX)(js:List (List Int))(w:World)(e:Ending)(w':World):Prop:=
 Below w.heap.size w w'/\((Zh0 rs js=0/\∃ rt,Zfl rt=Zfy (Zhp (Zh (qM rs)) rs.length js)/\((Zat rt=0/\∃ v L,e=.returned (.tuple #[v,.int .i64 0])/\MatOA 35 41 w' w.heap.size v L (Zhp (Zh (qM rs)) rs.length js)) \/ (Zat rt≠0/\e=.returned (.tuple #[.slice none 0 0,.int .i64 16])))) \/
  (Zh0 rs js≠0/\e=.returned (.tuple #[.slice none 0 0,.int .i64 (Zh0 rs js)])))
theorem ImgPost.fall{rs:List RX}{js:List (List Int)}{w w':World}{E:Int}(hb:Below w.heap.size w w')(h:Zh0 rs js=E)(h0:E≠0):ImgPost rs js w (.returned (.tuple #[.slice none 0 0,.int .i64 E])) w':=by
 subst h;exact⟨hb,.inr ⟨h0,rfl⟩⟩
theorem SmN.intC(x:Int)(k:Nat)(h:x.natAbs<=pw k):SmN (k+1) 1 (x:Rat):=by
 refine⟨?_,?_⟩
 ·rw[Rat.num_intCast]
  exact Qm h (Zci Gk)
 rw[Rat.den_intCast];rw[show (1:Nat)=0+1 by rfl,Zaz,Zd1];decide
theorem term_sm{R:List (List Rat)}{a b:List Int}(hS:SmE 4 R)(ha:Zfi a)(hb:Zfi b)(i k:Nat):Sm (Zh R i k)/\Sm ((gI a i:Int):Rat)/\Sm ((gI b k:Int):Rat)/\Sm (Zh R i k*((gI a i:Int):Rat))/\Sm (Zh R i k*((gI a i:Int):Rat)*((gI b k:Int):Rat)):=by
 have h1:SmN 5 5 (Zh R i k):=⟨Qm (hS i k).1 (Zci Gj),Qm (hS i k).2 (Zci Gj)⟩;have h2:=SmN.intC (gI a i) 2 (Zkz (ha i));have h3:=SmN.intC (gI b k) 2 (Zkz (hb k));exact⟨h1.sm Gj Gj,h2.sm Gj Gj,h3.sm Gj Gj,(h1.mulN h2).sm Gj Gj,((h1.mulN h2).mulN h3).sm Gj Gj⟩
theorem Zg0(na:Bool)(a:List Nat):Zgg na na a a=true:=by
 unfold Zgg
 have:Zcp a a=0:=by
  unfold Zcp;simp
 rw[this];simp
theorem Zmn(na nb:Bool)(A B A' B':Option Addr)(n c m d n' c' m' d':Nat)(la lb:List Nat)(w:World)(ha:Lim w A n c la)(hb:Lim w B m d lb)(u:Lim w A' n' c' la)(o:Lim w B' m' d' lb) :
    Calls Tryz.prog 21 #[.agg #[.bool na,.slice A n c,.bool nb,.slice B m d],.agg #[.bool na,.slice A' n' c',.bool nb,.slice B' m' d']] w λe w'=>e=.returned (.bool true)/\Below w.heap.size w w':=by
 obtain⟨W0,y,f,⟨q0,q1⟩,s0⟩:=Zef w 41 #[.bool na,.slice A n c,.bool nb,.slice B m d] 41 #[.bool na,.slice A' n' c',.bool nb,.slice B' m' d'];replace ha:=Za (ha.below f);replace hb:=Za (hb.below f);replace u:=Za (u.below f);replace o:=Za (o.below f);obtain⟨a0,a1,a2,a3,-⟩:=q0.four;obtain⟨b0,b1,b2,b3,-⟩:=q1.four;have hq:=Za (Qq q0 q1);clear q0 q1;go_in;go_wp2_with fail;refine(Zdx na na A A' n c n' c' _ _ W0 ha.out u.out).mono ?_;rw[Zg0];rintro e w1 ⟨rfl,h⟩;have ae:Below w.heap.size w w1:=Gs f h;obtain⟨q0,q1⟩:=hq.out;replace q0:=Zc h q0;replace q1:=Zc h q1;clear y a0 a1 a2 a3 b0 b1 b2 b3 hq f;obtain⟨a0,a1,a2,a3,-⟩:=q0.four;obtain⟨b0,b1,b2,b3,-⟩:=q1.four;clear q0 q1;go_wp2_with fail;refine(Zdx nb nb B B' m d m' d' _ _ w1 (hb.out.below h) (o.out.below h)).mono ?_;rw[Zg0];exact Ir
structure DF where
 na:Bool
 la:List Nat
 nb:Bool
 lb:List Nat
def XL(w:World)(A:Option Addr)(n c:Nat)(ds:List DF):Prop:=
 ds.length=n/\n<=c/\c<=maxLen/\∀ (k:Nat) (d:DF),ds[k]?=some d->∃ g o A1 n1 c1 B1 m1 d1,A=some ⟨g,o,none⟩/\At4 w g (o+k*4) d.na A1 n1 c1 d.nb B1 m1 d1/\Lim w A1 n1 c1 d.la/\Lim w B1 m1 d1 d.lb
def XM(w:World)(A:Option Addr)(n c:Nat)(D:List (List DF)):Prop:=
 D.length=n/\n<=c/\c<=maxLen/\∀ (k:Nat) (ds:List DF),D[k]?=some ds->∃ g o A1 n1 c1,A=some ⟨g,o,none⟩/\w.cell? ⟨g,o+k,none⟩=some (.slice A1 n1 c1)/\XL w A1 n1 c1 ds
section
variable{w w':World}{A:Option Addr}{n c:Nat}{ds:List DF}{D:List (List DF)}
theorem XL.below(h:XL w A n c ds)(hb:Below w.heap.size w w'):XL w' A n c ds:=by
 obtain⟨h1,h2,h3,h4⟩:=h;refine⟨h1,h2,h3,λk d hd=>?_⟩;obtain⟨g,o,A1,n1,c1,B1,m1,d1,e,a,b,b'⟩:=h4 k d hd;exact⟨g,o,A1,n1,c1,B1,m1,d1,e,a.below hb,b.below hb,b'.below hb⟩
theorem XM.below(h:XM w A n c D)(hb:Below w.heap.size w w'):XM w' A n c D:=by
 obtain⟨h1,h2,h3,h4⟩:=h;refine⟨h1,h2,h3,λk d hd=>?_⟩;obtain⟨g,o,A1,n1,c1,e,a,b⟩:=h4 k d hd;exact⟨g,o,A1,n1,c1,e,Zb hb a,b.below hb⟩
def dfQ(q:Rat):DF:=⟨decide (q.num<0),digits q.num.natAbs,false,digits q.den⟩
theorem FL.xl{qs:List Rat}(h:FL w A n c qs):XL w A n c (qs.map dfQ):=by
 have hl:=h.len;refine⟨by rw[Qe,hl],h.cap.1,h.cap.2,λk d hd=>?_⟩;rw[Qt]at hd;obtain⟨q,hq,rfl⟩:=Option.map_eq_some_iff.1 hd;have hk:k<n:=by have:=(List.getElem?_eq_some_iff.1 hq).1;omega
 obtain⟨g,o,na,A1,n1,c1,nb,B,m,d,e1,e2,e3⟩:=h.at_ hk;rw[hq,Qo]at e3;have h1:=e3.1.1;have h2:=e3.2.1;have h3:=e3.2.2.2;rw[Int.natAbs_natCast]at h3;have h4:nb=false:=by rw[h2];exact Gu Gk
 subst h1 h4;exact⟨g,o,_,_,_,_,_,_,e1,e2,e3.1.2.2,h3⟩
theorem MFL.xm{Q:List (List Rat)}(h:MFL w A n c Q):XM w A n c (Q.map λr=>r.map dfQ):=by
 refine⟨by rw[Qe,h.1],h.2.1,h.2.2.1,λk d hd=>?_⟩;rw[Qt]at hd;obtain⟨r,hr,rfl⟩:=Option.map_eq_some_iff.1 hd;have hk:k<n:=by have:=(List.getElem?_eq_some_iff.1 hr).1;rw[h.1]at this;exact this
 obtain⟨g,o,A1,n1,c1,e1,e3,e4⟩:=h.at_ hk;rw[hr,Qo]at e4;exact⟨g,o,_,_,_,e1,e3,e4.xl⟩
end
theorem IY{G:Prop}(h:G:=by
 obtain rfl:i=n:=Gk;have t1:decide ((i:Int)<(i:Int))=false:=Gh;go_wp2_with fail;go_ret;exact⟨rfl,hB⟩):G:=h
theorem Zq7(A B:Option Addr)(n c d:Nat)(ds:List DF)(w:World)(ha:XL w A n c ds)(hb:XL w B n d ds) :
    Calls Tryz.prog 52 #[.slice A n c,.slice B n d] w λe w'=>e=.returned (.bool true)/\Below w.heap.size w w':=by
 have hmx:=Gt;have hl:=Za ha.1;have hc:=ha.2.1;have a0:=ha.2.2.1;have hd:=hb.2.1;have a1:=hb.2.2.1;unfold maxLen at a0 a1;replace ha:=Za ha;replace hb:=Za hb;have t0:(((n:Int)) != (n:Int))=false:=Gh
 go_in;go_wp2_with fail
 go_loopg [5] n (λk iv wr=>∃ i:Nat,i+k=n/\iv=.int .i64 i/\Below w.heap.size w wr)
 case atStart=>exact⟨0,by omega,rfl,Qb _ _⟩
 case round =>
  obtain⟨i,a5,rfl,hB⟩:=hrel;cases gk with
  | zero =>
   exact IY
  | succ k' =>
   obtain rfl:k'=n-(i+1):=Gk;have a2:i<n:=Gk;have t1:decide ((i:Int)<(n:Int))=true:=Gv Gk;have bi:(i:Int)<(n:Int):=Gk;obtain⟨x,hx⟩:=Zb3 (L:=ds) (i:=i) (by rw[hl.out];exact a2);obtain⟨g,o,A1,n1,c1,B1,m1,d1,rfl,⟨r0,r1,r2,r3⟩,l1,l2⟩:=(ha.out.below hB).2.2.2 i x hx;obtain⟨g',o',Y,V,T,U,O,J,rfl,⟨s0,s1,s2,s3⟩,y,I⟩:=(hb.out.below hB).2.2.2 i x hx;replace l1:=Za l1;replace l2:=Za l2;replace y:=Za y;replace I:=Za I;go_wp2_with fail;obtain⟨X0,u⟩:=Gz wr.drew;have h:Below wr.heap.size wr X0:=by rw[<- u];exact Zf (Qb _ _) 1
   have f:Hid (∀ wx,Below wr.heap.size wr wx->wx.cell? ⟨g,o+i*4,none⟩=some (.bool x.na)/\wx.cell? ⟨g,o+i*4+1,none⟩=some (.slice A1 n1 c1)/\wx.cell? ⟨g,o+i*4+2,none⟩=some (.bool x.nb)/\wx.cell? ⟨g,o+i*4+3,none⟩=some (.slice B1 m1 d1)/\wx.cell? ⟨g',o'+i*4,none⟩=some (.bool x.na)/\wx.cell? ⟨g',o'+i*4+1,none⟩=some (.slice Y V T)/\wx.cell? ⟨g',o'+i*4+2,none⟩=some (.bool x.nb)/\wx.cell? ⟨g',o'+i*4+3,none⟩=some (.slice U O J)):=Za (λwx hbx=>⟨Zb hbx r0,Zb hbx r1,Zb hbx r2,Zb hbx r3,Zb hbx s0,Zb hbx s1,Zb hbx s2,Zb hbx s3⟩);refine wp_heldS [] hmx f (by rw[u];exact h) (λhxs=>?_);rw[u];refine Zke 8 [0,1,2,3,4,5,6,7] rfl Gi (f.out _ h) ?_
   iterate 8 (refine tkA ?_;try simp only[Qa,Zhf,Zgs,Zg9,Gr,Gq,Gp])
   refine tk0 ?_;refine wpAnyL_o 8 λK hK=>?_;go_simp;refine(Zmn x.na x.nb A1 B1 Y U n1 c1 m1 d1 V T O J x.la x.lb X0 (l1.out.below h) (l2.out.below h) (y.out.below h) (I.out.below h)).mono ?_;rintro e w3 ⟨rfl,a3⟩;have C:=Gs h a3;have a4:=Gs hB C;refine hK.out _ _ (λ_=>f.out _ C) ?_;clear hK K
   try simp only[Qa,Zhf,Zgs,Zg9]
   refine Zgt 1 [9] rfl Gi (f.out _ C) ?_
   (refine tkA ?_;try simp only[Qa,Zhf,Zgs,Zg9,Gr,Gq,Gp])
   refine tk0 ?_;refine wpAnyL_fin ?_;clear hxs f;go_wp2_with fail
   go_roundg (n-(i+1))
   case measure=>omega
   case rel=>exact⟨i+1,by omega,by go_num,a4⟩
theorem Zig(A B:Option Addr)(n c d:Nat)(D:List (List DF))(w:World)(ha:XM w A n c D)(hb:XM w B n d D) :
    Calls Tryz.prog 12 #[.slice A n c,.slice B n d] w λe w'=>e=.returned (.bool true)/\Below w.heap.size w w':=by
 have hmx:=Gt;have hl:=Za ha.1;have hc:=ha.2.1;have T:=ha.2.2.1;have hd:=hb.2.1;have U:=hb.2.2.1;unfold maxLen at T U;replace ha:=Za ha;replace hb:=Za hb;have t0:(((n:Int)) != (n:Int))=false:=Gh
 go_in;go_wp2_with fail
 go_loopg [5] n (λk iv wr=>∃ i:Nat,i+k=n/\iv=.int .i64 i/\Below w.heap.size w wr)
 case atStart=>exact⟨0,by omega,rfl,Qb _ _⟩
 case round =>
  obtain⟨i,a1,rfl,hB⟩:=hrel;cases gk with
  | zero =>
   exact IY
  | succ k' =>
   obtain rfl:k'=n-(i+1):=Gk;have V:i<n:=Gk;have t1:decide ((i:Int)<(n:Int))=true:=Gv Gk;have bi:(i:Int)<(n:Int):=Gk;obtain⟨x,hx⟩:=Zb3 (L:=D) (i:=i) (by rw[hl.out];exact V);obtain⟨g,o,A1,n1,c1,rfl,r0,l1⟩:=(ha.out.below hB).2.2.2 i x hx;obtain⟨g',o',O,y,J,rfl,s0,u⟩:=(hb.out.below hB).2.2.2 i x hx;obtain rfl:y=n1:=by rw[<- l1.1,<- u.1]
   replace l1:=Za l1;replace u:=Za u;go_wp2_with fail;obtain⟨X0,C⟩:=Gz wr.drew;have h:Below wr.heap.size wr X0:=by rw[<- C];exact Zf (Qb _ _) 1
   have f:Hid (∀ wx,Below wr.heap.size wr wx->wx.cell? ⟨g,o+i,none⟩=some (.slice A1 y c1)/\wx.cell? ⟨g',o'+i,none⟩=some (.slice O y J)):=Za (λwx hbx=>⟨Zb hbx r0,Zb hbx s0⟩);refine wp_heldS [] hmx f (by rw[C];exact h) (λhxs=>?_);rw[C];refine Zke 8 [0,1,2,3,4,5,6,7] rfl Gi (f.out _ h) ?_
   iterate 8 (refine tkA ?_;try simp only[Qa,Zhf,Zgs,Zg9,Gr,Gq,Gp])
   refine tk0 ?_;refine wpAnyL_o 8 λK hK=>?_;go_simp;refine(Zq7 A1 O y c1 J x X0 (l1.out.below h) (u.out.below h)).mono ?_;rintro e w3 ⟨rfl,Y⟩;have I:=Gs h Y;have a0:=Gs hB I;refine hK.out _ _ (λ_=>f.out _ I) ?_;clear hK K
   try simp only[Qa,Zhf,Zgs,Zg9]
   refine Zgt 1 [9] rfl Gi (f.out _ I) ?_
   (refine tkA ?_;try simp only[Qa,Zhf,Zgs,Zg9,Gr,Gq,Gp])
   refine tk0 ?_;refine wpAnyL_fin ?_;clear hxs f;go_wp2_with fail
   go_roundg (n-(i+1))
   case measure=>omega
   case rel=>exact⟨i+1,by omega,by go_num,a0⟩
theorem BdR.mono{C D C' D' m:Nat}{R:List (List Rat)}(h:BdR C D m R)(hC:C<=C')(hD:D<=D'):BdR C' D' m R:=⟨h.1,λi j=>⟨Qi (h.2 i j).1 hC,Qi (h.2 i j).2 hD⟩⟩
theorem Znf{C D C' D' m:Nat}(hC:C<=C')(hD:D<=D'):∀ (f c r:Nat) (R:List (List Rat)),okR C D m f c r R->okR C' D' m f c r R
 | 0,_,_,_,h=>BdR.mono h hC hD
 | f+1,c,r,R,h=>⟨h.1.mono hC hD,h.2.imp id (λ⟨h1,h2⟩=>⟨λe=>Znf hC hD f _ _ _ (h1 e),λe=>Znf hC hD f _ _ _ (h2 e)⟩)⟩
