/- Package covar: factor. Package covar: look, Check, made. -/
import Derived.Deep.LoopGhost
import Derived.Test.YthappeninglakaaGreatZe17
set_option maxRecDepth 100000
set_option maxHeartbeats 16000000
set_option linter.unusedSimpArgs false
set_option linter.unusedVariables false
namespace Go.Proofs.YthappeninglakaaGreat
open Go.RowKit
open Act renaming put→Qa
open Below renaming refl→Qb
open Nat renaming le_refl→Qc,lt_trans→Qf,lt_irrefl→Qg,le_trans→Qj,lt_succ_self→Ql,lt_or_ge→Qm,mul_le_mul→Qp,lt_of_lt_of_le→Qr
open Blk renaming new→Qd
open Kept renaming refl→Qe
open List renaming range→Qh,range_succ→Qi,mem_singleton→Qk,length_map→Qn,getElem?_eq_none→Qq
open Rat renaming div_def→Qo
open Int renaming natAbs_natCast→Qs
attribute [local go_sem] Zg
theorem Zp1:(Tryz.prog.info? 73).map (λi=>(i.zero,i.size,i.bytes))=some (some (.agg #[.bool false,.slice none 0 0,.bool false,.slice none 0 0]),4,64):=by kernel_rfl
theorem Z1t:(Tryz.prog.info? 97).map (λi=>(i.zero,i.size,i.bytes))=some (some (.slice none 0 0),1,24):=by kernel_rfl
theorem Zgk{w:World}{t:TypeId}{g:Nat}{A:Option Addr}{n c:Nat}(h:Blk w g t #[.slice A n c]):Reads w (g+1) 1 (some ⟨g,0,none⟩) 1 (Zaq [⟨A,n,c⟩]):=
 ⟨rfl,λ_=>⟨_,rfl,Ql _,λj u hu=>by
  rw[Zg,Nat.zero_add,h.cell];simpa [Zaq]using hu⟩⟩
def Zjk(A:Nat->Nat->Rat)(i k:Nat):List Rat:=(Qh k).map (lQ A i)
def Zhd(A:Nat->Nat->Rat)(i:Nat):List (List Rat):=(Qh i).map λr=>Zjk A r r
def dsL(A:Nat->Nat->Rat)(i:Nat):List Rat:=(Qh i).map (dQ A)
section
variable{A:Nat->Nat->Rat}{i j k:Nat}
theorem Zf9:(Zjk A i k).length=k:=by simp[Zjk]
theorem Zf0:(Zhd A i).length=i:=by simp[Zhd]
theorem Zjz:(dsL A i).length=i:=by simp[dsL]
theorem Zl4(h:j<k):(Zjk A i k)[j]?.getD 0=lQ A i j:=by simp[Zjk,h]
theorem Zm2(h:j<i):(Zhd A i)[j]?.getD []=Zjk A j j:=by simp[Zhd,h]
theorem Zqk(h:j<i):(dsL A i)[j]?.getD 0=dQ A j:=by simp[dsL,h]
theorem Zyz:Zjk A i (k+1)=Zjk A i k ++ [lQ A i k]:=by simp[Zjk,Qi]
theorem Znf:Zhd A (i+1)=Zhd A i ++ [Zjk A i i]:=by simp[Zhd,Qi]
theorem Z1m:dsL A (i+1)=dsL A i ++ [dQ A i]:=by simp[dsL,Qi]
end
theorem cmpZ_pos0{z:Int}:(0<Zcr z 0) ↔ 0<z:=by
 unfold Zcr
 split
 ·constructor <;> intro h <;> omega
 split
 ·constructor <;> intro h <;> omega
 constructor <;> intro h <;> omega
theorem num_pos0{q:Rat}:0<q.num ↔ 0<q:=by
 constructor
 ·intro h
  refine Rat.lt_of_le_of_ne (Rat.num_nonneg.1 Gk) (λe=>?_);rw[<- e]at h;exact absurd h Gj
 intro h;have h5:=Rat.num_nonneg.2 (Rat.le_of_lt h);rcases Int.lt_or_eq_of_le h5 with h6|h6;exact h6;rw[Rat.num_eq_zero.1 h6.symm]at h;exact absurd h Gj
def FacPost(A:Nat->Nat->Rat)(n:Nat)(w:World)(e:Ending)(w':World):Prop:=
 Below w.heap.size w w'/\((posP A n/\∃ v1 v2 rs,e=.returned (.agg #[v1,v2])/\FacM 97 73 w' w.heap.size v1 v2 rs (Zhd A n) (dsL A n)) \/
  (¬ posP A n/\e=.panicked [{ v:=.iface 117 (.agg #[.int .i64 8]),recovered:=false }]))
theorem FacM.lower{tS tN:TypeId}{w:World}{b b':Nat}{v1 v2:Value}{rs:List RS}{Q:List (List Rat)}{ds:List Rat}(h:FacM tS tN w b v1 v2 rs Q ds)(hb:b'<=b):FacM tS tN w b' v1 v2 rs Q ds:=by
 refine⟨⟨?_,h.1.2.1,λi r hr=>(h.1.2.2.1 i r hr).lower hb,h.1.2.2.2⟩,h.2.1.lower hb,h.2.2⟩;rcases h.1.1 with h|⟨g,sp,h1,h2,h3⟩;exact .inl h;exact Cq
theorem Zpl{A:Nat->Nat->Rat}{n i k j:Nat}(h:FacP A n)(hi:i<n)(hk:k<i)(hj:j<k)(hp:posP A i):(∀ t,t<2->Sm (Zi0 (lQ A i j) [lQ A k j,dQ A j] t))/\∀ t:Nat,t<2->Sm ([lQ A k j,dQ A j][t]?.getD 0):=by
 have e:posP A (j+1):=hp.mono Gk;constructor
 ·intro t ht
  match t,ht with
  | 0,_=>exact(h.l i j Gk hi e).sm Gj Gj
  | 1,_=>exact(h.ll Gk hi Gk (show k<n by omega) e).sm Gj Gj
 intro t ht
 match t,ht with
 | 0,_=>exact(h.l k j Gk Gk e).sm Gj Gj
 | 1,_=>exact(h.d (show j<n by omega) (hp.mono Gk)).sm Gj Gj
theorem Zmk{A:Nat->Nat->Rat}{n i k:Nat}(h:FacP A n)(hi:i<n)(hk:k<i)(hp:posP A i):(∀ t,t<2->Sm (Zi0 (lQ A i k) [lQ A i k,dQ A k] t))/\∀ t:Nat,t<2->Sm ([lQ A i k,dQ A k][t]?.getD 0):=by
 have e:posP A (k+1):=hp.mono Gk;constructor
 ·intro t ht
  match t,ht with
  | 0,_=>exact(h.l i k Gk hi e).sm Gj Gj
  | 1,_=>exact(h.ll Gk hi Gk hi e).sm Gj Gj
 intro t ht
 match t,ht with
 | 0,_=>exact(h.l i k Gk hi e).sm Gj Gj
 | 1,_=>exact(h.d (show k<n by omega) (hp.mono Gk)).sm Gj Gj
theorem Zzd{A:Nat->Nat->Rat}{n i k j:Nat}(h:FacP A n)(hi:i<n)(hk:k<i)(hj:j<k)(hp:posP A i):Sm (Zn A j i k)/\Sm (Zi0 (lQ A i j) [lQ A k j,dQ A j] 2):=
 ⟨(h.s j i k Gk (hp.mono Gk) hi Gk).sm Gj Gj,(h.lld Gk hi Gk (show k<n by omega) (hp.mono Gk)).sm Gj Gj⟩
theorem Zwk{A:Nat->Nat->Rat}{n i k:Nat}(h:FacP A n)(hi:i<n)(hk:k<i)(hp:posP A i):Sm (Zn A k i i)/\Sm (Zi0 (lQ A i k) [lQ A i k,dQ A k] 2):=
 ⟨(h.s k i i Gk (hp.mono Gk) hi hi).sm Gj Gj,(h.lld Gk hi Gk hi (hp.mono Gk)).sm Gj Gj⟩
theorem fac_q{A:Nat->Nat->Rat}{n i k:Nat}(h:FacP A n)(hi:i<n)(hk:k<i)(hp:posP A i):Sm (Zn A k i k)/\Sm (dQ A k)/\dQ A k≠0:=
 ⟨(h.s k i k Gk (hp.mono Gk) hi Gk).sm Gj Gj,(h.d (show k<n by omega) (hp.mono Gk)).sm Gj Gj,hp.ne hk⟩
theorem Zug(A0:Option Addr)(n c:Nat)(Q:List (List Rat))(w:World)(h:MFL w A0 n c Q)(hn9:n<=900)(hm:∀ i,i<n->(Q[i]?.getD []).length=n)(hF:FacP (Zh Q) n) :
    Calls Tryz.prog 107 #[.slice A0 n c] w (FacPost (Zh Q) n w):=by
 obtain⟨iN,hi,F8,D9,F3⟩:=info_parts Zp1;obtain⟨iS,ki,k6,k8,k9⟩:=info_parts Z1t;have hmx:=Gt;have c3:(97:TypeId)≠73:=Gj;have K3:=h.2.1;have I5:=h.2.2.1;unfold maxLen at I5;obtain⟨AQ,s6⟩:=Gz (Zh Q);rw[s6]at hF ⊢;obtain⟨W0,F2,s8,q0,s0⟩:=Zan w 99 #[.slice none 0 0,.slice none 0 0];obtain⟨gx,g0⟩:=Gz w.heap.size;rw[g0]at q0 s0 s8;have J3:Hid (W0.heap.size=gx+1):=Zb s0;have hH:=Zb h;replace hm:=Zb hm;replace hF:=Zb hF;replace s6:=Zb s6;clear h s0;go_in;go_wp2_with fail;(try rw[F2]);(try rw[g0]);replace g0:=Zb g0;replace s8:=Zb s8;clear F2
 go_loopg [12] n (λt iv wr=>∃ (i:Nat) (v1 v2:Value) (rs:List RS),i+t=n/\iv=.int .i64 i/\Blk wr gx 99 #[v1,v2]/\FacM 97 73 wr W0.heap.size v1 v2 rs (Zhd AQ i) (dsL AQ i)/\Hid (posP AQ i)/\Kept (λk=>k=gx) W0 wr)
 case atStart=>exact⟨0,.slice none 0 0,.slice none 0 0,[],by omega,rfl,q0,FacM.nil _ _ _ _,Zb (λt ht=>by omega),Qe _ _⟩
 case round =>
  clear q0;obtain⟨wi,rfl⟩:=Gy wr;obtain⟨i,v1,v2,rs,K8,rfl,f,c6,y,hK⟩:=hrel;have K2:=J3.out;have d9:Hid (Below gx w wi):=Zb (s8.out.trans (hK.to_below (λk hk=>by omega) Gk));obtain⟨A1,c1,e1,o8⟩:=c6.1.mflA;obtain⟨A2,c2,e2,d7⟩:=c6.2.1.fl;rw[Zf0]at e1 o8;rw[Zjz]at e2 d7;subst e1;subst e2;have x0:wi.cell? ⟨gx,0,none⟩=some (.slice A1 i c1):=by rw[f.cell];rfl
  have x1:wi.cell? ⟨gx,1,none⟩=some (.slice A2 i c2):=by rw[f.cell];rfl
  have z0:=f.frozen 0;have z1:=f.frozen 1;cases gk with
  | zero =>
   obtain rfl:i=n:=Gk;have t1:decide ((i:Int)<(i:Int))=false:=Gh;obtain⟨X,hX⟩:∃ X,(wi.setCell ⟨gx,0,none⟩ (.slice A1 i c1)).setCell ⟨gx,1,none⟩ (.slice A2 i c2)=X:=⟨_,rfl⟩;have B9:Kept (λk=>k=gx) wi X:=by rw[<- hX];exact Kept.set_ (G:=λk=>k=gx) (Kept.set_ (G:=λk=>k=gx) (Qe _ _) (p:=⟨gx,0,none⟩) (.inl rfl) _) (p:=⟨gx,1,none⟩) (.inl rfl) _
   have A4:Blk X gx 99 #[.slice A1 i c1,.slice A2 i c2]:=by rw[<- hX];exact(f.set_ 0 (.slice A1 i c1)).set_ 1 (.slice A2 i c2)
   have y0:X.cell? ⟨gx,0,none⟩=some (.slice A1 i c1):=by rw[A4.cell];rfl
   have y1:X.cell? ⟨gx,1,none⟩=some (.slice A2 i c2):=by rw[A4.cell];rfl
   have I9:=Zb (c6.box f (Zk8 _ _ _ _ _ _) Gk B9);have I4:Hid (Below gx w X):=Zb (d9.out.trans (B9.to_below (λk hk=>by omega) (by have:=d9.out.size;have:=hK.size;omega)));clear c6 o8 d7 hK B9 A4 f;go_wp2_with fail;(try rw[hX]);refine bodyPost_ret (v:=.agg #[.slice A1 i c1,.slice A2 i c2]) (by simp[results,Tryz.results107,go_sem,y0,y1]) rfl ?_;refine⟨by rw[g0.out];exact I4.out,.inl ⟨y.out,_,_,rs,rfl,I9.out.lower (by rw[g0.out];omega)⟩⟩
  | succ t =>
   obtain rfl:t=n-(i+1):=Gk;have a1:i<n:=Gk;have t1:decide ((i:Int)<(n:Int))=true:=Gv Gk;have bi:(i:Int)<(n:Int):=Gk;obtain⟨ga,oa,Ar,nr,cr,rfl,k0,hR⟩:=(hH.out.below (g0.out▸d9.out)).at_ a1;obtain⟨row,e0⟩:=Gz (Q[i]?.getD []);rw[e0]at hR;have H4:n=nr:=by rw[<- hR.len,<- e0];exact(hm.out i a1).symm
   subst H4;have υ4:Hid (∀ t:Nat,row[t]?.getD 0=AQ i t):=Zb (λt=>by rw[<- s6.out,<- e0];rfl);replace e0:=Zb e0;obtain⟨gr,or_,xn,xA,xk,xc,xm,xB,xj,xd,rfl,⟨r0,r1,r2,r3⟩,hX⟩:=hR.at_ a1;rw[υ4.out]at hX;obtain⟨V1,H1,m5,p1,s1⟩:=Zan wi 73 #[.bool false,.slice none 0 0,.bool false,.slice none 0 0];obtain⟨gl,l7⟩:=Gz wi.heap.size;rw[l7]at p1 s1;obtain⟨υ0,υ1,υ2,υ3,v0,v1,v2,v3⟩:=p1.four;obtain⟨W2,F1,p2,F5,s2⟩:=Za0 xn xA xk xc xm xB xj xd p1;have n9:Below wi.heap.size wi W2:=m5.trans (F5.to_below (λk e=>by omega) m5.size);have J4:Hid (W2.heap.size=gl+1):=Zb (by rw[s2,s1]);have E4:=Zb (hX.below n9);have F0:Hid (gx<gl):=Zb (by have:=d9.out.size;have:=hK.size;omega);replace n9:=Zb n9;replace c6:=Zb c6;replace o8:=Zb o8;replace d7:=Zb d7;replace hR:=Zb hR;replace f:=Zb f;replace hK:=Zb hK;replace p2:=Zb p2;clear hX m5 F5 s1 s2;go_wp2_with fail;(try rw[l7]);(try rw[F1]);clear υ0 υ1 υ2 υ3 v0 v1 v2 v3 p1 H1 F1 r0 r1 r2 r3 k0;replace l7:=Zb l7
   go_loopg [5,23] i (λt ov kv wk=>∃ (k:Nat) (ln:Bool) (lA:Option Addr) (lk lc:Nat) (lm:Bool) (lB:Option Addr) (lj ld:Nat),k+t=i/\kv=.int .i64 k/\OwnF 73 wk W2.heap.size ov (Zjk AQ i k)/\Blk wk gl 73 #[.bool ln,.slice lA lk lc,.bool lm,.slice lB lj ld]/\Hid (Fr wk ln lA lk lc lm lB lj ld (Zn AQ k i i))/\Kept (λg=>g=gl) W2 wk)
   case atStart=>exact⟨0,_,_,_,_,_,_,_,_,by omega,rfl,OwnF.nil _ _ _,p2.out,E4,Qe _ _⟩
   case round =>
    clear p2 E4;obtain⟨wk,rfl⟩:=Gy wr;obtain⟨k,ln,lA,lk,lc,lm,lB,lj,ld,K9,rfl,a0,b4,hl,c0⟩:=hrel;have J7:=J4.out;have K0:=l7.out;have J5:=F0.out;have f9:Hid (Below wi.heap.size wi wk):=Zb (n9.out.trans (c0.to_below (λk e=>by omega) Gk));obtain⟨Ao,co,e3,c5⟩:=a0.fl;rw[Zf9]at e3 c5;subst e3;have w4:=c5.cap;unfold maxLen at w4;have b9:=Zc f9.out f.out;have F9:wk.cell? ⟨gx,0,none⟩=some (.slice A1 i c1):=by rw[b9.cell];rfl
    have C9:wk.cell? ⟨gx,1,none⟩=some (.slice A2 i c2):=by rw[b9.cell];rfl
    have E1:=b9.frozen 0;have G2:=b9.frozen 1;clear x0 x1 z0 z1;obtain⟨l0,l1,l2,l3,m0,m1,m2,m3⟩:=b4.four;cases gk with
    | zero =>
     obtain rfl:k=i:=Gk;have t2:decide ((k:Int)<(k:Int))=false:=Gh;have D1:Hid (Zn AQ k k k=dQ AQ k):=Zb rfl;by_cases hp:0<dQ AQ k
     case neg =>
      have J6:Hid (¬ posP AQ n):=Zb (λhp9=>hp (hp9 k a1));have t4:decide ((0:Int)<Zcr (Zn AQ k k k).num 0)=false:=Gu (λh=>hp (by rw[<- D1.out];exact num_pos0.1 (cmpZ_pos0.1 h)));replace hp:=Zb hp;replace c5:=Zb c5;replace a0:=Zb a0;replace c0:=Zb c0;replace b4:=Zb b4;clear b9;go_wp2_with fail;refine(Zh6 ln lA lk lc lm lB lj ld _ wk hl.out).mono ?_;rintro e w5 ⟨rfl,a5⟩;go_wp2_with fail;refine(Za5 8 w5).mono ?_;rintro e w6 ⟨rfl,rfl⟩;go_wp2_with fail;refine⟨rfl,?_,.inr ⟨J6.out,rfl⟩⟩;have h1:=d9.out.trans ((Gs f9.out a5).mono Gk);rw[g0.out];exact h1
     have y9:Hid (posP AQ (k+1)):=Zb (λt ht=>by
      rcases Qm t k with h1|h1;exact y.out t h1;rw[show t=k by omega];exact hp)
     have t4:decide ((0:Int)<Zcr (Zn AQ k k k).num 0)=true:=Gv (cmpZ_pos0.2 (num_pos0.2 (by rw[D1.out];exact hp)));replace hp:=Zb hp;replace c5:=Zb c5;replace a0:=Zb a0;replace c0:=Zb c0;replace b4:=Zb b4;clear b9;go_wp2_with fail;refine(Zh6 ln lA lk lc lm lB lj ld _ wk hl.out).mono ?_;rintro e w5 ⟨rfl,a5⟩;go_wp2_with fail;refine(Zb9 8 w5).mono ?_;rintro e w6 ⟨rfl,rfl⟩;have j2:Below wi.heap.size wi w6:=Gs f9.out a5;have r4:EnvF 97 73 99 w6 W0.heap.size W2.heap.size gl gx (.slice A1 k c1) (.slice A2 k c2) (.slice A1 k c1) (.slice A2 k c2) (.slice Ao k co) rs (Zhd AQ k) (dsL AQ k) (Zjk AQ k k) ln lA lk lc lm lB lj ld (dQ AQ k):=⟨c6.out.kept j2,a0.out.kept a5,Zc a5 b4.out,hl.out.below a5,Zc j2 f.out⟩;have I2:Hid (Kept (λk=>k=gx) W0 w6):=Zb (hK.out.below j2);have b2:gx<W0.heap.size:=Gk;have c8:Hid (gl<W2.heap.size):=Zb Gk;have c7:Hid (∀ k',(Value.slice A2 k c2).ownBlock=some k'->k'<gl):=Zb (λk' e=>by have:=c6.out.2.1.blt k' e;omega);have c9:Hid (∀ s ∈ rs,∀ k',s.val.ownBlock=some k'->k'<W2.heap.size):=Zb (λs hs k' e=>by have:=c6.out.rlt s hs k' e;omega);have L0:(rs).length=k:=by rw[c6.out.1.2.1,Zf0]
     have a6:rs.length+1<=1000:=Gk;have A3:(dsL AQ k).length+1<=1000:=by rw[Zjz];omega
     obtain⟨J8,K7⟩:=r4.cells;replace r4:=Zb r4;clear a5 j2 F9 C9 E1 G2 l0 l1 l2 l3 m0 m1 m2 m3;go_wp2_with fail;obtain⟨X0,U⟩:=Gz w6.drew;have n2:Below w6.heap.size w6 X0:=by rw[<- U];exact Zf (Qb _ _) 1
     have hE:=r4.out.below n2;have x3:Kept (λk=>k=gx) W0 X0:=I2.out.below n2;have B7:w6.drew.cell? ⟨gx,0,none⟩=some (.slice A1 k c1)/\w6.drew.cell? ⟨gx,1,none⟩=some (.slice A2 k c2):=by rw[U];exact hE.cells
     refine Zy [11,13] (λwx=>wx.cell? ⟨gx,0,none⟩=some (.slice A1 k c1)/\wx.cell? ⟨gx,1,none⟩=some (.slice A2 k c2)) hmx B7 (λhxs9=>?_);refine Zj9 5 [0,1,2,5,6] rfl Gi B7 ?_
     iterate 5 (refine tkA ?_;try simp only[Qa,Zhb,Zgo,Zg6,Gr,Gq,Gp])
     refine tk0 ?_;rw[U];clear B7 hxs9 n2 U;have k7:Hid (W0.heap.size<=W2.heap.size):=Zb Gk;refine Zda (i:=3) (j:=7) rfl rfl Gi (λK hK=>?_) (λK hK=>?_)
     focus
      obtain⟨Y1,T⟩:=Gz (X0.alloc (.cells #[.slice Ao k co] 97));obtain⟨r9,o6⟩:=Gz X0.heap.size;have υ9:Below X0.heap.size X0 Y1:=by rw[<- T];exact(Qb _ _).alloc (Qc _) _
      have n8:Blk Y1 r9 97 #[.slice Ao k co]:=by rw[<- T,<- o6];exact Qd _ _ _
      have a4:=hE.below υ9;have e6:=x3.below υ9;go_simp;(try rw[T]);(try rw[o6]);refine hK.out _ _ (λ_=>a4.cells) ?_;clear hK K T o6
      try simp only[Qa,Zhb,Zgo,Zg6]
      refine Zda (i:=4) (j:=7) rfl rfl Gi (λK hK=>?_) (λK hK=>?_)
      focus
       rw[Gx Ge];refine Zay _ (.tmp 90) (.tmp 92) 96 rfl W0.heap.size 97 iS Tryz.underlying96 ki k6 k8 k9 (.slice A1 k c1) rs rfl a4.1.1.1 _ (some ⟨r9,0,none⟩) 1 1 [⟨Ao,k,co⟩] rfl (Zgk n8) rfl a6 e6.size ?_;intro J0 Y4 D4 υ6 D8;have f4:=a4.app c3 (r:=⟨Ao,k,co⟩) rfl k7.out c9.out (λk' e=>Qf (c7.out k' e) c8.out) b2 D4 υ6 D8;have E0:=Kept.grownC e6 υ6 (λk' hk=>a4.1.1.1.row_ge k' hk);refine hK.out _ _ (λ_=>f4.cells) ?_;clear hK K
       try simp only[Qa,Zhb,Zgo,Zg6]
       refine Zgp 1 [10] rfl Gi f4.cells ?_
       (refine tkA ?_;try simp only[Qa,Zhb,Zgo,Zg6,Gr,Gq,Gp])
       refine tk0 ?_;refine wpAnyL_o 7 λK hK=>?_;obtain⟨I1,I8,H3,I3⟩:=f4.left;go_simp;refine hK.out _ _ (λ_=>f4.cells) ?_;clear hK K I1 I8 H3 I3
       try simp only[Qa,Zhb,Zgo,Zg6]
       refine wpAnyL_o 8 λK hK=>?_;obtain⟨Y6,r8⟩:=Gz (Y4.alloc (.cells #[.bool ln,.slice lA lk lc,.bool lm,.slice lB lj ld] 73));obtain⟨F7,l6⟩:=Gz Y4.heap.size;have v4:Below Y4.heap.size Y4 Y6:=by rw[<- r8];exact(Qb _ _).alloc (Qc _) _
       have C3:Blk Y6 F7 73 #[.bool ln,.slice lA lk lc,.bool lm,.slice lB lj ld]:=by rw[<- r8,<- l6];exact Qd _ _ _
       have t9:=f4.below v4;have D3:=E0.below v4;go_simp;(try rw[r8]);(try rw[l6]);refine hK.out _ _ (λ_=>t9.cells) ?_;clear hK K r8 l6
       try simp only[Qa,Zhb,Zgo,Zg6]
       have EL:=t9;have KL:=D3;have bL:=C3;obtain⟨vL,rfl⟩:∃ x:Value,x=J0:=⟨_,rfl⟩;obtain⟨gL,rfl⟩:∃ x:Nat,x=F7:=⟨_,rfl⟩;obtain⟨WL,rfl⟩:=Gy Y6
      rotate_left 1
      focus
       obtain⟨I7,H8,H2,H9⟩:=a4.left;go_simp;refine hK.out _ _ (λ_=>a4.cells) ?_;clear hK K I7 H8 H2 H9
       try simp only[Qa,Zhb,Zgo,Zg6]
       refine Zda (i:=4) (j:=8) rfl rfl Gi (λK hK=>?_) (λK hK=>?_)
       focus
        rw[Gx Ge];refine Zay _ (.tmp 90) (.tmp 92) 96 rfl W0.heap.size 97 iS Tryz.underlying96 ki k6 k8 k9 (.slice A1 k c1) rs rfl a4.1.1.1 _ (some ⟨r9,0,none⟩) 1 1 [⟨Ao,k,co⟩] rfl (Zgk n8) rfl a6 e6.size ?_;intro C5 r7 z5 m6 v7;have i3:=a4.app c3 (r:=⟨Ao,k,co⟩) rfl k7.out c9.out (λk' e=>Qf (c7.out k' e) c8.out) b2 z5 m6 v7;have y5:=Kept.grownC e6 m6 (λk' hk=>a4.1.1.1.row_ge k' hk);refine hK.out _ _ (λ_=>i3.cells) ?_;clear hK K
        try simp only[Qa,Zhb,Zgo,Zg6]
        refine Zgp 1 [10] rfl Gi i3.cells ?_
        (refine tkA ?_;try simp only[Qa,Zhb,Zgo,Zg6,Gr,Gq,Gp])
        refine tk0 ?_;refine wpAnyL_o 8 λK hK=>?_;obtain⟨B3,j7⟩:=Gz (r7.alloc (.cells #[.bool ln,.slice lA lk lc,.bool lm,.slice lB lj ld] 73));obtain⟨υ5,j0⟩:=Gz r7.heap.size;have o4:Below r7.heap.size r7 B3:=by rw[<- j7];exact(Qb _ _).alloc (Qc _) _
        have w8:Blk B3 υ5 73 #[.bool ln,.slice lA lk lc,.bool lm,.slice lB lj ld]:=by rw[<- j7,<- j0];exact Qd _ _ _
        have q8:=i3.below o4;have v6:=y5.below o4;go_simp;(try rw[j7]);(try rw[j0]);refine hK.out _ _ (λ_=>q8.cells) ?_;clear hK K j7 j0
        try simp only[Qa,Zhb,Zgo,Zg6]
        have EL:=q8;have KL:=v6;have bL:=w8;obtain⟨vL,rfl⟩:∃ x:Value,x=C5:=⟨_,rfl⟩;obtain⟨gL,rfl⟩:∃ x:Nat,x=υ5:=⟨_,rfl⟩;obtain⟨WL,rfl⟩:=Gy B3
       rotate_left 1
       focus
        obtain⟨D7,j8⟩:=Gz (Y1.alloc (.cells #[.bool ln,.slice lA lk lc,.bool lm,.slice lB lj ld] 73));obtain⟨t6,g9⟩:=Gz Y1.heap.size;have h3:Below Y1.heap.size Y1 D7:=by rw[<- j8];exact(Qb _ _).alloc (Qc _) _
        have A5:Blk D7 t6 73 #[.bool ln,.slice lA lk lc,.bool lm,.slice lB lj ld]:=by rw[<- j8,<- g9];exact Qd _ _ _
        have b8:=a4.below h3;have n0:=e6.below h3;have q6:=Zc h3 n8;go_simp;(try rw[j8]);(try rw[g9]);refine hK.out _ _ (λ_=>b8.cells) ?_;clear hK K j8 g9
        try simp only[Qa,Zhb,Zgo,Zg6]
        refine wpAnyL_o 4 λK hK=>?_;rw[Gx Ge];refine Zay _ (.tmp 90) (.tmp 92) 96 rfl W0.heap.size 97 iS Tryz.underlying96 ki k6 k8 k9 (.slice A1 k c1) rs rfl b8.1.1.1 _ (some ⟨r9,0,none⟩) 1 1 [⟨Ao,k,co⟩] rfl (Zgk q6) rfl a6 n0.size ?_;intro C7 J2 w2 i5 A6;have h4:=b8.app c3 (r:=⟨Ao,k,co⟩) rfl k7.out c9.out (λk' e=>Qf (c7.out k' e) c8.out) b2 w2 i5 A6;have w3:=Kept.grownC n0 i5 (λk' hk=>b8.1.1.1.row_ge k' hk);have k2:=b8.far c3 i5 A5;refine hK.out _ _ (λ_=>h4.cells) ?_;clear hK K
        try simp only[Qa,Zhb,Zgo,Zg6]
        refine Zgp 1 [10] rfl Gi h4.cells ?_
        (refine tkA ?_;try simp only[Qa,Zhb,Zgo,Zg6,Gr,Gq,Gp])
        refine tk0 ?_;have EL:=h4;have KL:=w3;have bL:=k2;obtain⟨vL,rfl⟩:∃ x:Value,x=C7:=⟨_,rfl⟩;obtain⟨gL,rfl⟩:∃ x:Nat,x=t6:=⟨_,rfl⟩;obtain⟨WL,rfl⟩:=Gy J2
     rotate_left 3
     focus
      obtain⟨G3,F4,E9,E3⟩:=hE.left;go_simp;refine hK.out _ _ (λ_=>hE.cells) ?_;clear hK K G3 F4 E9 E3
      try simp only[Qa,Zhb,Zgo,Zg6]
      refine Zda (i:=3) (j:=8) rfl rfl Gi (λK hK=>?_) (λK hK=>?_)
      focus
       obtain⟨j9,j5⟩:=Gz (X0.alloc (.cells #[.slice Ao k co] 97));obtain⟨n5,i7⟩:=Gz X0.heap.size;have q5:Below X0.heap.size X0 j9:=by rw[<- j5];exact(Qb _ _).alloc (Qc _) _
       have m8:Blk j9 n5 97 #[.slice Ao k co]:=by rw[<- j5,<- i7];exact Qd _ _ _
       have b7:=hE.below q5;have i9:=x3.below q5;go_simp;(try rw[j5]);(try rw[i7]);refine hK.out _ _ (λ_=>b7.cells) ?_;clear hK K j5 i7
       try simp only[Qa,Zhb,Zgo,Zg6]
       refine Zda (i:=4) (j:=8) rfl rfl Gi (λK hK=>?_) (λK hK=>?_)
       focus
        rw[Gx Ge];refine Zay _ (.tmp 90) (.tmp 92) 96 rfl W0.heap.size 97 iS Tryz.underlying96 ki k6 k8 k9 (.slice A1 k c1) rs rfl b7.1.1.1 _ (some ⟨n5,0,none⟩) 1 1 [⟨Ao,k,co⟩] rfl (Zgk m8) rfl a6 i9.size ?_;intro C8 r5 z3 o7 x5;have h2:=b7.app c3 (r:=⟨Ao,k,co⟩) rfl k7.out c9.out (λk' e=>Qf (c7.out k' e) c8.out) b2 z3 o7 x5;have B2:=Kept.grownC i9 o7 (λk' hk=>b7.1.1.1.row_ge k' hk);refine hK.out _ _ (λ_=>h2.cells) ?_;clear hK K
        try simp only[Qa,Zhb,Zgo,Zg6]
        refine Zgp 1 [10] rfl Gi h2.cells ?_
        (refine tkA ?_;try simp only[Qa,Zhb,Zgo,Zg6,Gr,Gq,Gp])
        refine tk0 ?_;refine wpAnyL_o 8 λK hK=>?_;obtain⟨x2,j6⟩:=Gz (r5.alloc (.cells #[.bool ln,.slice lA lk lc,.bool lm,.slice lB lj ld] 73));obtain⟨υ8,i1⟩:=Gz r5.heap.size;have m7:Below r5.heap.size r5 x2:=by rw[<- j6];exact(Qb _ _).alloc (Qc _) _
        have B4:Blk x2 υ8 73 #[.bool ln,.slice lA lk lc,.bool lm,.slice lB lj ld]:=by rw[<- j6,<- i1];exact Qd _ _ _
        have o5:=h2.below m7;have B8:=B2.below m7;go_simp;(try rw[j6]);(try rw[i1]);refine hK.out _ _ (λ_=>o5.cells) ?_;clear hK K j6 i1
        try simp only[Qa,Zhb,Zgo,Zg6]
        have EL:=o5;have KL:=B8;have bL:=B4;obtain⟨vL,rfl⟩:∃ x:Value,x=C8:=⟨_,rfl⟩;obtain⟨gL,rfl⟩:∃ x:Nat,x=υ8:=⟨_,rfl⟩;obtain⟨WL,rfl⟩:=Gy x2
       rotate_left 1
       focus
        obtain⟨E5,j4⟩:=Gz (j9.alloc (.cells #[.bool ln,.slice lA lk lc,.bool lm,.slice lB lj ld] 73));obtain⟨υ7,h9⟩:=Gz j9.heap.size;have i6:Below j9.heap.size j9 E5:=by rw[<- j4];exact(Qb _ _).alloc (Qc _) _
        have v5:Blk E5 υ7 73 #[.bool ln,.slice lA lk lc,.bool lm,.slice lB lj ld]:=by rw[<- j4,<- h9];exact Qd _ _ _
        have b5:=b7.below i6;have m4:=i9.below i6;have l4:=Zc i6 m8;go_simp;(try rw[j4]);(try rw[h9]);refine hK.out _ _ (λ_=>b5.cells) ?_;clear hK K j4 h9
        try simp only[Qa,Zhb,Zgo,Zg6]
        refine wpAnyL_o 4 λK hK=>?_;rw[Gx Ge];refine Zay _ (.tmp 90) (.tmp 92) 96 rfl W0.heap.size 97 iS Tryz.underlying96 ki k6 k8 k9 (.slice A1 k c1) rs rfl b5.1.1.1 _ (some ⟨n5,0,none⟩) 1 1 [⟨Ao,k,co⟩] rfl (Zgk l4) rfl a6 m4.size ?_;intro D0 H5 B1 g8 y8;have i0:=b5.app c3 (r:=⟨Ao,k,co⟩) rfl k7.out c9.out (λk' e=>Qf (c7.out k' e) c8.out) b2 B1 g8 y8;have A8:=Kept.grownC m4 g8 (λk' hk=>b5.1.1.1.row_ge k' hk);have k4:=b5.far c3 g8 v5;refine hK.out _ _ (λ_=>i0.cells) ?_;clear hK K
        try simp only[Qa,Zhb,Zgo,Zg6]
        refine Zgp 1 [10] rfl Gi i0.cells ?_
        (refine tkA ?_;try simp only[Qa,Zhb,Zgo,Zg6,Gr,Gq,Gp])
        refine tk0 ?_;have EL:=i0;have KL:=A8;have bL:=k4;obtain⟨vL,rfl⟩:∃ x:Value,x=D0:=⟨_,rfl⟩;obtain⟨gL,rfl⟩:∃ x:Nat,x=υ7:=⟨_,rfl⟩;obtain⟨WL,rfl⟩:=Gy H5
      rotate_left 2
      focus
       obtain⟨k5,j3⟩:=Gz (X0.alloc (.cells #[.bool ln,.slice lA lk lc,.bool lm,.slice lB lj ld] 73));obtain⟨t5,h0⟩:=Gz X0.heap.size;have l5:Below X0.heap.size X0 k5:=by rw[<- j3];exact(Qb _ _).alloc (Qc _) _
       have w7:Blk k5 t5 73 #[.bool ln,.slice lA lk lc,.bool lm,.slice lB lj ld]:=by rw[<- j3,<- h0];exact Qd _ _ _
       have q7:=hE.below l5;have y6:=x3.below l5;go_simp;(try rw[j3]);(try rw[h0]);refine hK.out _ _ (λ_=>q7.cells) ?_;clear hK K j3 h0
       try simp only[Qa,Zhb,Zgo,Zg6]
       refine wpAnyL_o 3 λK hK=>?_;obtain⟨G1,j1⟩:=Gz (k5.alloc (.cells #[.slice Ao k co] 97));obtain⟨t7,i4⟩:=Gz k5.heap.size;have h5:Below k5.heap.size k5 G1:=by rw[<- j1];exact(Qb _ _).alloc (Qc _) _
       have A7:Blk G1 t7 97 #[.slice Ao k co]:=by rw[<- j1,<- i4];exact Qd _ _ _
       have b6:=q7.below h5;have q9:=y6.below h5;have k3:=Zc h5 w7;go_simp;(try rw[j1]);(try rw[i4]);refine hK.out _ _ (λ_=>b6.cells) ?_;clear hK K j1 i4
       try simp only[Qa,Zhb,Zgo,Zg6]
       refine wpAnyL_o 4 λK hK=>?_;rw[Gx Ge];refine Zay _ (.tmp 90) (.tmp 92) 96 rfl W0.heap.size 97 iS Tryz.underlying96 ki k6 k8 k9 (.slice A1 k c1) rs rfl b6.1.1.1 _ (some ⟨t7,0,none⟩) 1 1 [⟨Ao,k,co⟩] rfl (Zgk A7) rfl a6 q9.size ?_;intro E6 G8 w9 i2 v9;have i8:=b6.app c3 (r:=⟨Ao,k,co⟩) rfl k7.out c9.out (λk' e=>Qf (c7.out k' e) c8.out) b2 w9 i2 v9;have x8:=Kept.grownC q9 i2 (λk' hk=>b6.1.1.1.row_ge k' hk);have d4:=b6.far c3 i2 k3;refine hK.out _ _ (λ_=>i8.cells) ?_;clear hK K
       try simp only[Qa,Zhb,Zgo,Zg6]
       refine Zgp 1 [10] rfl Gi i8.cells ?_
       (refine tkA ?_;try simp only[Qa,Zhb,Zgo,Zg6,Gr,Gq,Gp])
       refine tk0 ?_;have EL:=i8;have KL:=x8;have bL:=d4;obtain⟨vL,rfl⟩:∃ x:Value,x=E6:=⟨_,rfl⟩;obtain⟨gL,rfl⟩:∃ x:Nat,x=t5:=⟨_,rfl⟩;obtain⟨WL,rfl⟩:=Gy G8
     all_goals
      refine wpAnyL_o 9 λK hK=>?_;rw[Gx Ge];refine Za4 _ (.tmp 95) (.tmp 97) 97 rfl W0.heap.size 73 iN Tryz.underlying97 hi F8 D9 F3 (.slice A2 k c2) _ rfl EL.1.2.1 _ (some ⟨gL,0,none⟩) 1 1 [⟨ln,lA,lk,lc,lm,lB,lj,ld,dQ AQ k⟩] rfl (Zb7 _ bL) rfl (by intro e he;rw[Qk]at he;subst he;exact EL.2.2.1) A3 KL.size ?_;intro G4 h7 C1 m9 x9 C0;obtain⟨f1,f3⟩:=EL.app c3 b2 C1 m9 x9 C0;have w0:=Kept.grownC KL m9 (λk' hk=>EL.1.2.1.row_ge k' hk);refine hK.out _ _ (λ_=>⟨by rw[f3.cell];rfl,by rw[f3.cell];rfl⟩) ?_;clear hK K
      try simp only[Qa,Zhb,Zgo,Zg6]
      obtain⟨a7,a9,e7,-⟩:=f1.1.mflA;obtain⟨b1,b3,e8,-⟩:=f1.2.1.fl;rw[<- Znf,Zf0]at e7;subst e7;obtain rfl:G4=.slice b1 (k+1) b3:=by rw[e8];congr 1;simp[Zjz]
      clear e8;have f6:Kept (λk=>k=gx) h7 ((h7.setCell ⟨gx,0,none⟩ (.slice a7 (k+1) a9)).setCell ⟨gx,1,none⟩ (.slice b1 (k+1) b3)):=Kept.set_ (G:=λk=>k=gx) (Kept.set_ (G:=λk=>k=gx) (Qe _ _) (p:=⟨gx,0,none⟩) (.inl rfl) _) (p:=⟨gx,1,none⟩) (.inl rfl) _;have f5:Blk (h7.setCell ⟨gx,0,none⟩ (.slice a7 (k+1) a9)) gx 99 #[.slice a7 (k+1) a9,.slice A2 k c2]:=f3.set_ 0 _;have f7:Blk ((h7.setCell ⟨gx,0,none⟩ (.slice a7 (k+1) a9)).setCell ⟨gx,1,none⟩ (.slice b1 (k+1) b3)) gx 99 #[.slice a7 (k+1) a9,.slice b1 (k+1) b3]:=f5.set_ 1 _;have f8:=f1.box f3 (Zk8 _ _ _ _ _ _) b2 f6;have υ0:h7.cell? ⟨gx,0,none⟩=some (.slice A1 k c1):=by rw[f3.cell];rfl
      have H6:=f3.frozen 0;have υ1:(h7.setCell ⟨gx,0,none⟩ (.slice a7 (k+1) a9)).cell? ⟨gx,1,none⟩=some (.slice A2 k c2):=by rw[f5.cell];rfl
      have G7:=f5.frozen 1;have s5:=w0.trans f6;obtain⟨Z9,z8⟩:∃ Z,((h7.setCell ⟨gx,0,none⟩ (.slice a7 (k+1) a9)).setCell ⟨gx,1,none⟩ (.slice b1 (k+1) b3))=Z:=⟨_,rfl⟩;rw[z8]at f7 f8 s5;replace f7:=Zb f7;replace f8:=Zb f8;replace s5:=Zb s5;clear f1 f3 f6;refine Zv (i:=11) rfl Gi Gi (λK hK=>?_);go_simp;refine hK.out _ _ ?_;clear hK K
      try simp only[Qa,Zhb,Zgo,Zg6]
      (refine Zj (i:=12) (v:=?_) rfl Gi Gi Gi Gi (Or.inl ⟨by kernel_rfl,?_⟩) (λhno=>absurd hno Gj) ?_;rotate_left;(· intro W2 _;go_simp;try with_reducible rfl);try simp only[Qa,Zhb,Zgo,Zg6,Gr,Gq,Gp])
      refine Zv (i:=13) rfl Gi Gi (λK hK=>?_);go_simp;(try rw[z8]);refine hK.out _ _ ?_;clear hK K
      try simp only[Qa,Zhb,Zgo,Zg6]
      refine wpAnyL_fin ?_;clear z8 υ0 H6 υ1 G7 f5;go_wp2_with fail
      go_roundg (n-(k+1))
      case measure=>omega
      case rel=>exact⟨k+1,_,_,rs ++ [⟨Ao,k,co⟩],by omega,by go_num,f7.out,by rw[Znf,Z1m];exact f8.out,y9,s5.out⟩
    | succ t2 =>
     obtain rfl:t2=i-(k+1):=Gk;have J:k<i:=Gk;have t2:decide ((k:Int)<(i:Int))=true:=Gv Gk;have bki:(k:Int)<(i:Int):=Gk;have bkn:(k:Int)<(n:Int):=Gk;obtain⟨yn,yA,yk,yc,ym,yB,yj,yd,⟨r0,r1,r2,r3⟩,hY⟩:=(hR.out.below f9.out).atS (show k<n by omega);rw[υ4.out]at hY;obtain⟨V3,G9,o9,p3,s3⟩:=Zan wk 73 #[.bool false,.slice none 0 0,.bool false,.slice none 0 0];obtain⟨gs,n1⟩:=Gz wk.heap.size;rw[n1]at p3 s3;obtain⟨υ0,υ1,υ2,υ3,v0,v1,v2,v3⟩:=p3.four;obtain⟨W4,E7,p4,E2,s4⟩:=Za0 yn yA yk yc ym yB yj yd p3;have r6:Below wk.heap.size wk W4:=o9.trans (E2.to_below (λk e=>by omega) o9.size);have H7:Hid (W4.heap.size=gs+1):=Zb (by rw[s4,s3]);have C6:=Zb (hY.below r6);have J9:Hid (gl<gs):=Zb (by have:=b4.lt;omega);replace r6:=Zb r6;replace a0:=Zb a0;replace c5:=Zb c5;replace b4:=Zb b4;replace c0:=Zb c0;replace p4:=Zb p4;clear hY o9 E2 s3 s4 b9;go_wp2_with fail;(try rw[n1]);(try rw[E7]);clear υ0 υ1 υ2 υ3 v0 v1 v2 v3 p3 G9 E7 r0 r1 r2 r3 F9 C9 E1 G2 l0 l1 l2 l3 m0 m1 m2 m3;replace n1:=Zb n1
     go_loopg [32] k (λt jv wj=>∃ (j:Nat) (sn:Bool) (sA:Option Addr) (sk sc:Nat) (sm:Bool) (sB:Option Addr) (sj sd:Nat),j+t=k/\jv=.int .i64 j/\Blk wj gs 73 #[.bool sn,.slice sA sk sc,.bool sm,.slice sB sj sd]/\Hid (Fr wj sn sA sk sc sm sB sj sd (Zn AQ j i k))/\Kept (λg=>g=gs) W4 wj)
     case atStart=>exact⟨0,_,_,_,_,_,_,_,_,by omega,rfl,p4.out,C6,Qe _ _⟩
     case round =>
      clear p4 C6;obtain⟨wj,rfl⟩:=Gy wr;obtain⟨j,sn,sA,sk,sc,sm,sB,sj,sd,L1,rfl,z4,hs,B6⟩:=hrel;have K1:=H7.out;have K6:=n1.out;have q4:Hid (Below wk.heap.size wk wj):=Zb (r6.out.trans (B6.to_below (λk e=>by omega) Gk));have d6:Hid (Below wi.heap.size wi wj):=Zb (Gs f9.out q4.out);have l9:=Zc d6.out f.out;have C2:wj.cell? ⟨gx,0,none⟩=some (.slice A1 i c1):=by rw[l9.cell];rfl
      have x6:wj.cell? ⟨gx,1,none⟩=some (.slice A2 i c2):=by rw[l9.cell];rfl
      obtain⟨s0,s1,s2,s3,y0,y1,y2,y3⟩:=z4.four;cases gk with
      | zero =>
       obtain rfl:j=k:=Gk;have t3:decide ((j:Int)<(j:Int))=false:=Gh;obtain⟨gd,C,dn,dA,dk,dc,dm,dB,dj,dd,rfl,⟨d0,d1,d2,d3⟩,hD⟩:=(d7.out.below d6.out).at_ J;rw[Zqk J]at hD;replace hD:=Zb hD;go_wp2_with fail;obtain⟨X0,U⟩:=Gz wj.drew;have V:Below wj.heap.size wj X0:=by rw[<- U];exact Zf (Qb _ _) 1
       have u:Hid (∀ wx,Below wj.heap.size wj wx->wx.cell? ⟨gs,0,none⟩=some (.bool sn)/\wx.cell? ⟨gs,1,none⟩=some (.slice sA sk sc)/\wx.cell? ⟨gs,2,none⟩=some (.bool sm)/\wx.cell? ⟨gs,3,none⟩=some (.slice sB sj sd)/\wx.cell? ⟨gx,1,none⟩=some (.slice (some ⟨gd,C,none⟩) i c2)/\wx.cell? ⟨gd,C+j*4,none⟩=some (.bool dn)/\wx.cell? ⟨gd,C+j*4+1,none⟩=some (.slice dA dk dc)/\wx.cell? ⟨gd,C+j*4+2,none⟩=some (.bool dm)/\wx.cell? ⟨gd,C+j*4+3,none⟩=some (.slice dB dj dd)):=Zb (λwx f=>⟨Za f s0,Za f s1,Za f s2,Za f s3,Za f x6,Za f d0,Za f d1,Za f d2,Za f d3⟩);refine wp_heldS [] hmx u (by rw[U];exact V) (λhxs=>?_);rw[U];refine Zj9 7 [0,1,2,3,4,5,6] rfl Gi (u.out _ V) ?_
       iterate 7 (refine tkA ?_;try simp only[Qa,Zhb,Zgo,Zg6,Gr,Gq,Gp])
       refine tk0 ?_;refine wpAnyL_o 7 λK hK=>?_;go_simp;refine(Znm sn sm dn dm sA sB dA dB sk sc sj sd dk dc dj dd _ _ X0 (hs.out.below V) (hD.out.below V) (fac_q hF.out a1 J y.out).1 (fac_q hF.out a1 J y.out).2.1 (fac_q hF.out a1 J y.out).2.2).mono ?_;rintro e w5 ⟨a5,an,aA,ak,ac,am,aB,aj,ad,rfl,hT⟩;have a3:=Gs V a5;refine hK.out _ _ (λ_=>u.out _ a3) ?_;clear hK K
       try simp only[Qa,Zhb,Zgo,Zg6]
       obtain⟨Y1,T⟩:=Gz (w5.alloc (.cells #[.bool an,.slice aA ak ac,.bool am,.slice aB aj ad] 73));obtain⟨g5,a2⟩:=Gz w5.heap.size;have d5:Below w5.heap.size w5 Y1:=by rw[<- T];exact(Qb _ _).alloc (Qc _) _
       have d8:Blk Y1 g5 73 #[.bool an,.slice aA ak ac,.bool am,.slice aB aj ad]:=by rw[<- T,<- a2];exact Qd _ _ _
       have O:Below wj.heap.size wj Y1:=Gs a3 d5;refine wpAnyL_o 8 λK hK=>?_;go_simp;(try rw[T]);(try rw[a2]);refine hK.out _ _ (λ_=>u.out _ O) ?_;clear hK K T a2
       try simp only[Qa,Zhb,Zgo,Zg6]
       have E8:=hT.below d5;have a8:Below wk.heap.size wk Y1:=Gs q4.out O;have B5:=a0.out.kept a8;have D2:W2.heap.size<=Y1.heap.size:=Qj c0.out.size a8.size;have l8:(Zjk AQ i j).length+1<=1000:=by rw[Zf9];omega
       refine wpAnyL_o 9 λK hK=>?_;rw[Gx Ge];refine Za4 _ (.tmp 57) (.tmp 65) 97 rfl W2.heap.size 73 iN Tryz.underlying97 hi F8 D9 F3 (.slice Ao j co) _ rfl B5 _ (some ⟨g5,0,none⟩) 1 1 [⟨an,aA,ak,ac,am,aB,aj,ad,Zn AQ j i j/dQ AQ j⟩] rfl (Zb7 _ d8) rfl (by intro e he;rw[Qk]at he;subst he;exact E8) l8 D2 ?_;intro vY Y2 C4 e5 x7 J1;have g2:OwnF 73 Y2 W2.heap.size vY (Zjk AQ i (j+1)):=by rw[Zyz];exact C4
       obtain⟨Ap,cp,e4,n6⟩:=g2.fl;rw[Zf9]at e4 n6;subst e4;have g6:=B5.row_ge;have n7:=a0.out.blt;have h6:Hid (Kept (λg=>g=gl) W2 Y1):=Zb (c0.out.below a8);have t0:Hid (Kept (λg=>g=gl) W2 Y2):=Zb ⟨e5.os.trans h6.out.os,e5.tape.trans h6.out.tape,e5.output.trans h6.out.output,Qj h6.out.size e5.size,λg hg hne=>(e5.block g (Qr hg h6.out.size) (λe=>by have:=g6 g (by first|exact e|exact e.symm);omega)).trans (h6.out.block g hg hne)⟩;have t8:Hid (Blk Y2 gl 73 #[.bool ln,.slice lA lk lc,.bool lm,.slice lB lj ld]):=Zb ((e5.block gl (Qr b4.out.lt a8.size) (λe=>by have:=g6 gl (by first|exact e|exact e.symm);omega)).trans (Zc a8 b4.out));have G6:Hid (Fr Y2 ln lA lk lc lm lB lj ld (Zn AQ j i i)):=Zb ⟨⟨hl.out.1.1,hl.out.1.2.1,x7 _ _ _ _ (hl.out.below a8).1.2.2⟩,⟨hl.out.2.1,hl.out.2.2.1,x7 _ _ _ _ (hl.out.below a8).2.2.2⟩⟩;have s9:Hid (Below wi.heap.size wi Y2):=Zb (n9.out.trans (t0.out.to_below (λg e=>by omega) Gk));obtain⟨_,_,_,_,_,_,_,_,⟨D5,-⟩,-⟩:=d7.out.atS J;have I0:gd<wi.heap.size:=Zo D5
       have I:∀ (g o:Nat) (v:Value),(∀ k',(Value.slice Ao j co).ownBlock=some k'->k'≠g)->Y1.cell? ⟨g,o,none⟩=some v->Y2.cell? ⟨g,o,none⟩=some v:=λg o v hne hv=>by
        rw[<- hv];exact World.cell?_of_block (e5.block g (Zo hv) (λe=>hne g (by first|exact e|exact e.symm) rfl))
       have n3:Y2.cell? ⟨gs,0,none⟩=some (.bool sn)/\Y2.cell? ⟨gs,1,none⟩=some (.slice sA sk sc)/\Y2.cell? ⟨gs,2,none⟩=some (.bool sm)/\Y2.cell? ⟨gs,3,none⟩=some (.slice sB sj sd)/\Y2.cell? ⟨gx,1,none⟩=some (.slice (some ⟨gd,C,none⟩) i c2)/\Y2.cell? ⟨gd,C+j*4,none⟩=some (.bool dn)/\Y2.cell? ⟨gd,C+j*4+1,none⟩=some (.slice dA dk dc)/\Y2.cell? ⟨gd,C+j*4+2,none⟩=some (.bool dm)/\Y2.cell? ⟨gd,C+j*4+3,none⟩=some (.slice dB dj dd):=by
        obtain⟨p0,p1,p2,p3,p4,p5,p6,p7,p8⟩:=u.out _ O;refine⟨I _ _ _ (λk' e=>by have:=n7 k' e;omega) p0,I _ _ _ (λk' e=>by have:=n7 k' e;omega) p1,I _ _ _ (λk' e=>by have:=n7 k' e;omega) p2,I _ _ _ (λk' e=>by have:=n7 k' e;omega) p3,I _ _ _ (λk' e=>by have:=g6 k' e;omega) p4,I _ _ _ (λk' e=>by have:=g6 k' e;omega) p5,I _ _ _ (λk' e=>by have:=g6 k' e;omega) p6,I _ _ _ (λk' e=>by have:=g6 k' e;omega) p7,I _ _ _ (λk' e=>by have:=g6 k' e;omega) p8⟩
       refine hK.out _ _ (λ_=>n3) ?_;clear hK K D5 I
       try simp only[Qa,Zhb,Zgo,Zg6]
       refine Zgp 1 [10] rfl Gi n3 ?_
       (refine tkA ?_;try simp only[Qa,Zhb,Zgo,Zg6,Gr,Gq,Gp])
       refine tk0 ?_;refine wpAnyL_fin ?_;replace g2:=Zb g2;replace n6:=Zb n6;clear n3 I0 u hxs V O a3 d8 d5 U C4 e5 x7 J1 g6 n7 B5 E8 hT a8 h6 D2 l8 s0 s1 s2 s3 y0 y1 y2 y3 C2 x6 d0 d1 d2 d3 hD z4 hs B6 l9 q4 d6 hl b4 c0 a0 c5;obtain⟨l0,l1,l2,l3,-⟩:=t8.out.four;have G0:=Zc s9.out f.out;have H0:Y2.cell? ⟨gx,1,none⟩=some (.slice (some ⟨gd,C,none⟩) i c2):=by rw[G0.cell];rfl
       obtain⟨dn,dA,dk,dc,dm,dB,dj,dd,⟨d0,d1,d2,d3⟩,hD⟩:=(d7.out.below s9.out).atS J;rw[Zqk J]at hD;replace hD:=Zb hD;obtain⟨go,oo,on_,oA,ok,oc,om,oB,oj,od,rfl,⟨o0,o1,o2,o3⟩,hO⟩:=n6.out.at_ (Ql j);rw[Zl4 (Ql j)]at hO;replace hO:=Zb hO;have x4:=n6.out.cap;unfold maxLen at x4;have bjs:(j:Int)<((j:Int)+1):=Gk;have K4:(j:Int)<((j+1:Nat):Int):=Gk;have bji:(j:Int)<(i:Int):=Gk;go_wp2_with fail;obtain⟨X0,U⟩:=Gz Y2.drew;have V:Below Y2.heap.size Y2 X0:=by rw[<- U];exact Zf (Qb _ _) 1
       have u:Hid (∀ wx,Below Y2.heap.size Y2 wx->wx.cell? ⟨gl,0,none⟩=some (.bool ln)/\wx.cell? ⟨gl,1,none⟩=some (.slice lA lk lc)/\wx.cell? ⟨gl,2,none⟩=some (.bool lm)/\wx.cell? ⟨gl,3,none⟩=some (.slice lB lj ld)/\wx.cell? ⟨go,oo+j*4,none⟩=some (.bool on_)/\wx.cell? ⟨go,oo+j*4+1,none⟩=some (.slice oA ok oc)/\wx.cell? ⟨go,oo+j*4+2,none⟩=some (.bool om)/\wx.cell? ⟨go,oo+j*4+3,none⟩=some (.slice oB oj od)/\wx.cell? ⟨gx,1,none⟩=some (.slice (some ⟨gd,C,none⟩) i c2)/\wx.cell? ⟨gd,C+j*4,none⟩=some (.bool dn)/\wx.cell? ⟨gd,C+j*4+1,none⟩=some (.slice dA dk dc)/\wx.cell? ⟨gd,C+j*4+2,none⟩=some (.bool dm)/\wx.cell? ⟨gd,C+j*4+3,none⟩=some (.slice dB dj dd)):=Zb (λwx f=>⟨Za f l0,Za f l1,Za f l2,Za f l3,Za f o0,Za f o1,Za f o2,Za f o3,Za f H0,Za f d0,Za f d1,Za f d2,Za f d3⟩);refine wp_heldS [17] hmx u (by rw[U];exact V) (λhxs=>?_);rw[U];refine Zj9 14 [0,1,2,3,4,5,6,7,8,9,10,11,12,13] rfl Gi (u.out _ V) ?_
       iterate 14 (refine tkA ?_;try simp only[Qa,Zhb,Zgo,Zg6,Gr,Gq,Gp])
       refine tk0 ?_;obtain⟨Y1,T⟩:=Gz (X0.alloc (.cells #[.bool on_,.slice oA ok oc,.bool om,.slice oB oj od,.bool dn,.slice dA dk dc,.bool dm,.slice dB dj dd] 73));obtain⟨g5,a2⟩:=Gz X0.heap.size;have d5:Below X0.heap.size X0 Y1:=by rw[<- T];exact(Qb _ _).alloc (Qc _) _
       have d8:Blk Y1 g5 73 #[.bool on_,.slice oA ok oc,.bool om,.slice oB oj od,.bool dn,.slice dA dk dc,.bool dm,.slice dB dj dd]:=by rw[<- T,<- a2];exact Qd _ _ _
       have O:Below Y2.heap.size Y2 Y1:=Gs V d5;refine wpAnyL_o 14 λK hK=>?_;go_simp;(try rw[T]);(try rw[a2]);refine hK.out _ _ (λ_=>u.out _ O) ?_;clear hK K T a2
       try simp only[Qa,Zhb,Zgo,Zg6]
       refine wpAnyL_o 15 λK hK=>?_;go_simp;refine(Zcf on_ oA ok oc om oB oj od (lQ AQ i j) (some ⟨g5,0,none⟩) 2 2 [lQ AQ i j,dQ AQ j] Y1 (hO.out.below O) (FL.pair2 d8 (hO.out.below O) (hD.out.below O)) Gk (Zmk hF.out a1 J y.out).1 (Zmk hF.out a1 J y.out).2).mono ?_;rintro e w5 ⟨a5,an,aA,ak,ac,am,aB,aj,ad,rfl,hT⟩;have a3:=Gs O a5;refine hK.out _ _ (λ_=>u.out _ a3) ?_;clear hK K
       try simp only[Qa,Zhb,Zgo,Zg6]
       refine wpAnyL_o 16 λK hK=>?_;go_simp;refine(Ze2 ln lm an am lA lB aA aB lk lc lj ld ak ac aj ad _ _ w5 (G6.out.below a3) hT (Zwk hF.out a1 J y.out).1 (Zwk hF.out a1 J y.out).2).mono ?_;rintro e w6 ⟨y4,bn,bA,bk,bc,bm,bB,bj,bd,rfl,hU⟩;have g7:=Gs a3 y4;refine hK.out _ _ (λ_=>u.out _ g7) ?_;clear hK K
       try simp only[Qa,Zhb,Zgo,Zg6]
       have b0:Below Y2.heap.size Y2 w6:=g7;have c4:=Zc b0 t8.out;obtain⟨f0,f1,f2,f3,w1,y7,v8,z9⟩:=c4.four;obtain⟨W7,p9,p7,e9,s7⟩:=Za0 bn bA bk bc bm bB bj bd c4;have n4:=Zb (hU.keptN e9 c4 (Zbh _ _ _ _ _ _ _ _));have A9:=Zb ((g2.out.kept b0).keptG c4 (Zbh _ _ _ _ _ _ _ _) (λe=>by have h8:=g2.out.row_ge gl e;omega) e9);have z7:Hid (Kept (λg=>g=gl) W2 W7):=Zb ((t0.out.below b0).trans e9);replace p7:=Zb p7;clear e9 hU hT;refine Zv (i:=17) rfl Gi Gi (λK hK=>?_);go_simp;(try rw[p9]);refine hK.out _ _ ?_;clear hK K
       try simp only[Qa,Zhb,Zgo,Zg6]
       refine wpAnyL_fin ?_;clear p9 f0 f1 f2 f3 w1 y7 v8 z9 c4 u hxs V O a3 g7 b0 d8 d5 U
       have z6:Hid (Fr W7 bn bA bk bc bm bB bj bd (Zn AQ (j+1) i i)):=Zb (by
        rw[Zmq hF.out.sym J (Qc _) a1 (y.out.ne J)];exact n4.out)
       have G5:Hid (OwnF 73 W7 W2.heap.size (.slice (some ⟨go,oo,none⟩) (j+1) cp) (Zjk AQ i (j+1))):=Zb (A9.out);clear n4;go_wp2_with fail
       go_roundg (i-(j+1))
       case measure=>omega
       case rel=>exact⟨j+1,_,_,_,_,_,_,_,_,by omega,by go_num,G5.out,p7.out,z6,z7.out⟩
      | succ t3 =>
       obtain rfl:t3=k-(j+1):=Gk;have g4:j<k:=Gk;have t3:decide ((j:Int)<(k:Int))=true:=Gv Gk;have bjk:(j:Int)<(k:Int):=Gk;have bji:(j:Int)<(i:Int):=Gk;have K5:(k:Int)<(i:Int):=Gk;obtain⟨go,oo,on_,oA,ok,oc,om,oB,oj,od,rfl,⟨o0,o1,o2,o3⟩,hO⟩:=(c5.out.below q4.out).at_ g4;obtain⟨g1,F6,A',n',c',rfl,ck,k1⟩:=(o8.out.below d6.out).at_ J;rw[Zm2 J]at k1;have D6:n'=k:=by rw[<- k1.len,Zf9]
       rw[D6]at k1 ck;clear D6 n';have I6:=k1.cap;unfold maxLen at I6;obtain⟨gq,oq,qn,qA,qk,qc,qm,qB,qj,qd,rfl,⟨q0,q1,q2,q3⟩,hQ⟩:=k1.at_ g4;obtain⟨gd,C,dn,dA,dk,dc,dm,dB,dj,dd,rfl,⟨d0,d1,d2,d3⟩,hD⟩:=(d7.out.below d6.out).at_ (show j<i by omega);rw[Zl4 g4]at hO hQ;rw[Zqk (show j<i by omega)]at hD;replace hO:=Zb hO;replace hQ:=Zb hQ;replace hD:=Zb hD;clear k1;go_wp2_with fail;obtain⟨X0,U⟩:=Gz wj.drew;have V:Below wj.heap.size wj X0:=by rw[<- U];exact Zf (Qb _ _) 1
       have u:Hid (∀ wx,Below wj.heap.size wj wx->wx.cell? ⟨gs,0,none⟩=some (.bool sn)/\wx.cell? ⟨gs,1,none⟩=some (.slice sA sk sc)/\wx.cell? ⟨gs,2,none⟩=some (.bool sm)/\wx.cell? ⟨gs,3,none⟩=some (.slice sB sj sd)/\wx.cell? ⟨go,oo+j*4,none⟩=some (.bool on_)/\wx.cell? ⟨go,oo+j*4+1,none⟩=some (.slice oA ok oc)/\wx.cell? ⟨go,oo+j*4+2,none⟩=some (.bool om)/\wx.cell? ⟨go,oo+j*4+3,none⟩=some (.slice oB oj od)/\wx.cell? ⟨gx,0,none⟩=some (.slice (some ⟨g1,F6,none⟩) i c1)/\wx.cell? ⟨g1,F6+k,none⟩=some (.slice (some ⟨gq,oq,none⟩) k c')/\wx.cell? ⟨gq,oq+j*4,none⟩=some (.bool qn)/\wx.cell? ⟨gq,oq+j*4+1,none⟩=some (.slice qA qk qc)/\wx.cell? ⟨gq,oq+j*4+2,none⟩=some (.bool qm)/\wx.cell? ⟨gq,oq+j*4+3,none⟩=some (.slice qB qj qd)/\wx.cell? ⟨gx,1,none⟩=some (.slice (some ⟨gd,C,none⟩) i c2)/\wx.cell? ⟨gd,C+j*4,none⟩=some (.bool dn)/\wx.cell? ⟨gd,C+j*4+1,none⟩=some (.slice dA dk dc)/\wx.cell? ⟨gd,C+j*4+2,none⟩=some (.bool dm)/\wx.cell? ⟨gd,C+j*4+3,none⟩=some (.slice dB dj dd)):=Zb (λwx f=>⟨Za f s0,Za f s1,Za f s2,Za f s3,Za f o0,Za f o1,Za f o2,Za f o3,Za f C2,Za f ck,Za f q0,Za f q1,Za f q2,Za f q3,Za f x6,Za f d0,Za f d1,Za f d2,Za f d3⟩);refine wp_heldS [21] hmx u (by rw[U];exact V) (λhxs=>?_);rw[U];refine Zj9 18 [0,1,2,3,4,5,6,7,8,9,10,11,12,13,14,15,16,17] rfl Gi (u.out _ V) ?_
       iterate 18 (refine tkA ?_;try simp only[Qa,Zhb,Zgo,Zg6,Gr,Gq,Gp])
       refine tk0 ?_;obtain⟨Y1,T⟩:=Gz (X0.alloc (.cells #[.bool qn,.slice qA qk qc,.bool qm,.slice qB qj qd,.bool dn,.slice dA dk dc,.bool dm,.slice dB dj dd] 73));obtain⟨g5,a2⟩:=Gz X0.heap.size;have d5:Below X0.heap.size X0 Y1:=by rw[<- T];exact(Qb _ _).alloc (Qc _) _
       have d8:Blk Y1 g5 73 #[.bool qn,.slice qA qk qc,.bool qm,.slice qB qj qd,.bool dn,.slice dA dk dc,.bool dm,.slice dB dj dd]:=by rw[<- T,<- a2];exact Qd _ _ _
       have O:Below wj.heap.size wj Y1:=Gs V d5;refine wpAnyL_o 18 λK hK=>?_;go_simp;(try rw[T]);(try rw[a2]);refine hK.out _ _ (λ_=>u.out _ O) ?_;clear hK K T a2
       try simp only[Qa,Zhb,Zgo,Zg6]
       refine wpAnyL_o 19 λK hK=>?_;go_simp;refine(Zcf on_ oA ok oc om oB oj od (lQ AQ i j) (some ⟨g5,0,none⟩) 2 2 [lQ AQ k j,dQ AQ j] Y1 (hO.out.below O) (FL.pair2 d8 (hQ.out.below O) (hD.out.below O)) Gk (Zpl hF.out a1 J g4 y.out).1 (Zpl hF.out a1 J g4 y.out).2).mono ?_;rintro e w5 ⟨a5,an,aA,ak,ac,am,aB,aj,ad,rfl,hT⟩;have a3:=Gs O a5;refine hK.out _ _ (λ_=>u.out _ a3) ?_;clear hK K
       try simp only[Qa,Zhb,Zgo,Zg6]
       refine wpAnyL_o 20 λK hK=>?_;go_simp;refine(Ze2 sn sm an am sA sB aA aB sk sc sj sd ak ac aj ad _ _ w5 (hs.out.below a3) hT (Zzd hF.out a1 J g4 y.out).1 (Zzd hF.out a1 J g4 y.out).2).mono ?_;rintro e w6 ⟨y4,bn,bA,bk,bc,bm,bB,bj,bd,rfl,hU⟩;have g7:=Gs a3 y4;refine hK.out _ _ (λ_=>u.out _ g7) ?_;clear hK K
       try simp only[Qa,Zhb,Zgo,Zg6]
       have b0:Below wj.heap.size wj w6:=g7;have c4:=Zc b0 z4;obtain⟨f0,f1,f2,f3,w1,y7,v8,z9⟩:=c4.four;obtain⟨W7,p9,p7,e9,s7⟩:=Za0 bn bA bk bc bm bB bj bd c4;have n4:=Zb (hU.keptN e9 c4 (Zbh _ _ _ _ _ _ _ _));have z7:Hid (Kept (λg=>g=gs) W4 W7):=Zb ((B6.below b0).trans e9);replace p7:=Zb p7;clear e9 hU hT;refine Zv (i:=21) rfl Gi Gi (λK hK=>?_);go_simp;(try rw[p9]);refine hK.out _ _ ?_;clear hK K
       try simp only[Qa,Zhb,Zgo,Zg6]
       refine wpAnyL_fin ?_;clear p9 f0 f1 f2 f3 w1 y7 v8 z9 c4 u hxs V O a3 g7 b0 d8 d5 U
       have z6:Hid (Fr W7 bn bA bk bc bm bB bj bd (Zn AQ (j+1) i k)):=Zb (by
        rw[Zmq hF.out.sym g4 Gk a1 (y.out.ne Gk)];exact n4.out)
       clear n4;go_wp2_with fail
       go_roundg (k-(j+1))
       case measure=>omega
       case rel=>exact⟨j+1,_,_,_,_,_,_,_,_,by omega,by go_num,p7.out,z6,z7.out⟩
def LookPost(rs:List RX)(w:World)(e:Ending)(w':World):Prop:=
 Below w.heap.size w w'/\((Za2 rs=0/\∃ v1 v2 L,e=.returned (.agg #[v1,v2])/\FacM 97 73 w' w.heap.size v1 v2 L (Zhd (Zh (qM rs)) rs.length) (dsL (Zh (qM rs)) rs.length)) \/
  (Za2 rs≠0/\e=.panicked [{ v:=.iface 117 (.agg #[.int .i64 (Za2 rs)]),recovered:=false }]))
theorem LookPost.fall{rs:List RX}{w w':World}{E:Int}(hb:Below w.heap.size w w')(h:Za2 rs=E)(h0:E≠0):LookPost rs w (.panicked [{ v:=.iface 117 (.agg #[.int .i64 E]),recovered:=false }]) w':=by
 subst h;exact⟨hb,.inr ⟨h0,rfl⟩⟩
theorem Ik{G:Prop}(h:G:=by
 rintro e w6 ⟨rfl,rfl⟩;go_wp2_with fail;exact⟨rfl,LookPost.fall (Gs aq ab) hE.out Gj⟩):G:=h
theorem Zik(A:Option Addr)(n c:Nat)(rs:List RX)(w:World)(h:MXL w A n c rs)(hF:FacC rs) :
    Calls Tryz.prog 64 #[.slice A n c] w (LookPost rs w):=by
 have hmx:=Gt;have hl:=Zb h.1;have e6:=h.2.1;have d3:=h.2.2.1;unfold maxLen at d3;obtain⟨W0,a1,aq,q0,s0⟩:=Zan w 99 #[.slice none 0 0,.slice none 0 0];obtain⟨gx,Y⟩:=Gz w.heap.size;by_cases h6:6<n
 ·have t1:decide ((n:Int)<=6)=false:=Gu Gk
  have hE:Hid (Za2 rs=4):=Zb (Zfz (by unfold long6;rw[hl.out,Gv h6];rfl));clear h;go_in;go_wp2_with fail;(try rw[a1]);refine(Za5 4 W0).mono ?_;rintro e w6 ⟨rfl,rfl⟩;go_wp2_with fail;exact⟨rfl,LookPost.fall aq hE.out Gj⟩
 have t1:decide ((n:Int)<=6)=true:=Gv Gk;obtain⟨x,hx⟩:=Gz (rs.any RX.long6);have T:long6 rs=x:=by unfold long6;rw[hl.out,Gu h6,hx];rfl
 have hC:=Zb (λW1 (hb:Below w.heap.size w W1)=>Zvw A n c rs W1 (h.below hb) x hx);replace hx:=Zb hx;replace T:=Zb T;cases x
 case true =>
  have hE:Hid (Za2 rs=4):=Zb (Zfz T.out);clear h;go_in;go_wp2_with fail;(try rw[a1]);refine(hC.out _ aq).mono ?_;rintro e w1 ⟨rfl,ab⟩;go_wp2_with fail;refine(Za5 4 w1).mono ?_;exact Ik
 by_cases a0:n=0
 ·subst a0
  have hE:Hid (Za2 rs=8):=Zb (Zr3 T.out hl.out);clear h;go_in;go_wp2_with fail;(try rw[a1]);refine(hC.out _ aq).mono ?_;rintro e w1 ⟨rfl,ab⟩;go_wp2_with fail;refine(Zb9 4 w1).mono ?_;rintro e w1 ⟨rfl,rfl⟩;go_wp2_with fail;refine(Za5 8 w1).mono ?_;exact Ik
 have t2:decide ((0:Int)<(n:Int))=true:=Gv Gk;have e1:decide (0<n)=true:=Gv Gk;have hH:=Zb h;have b7:=Zb q0;replace a0:=Zb a0;clear h q0;go_in;go_wp2_with fail;(try rw[a1]);refine(hC.out _ aq).mono ?_;rintro e w1 ⟨rfl,ab⟩;have b5:=Gs aq ab;have b9:=Gm ab b7;clear b7 hC ab aq a1 s0;go_wp2_with fail;refine(Zb9 4 w1).mono ?_;rintro e w1 ⟨rfl,rfl⟩;go_wp2_with fail;refine(Zb9 8 w1).mono ?_;rintro e w1 ⟨rfl,rfl⟩;go_wp2_with fail
 go_loopg [27] n (λt iv wr=>∃ i:Nat,i+t=n/\iv=.int .i64 i/\Hid (∀ j r,j<i->rs[j]?=some r->Zc6 rs.length r=true)/\Below w1.heap.size w1 wr)
 case atStart=>exact⟨0,by omega,rfl,Zb (λj r hj=>by omega),Qb _ _⟩
 case round =>
  obtain⟨wi,rfl⟩:=Gy wr;obtain⟨i,e7,rfl,b0,bV⟩:=hrel;have O:=Gs b5 bV;cases gk with
  | succ t =>
   obtain rfl:t=n-(i+1):=Gk;have d7:i<n:=Gk;have t3:decide ((i:Int)<(n:Int))=true:=Gv Gk;have bi:(i:Int)<(n:Int):=Gk;obtain⟨g,o,r,rfl,he,c0,hL⟩:=(hH.out.below O).at_ d7;have c9:=hL.nlenC;unfold maxLen at c9;have bad:Hid (Zc6 rs.length r=false->Za2 rs=8):=Zb (λhf=>Zrm T.out (by rw[hl.out];exact a0.out) (List.mem_of_getElem? he) hf)
   have good:Hid (Zc6 rs.length r=true->∀ j r',j<i+1->rs[j]?=some r'->Zc6 rs.length r'=true):=Zb (λhf j r' hj he'=>by
    rcases Qm j i with h'|h';exact b0.out j r' h' he';obtain rfl:j=i:=Gk;rw[he]at he';cases he';exact hf)
   replace he:=Zb he;by_cases hq:r.n=n
   case neg =>
    have t4:((r.n:Int) == (n:Int))=false:=beq_eq_false_iff_ne.2 Gk;have d5:decide (r.n=n)=false:=by simpa using hq
    have hE:Hid (Za2 rs=8):=Zb (bad.out (by unfold Zc6;rw[hl.out,Gu hq];rfl));replace hq:=Zb hq;clear hL;go_wp2_with fail;refine(Za5 8 wi).mono ?_;rintro e w6 ⟨rfl,rfl⟩;go_wp2_with fail;exact⟨rfl,LookPost.fall O hE.out Gj⟩
   have t4:((r.n:Int) == (n:Int))=true:=beq_iff_eq.2 Gk;have d5:decide (r.n=n)=true:=by simpa using hq
   obtain⟨y,hy⟩:=Gz (Zci r.es);have hV:=Zb (λW1 (hb:Below wi.heap.size wi W1)=>Zlj r.A r.n r.c r.es W1 (hL.below hb) y hy);have d6:=Zb hq;replace hq:=Zb hq;clear hL;cases y
   ·have hE:Hid (Za2 rs=8):=Zb (bad.out (by unfold Zc6;rw[hy];simp))
    clear hy;go_wp2_with fail;refine(hV.out _ (by first|exact Qb _ _|exact Zf (Qb _ _) _)).mono ?_;rintro e' w2 ⟨rfl,aa⟩;go_wp2_with fail;refine(Za5 8 w2).mono ?_;rintro e w6 ⟨rfl,rfl⟩;go_wp2_with fail;exact⟨rfl,LookPost.fall (Gs O aa) hE.out Gj⟩
   have ay:=Zb (good.out (by unfold Zc6;rw[hy,hl.out,d6.out,Gv rfl];rfl));clear hy;go_wp2_with fail;refine(hV.out _ (by first|exact Qb _ _|exact Zf (Qb _ _) _)).mono ?_;rintro e' w2 ⟨rfl,aa⟩;go_wp2_with fail;refine(Zb9 8 w2).mono ?_;rintro e w2 ⟨rfl,rfl⟩;exact Ir
  | zero =>
   obtain rfl:i=n:=Gk;have t3:decide ((i:Int)<(i:Int))=false:=Gh
   have hV:Hid (covV rs):=Zb ⟨T.out,by rw[hl.out];exact a0.out,by
    rw[List.all_eq_true];intro r hr;obtain⟨j,hj,e⟩:=List.getElem_of_mem hr;exact b0.out j r (by rw[hl.out]at hj;exact hj) (by rw[List.getElem?_eq_getElem hj,e])⟩
   have c4:=Gm bV b9;have hM:=Zb (hV.out.good (hH.out.below O));have c3:Hid (∀ a b,Sm (Zh (qM rs) a b)):=Zb (λa b=>(hV.out.small64 hH.out).smC Gj a b);have a2:Hid (∀ a,a<i->((qM rs)[a]?.getD []).length=i):=Zb (λa ha=>hV.out.row hH.out a ha);clear b9;go_wp2_with fail
   go_loopg [44] i (λt jv wr=>∃ j:Nat,j+t=i/\jv=.int .i64 j/\Hid (∀ a b,a<j->b<a->Zh (qM rs) a b=Zh (qM rs) b a)/\Below wi.heap.size wi wr)
   case atStart=>exact⟨0,by omega,rfl,Zb (λa b ha=>by omega),Qb _ _⟩
   case round =>
    obtain⟨wj,rfl⟩:=Gy wr;obtain⟨j,e5,rfl,b6,u⟩:=hrel;have f:=Gs O u;cases gk with
    | zero =>
     obtain rfl:j=i:=Gk;have t4:decide ((j:Int)<(j:Int))=false:=Gh
     have hs:Hid (Zhg (qM rs)=true):=Zb (by
      unfold Zhg;rw[decide_eq_true_eq];intro a ha b hb;rw[show (qM rs).length=j by unfold qM;rw[Qn,hl.out]]at ha;exact b6.out a b ha hb)
     have d4:Hid (FacP (Zh (qM rs)) j):=Zb (by have:=hF hV.out hs.out;rw[hl.out]at this;exact this);go_wp2_with fail;refine(Zug A j c (qM rs) wj (hM.out.below u) Gk a2.out d4.out).mono ?_;rintro e w5 ⟨U,⟨hp,v1,v2,L,rfl,a3⟩|⟨hn,rfl⟩⟩
     ·have I:=Zc (Gs u U) c4.out
      rw[Y]at I;obtain⟨A1,c1,rfl,-⟩:=a3.1.mflA;obtain⟨A2,c2,rfl,-⟩:=a3.2.1.fl;rw[Zf0,Zjz]at a3 ⊢;have y0:w5.cell? ⟨gx,0,none⟩=some (.slice none 0 0):=by rw[I.cell];rfl
      have y1:w5.cell? ⟨gx,1,none⟩=some (.slice none 0 0):=by rw[I.cell];rfl
      have z0:=I.frozen 0;have z1:=I.frozen 1;obtain⟨X,hX⟩:∃ X,(w5.setCell ⟨gx,0,none⟩ (.slice A1 j c1)).setCell ⟨gx,1,none⟩ (.slice A2 j c2)=X:=⟨_,rfl⟩;have b3:Kept (λk=>k=gx) w5 X:=by rw[<- hX];exact Kept.set_ (G:=λk=>k=gx) (Kept.set_ (G:=λk=>k=gx) (Qe _ _) (p:=⟨gx,0,none⟩) (.inl rfl) _) (p:=⟨gx,1,none⟩) (.inl rfl) _
      have b2:Blk X gx 99 #[.slice A1 j c1,.slice A2 j c2]:=by rw[<- hX];exact(I.set_ 0 (.slice A1 j c1)).set_ 1 (.slice A2 j c2)
      have x0:X.cell? ⟨gx,0,none⟩=some (.slice A1 j c1):=by rw[b2.cell];rfl
      have x1:X.cell? ⟨gx,1,none⟩=some (.slice A2 j c2):=by rw[b2.cell];rfl
      have c6:gx<wj.heap.size:=by have:=c4.out.lt;rw[Y]at this;have:=u.size;omega
      have d9:=Zb (a3.box I (Zk8 _ _ _ _ _ _) c6 b3);have d8:Hid (Za2 rs=0):=Zb (hV.out.pos hs.out (by rw[hl.out];exact hp));have aJ:Hid (Below w.heap.size w w5):=Zb (Gs f U);have d0:Hid (Below w.heap.size w X):=Zb (aJ.out.trans (b3.to_below (λk e=>by omega) (by have:=aJ.out.size;exact this)));have c7:Hid (w.heap.size<=wj.heap.size):=Zb f.size;clear a3 b3 b2 I hp;(try rw[Y]);go_wp2_with fail;(try rw[Y]);(try rw[hX]);refine bodyPost_ret (v:=.agg #[.slice A1 j c1,.slice A2 j c2]) (by simp[results,Tryz.results64,go_sem,x0,x1,Y]) rfl ?_;refine⟨d0.out,.inl ⟨d8.out,_,_,L,rfl,?_⟩⟩;rw[hl.out];exact d9.out.lower c7.out
     have hE:Hid (Za2 rs=8):=Zb (hV.out.neg hs.out (by rw[hl.out];exact hn));go_wp2_with fail;exact⟨rfl,LookPost.fall (Gs f U) hE.out Gj⟩
    | succ t =>
     obtain rfl:t=i-(j+1):=Gk;have a8:j<i:=Gk;have t4:decide ((j:Int)<(i:Int))=true:=Gv Gk;have bj:(j:Int)<(i:Int):=Gk;obtain⟨g,o,A',n',c',rfl,c0,hR⟩:=(hM.out.below u).at_ a8;have c8:i=n':=by rw[<- hR.len];exact(a2.out j a8).symm
     subst c8;have b1:=hR.cap;unfold maxLen at b1;replace hR:=Zb hR;go_wp2_with fail
     go_loopg [50] j (λt kv wr=>∃ k:Nat,k+t=j/\kv=.int .i64 k/\Hid (∀ b,b<k->Zh (qM rs) j b=Zh (qM rs) b j)/\Below wj.heap.size wj wr)
     case atStart=>exact⟨0,by omega,rfl,Zb (λb hb=>by omega),Qb _ _⟩
     case round =>
      obtain⟨wk,rfl⟩:=Gy wr;obtain⟨k,e2,rfl,b4,V⟩:=hrel;cases gk with
      | zero =>
       obtain rfl:k=j:=Gk;have t5:decide ((k:Int)<(k:Int))=false:=Gh
       have c5:Hid (∀ a b,a<k+1->b<a->Zh (qM rs) a b=Zh (qM rs) b a):=Zb (λa b ha hb=>by
        rcases Qm a k with h'|h';exact b6.out a b h' hb;obtain rfl:a=k:=Gk;exact b4.out b hb)
       go_wp2_with fail
       go_roundg (i-(k+1))
       case measure=>omega
       case rel=>exact⟨k+1,by omega,by go_num,c5,Gs u V⟩
      | succ t' =>
       obtain rfl:t'=j-(k+1):=Gk;have e4:k<j:=Gk;have t5:decide ((k:Int)<(j:Int))=true:=Gv Gk;have bk:(k:Int)<(j:Int):=Gk;have bki:(k:Int)<(i:Int):=Gk;have b8:=Gs u V;obtain⟨ga,oa,xn,xA,xk,xc,xm,xB,xj,xd,rfl,⟨r0,r1,r2,r3⟩,hX⟩:=(hR.out.below V).at_ (show k<i by omega);obtain⟨A2,n2,c2,ck,a6⟩:=(hM.out.below b8).atS (show k<i by omega);have e0:i=n2:=by rw[<- a6.len];exact(a2.out k Gk).symm
       subst e0;have a5:=a6.cap;unfold maxLen at a5;obtain⟨gb,ob,yn,yA,yk,yc,ym,yB,yj,yd,rfl,⟨s0,s1,s2,s3⟩,hY⟩:=a6.at_ a8;have eX:((qM rs)[j]?.getD [])[k]?.getD 0=Zh (qM rs) j k:=rfl;have eY:((qM rs)[k]?.getD [])[j]?.getD 0=Zh (qM rs) k j:=rfl;rw[eX]at hX;rw[eY]at hY;replace hX:=Zb hX;replace hY:=Zb hY;clear eX eY a6;go_wp2_with fail;obtain⟨X0,a9⟩:=Gz wk.drew;have J:Below wk.heap.size wk X0:=by rw[<- a9];exact Zf (Qb _ _) 1
       have C:Hid (∀ wx,Below wk.heap.size wk wx->wx.cell? ⟨ga,oa+k*4,none⟩=some (.bool xn)/\wx.cell? ⟨ga,oa+k*4+1,none⟩=some (.slice xA xk xc)/\wx.cell? ⟨ga,oa+k*4+2,none⟩=some (.bool xm)/\wx.cell? ⟨ga,oa+k*4+3,none⟩=some (.slice xB xj xd)/\wx.cell? ⟨g,o+k,none⟩=some (.slice (some ⟨gb,ob,none⟩) i c2)/\wx.cell? ⟨gb,ob+j*4,none⟩=some (.bool yn)/\wx.cell? ⟨gb,ob+j*4+1,none⟩=some (.slice yA yk yc)/\wx.cell? ⟨gb,ob+j*4+2,none⟩=some (.bool ym)/\wx.cell? ⟨gb,ob+j*4+3,none⟩=some (.slice yB yj yd)):=Zb (λwx hbx=>⟨Za hbx r0,Za hbx r1,Za hbx r2,Za hbx r3,Za hbx ck,Za hbx s0,Za hbx s1,Za hbx s2,Za hbx s3⟩);refine wp_heldS [] hmx C (by rw[a9];exact J) (λhxs=>?_);rw[a9];refine Zj9 11 [0,1,2,3,4,5,6,7,8,9,10] rfl Gi (C.out _ J) ?_
       iterate 11 (refine tkA ?_;try simp only[Qa,Zhb,Zgo,Zg6,Gr,Gq,Gp])
       refine tk0 ?_;refine wpAnyL_o 11 λK hK=>?_;go_simp;refine(fCmp_ok xn xm yn ym xA xB yA yB xk xc xj xd yk yc yj yd _ _ X0 (hX.out.below J) (hY.out.below J) (c3.out _ _) (c3.out _ _)).mono ?_;rintro e w5 ⟨rfl,U⟩;have a7:=Gs J U;refine hK.out _ _ (λ_=>C.out _ a7) ?_;clear hK K
       try simp only[Qa,Zhb,Zgo,Zg6]
       refine Zgp 5 [12,13,14,15,16] rfl Gi (C.out _ a7) ?_
       iterate 5 (refine tkA ?_;try simp only[Qa,Zhb,Zgo,Zg6,Gr,Gq,Gp])
       refine tk0 ?_;refine wpAnyL_fin ?_;have aJ:Hid (Below wj.heap.size wj w5):=Zb (Gs V a7);clear C hxs J a7 U a9 r0 r1 r2 r3 s0 s1 s2 s3 ck hX hY;by_cases hq:Zh (qM rs) j k=Zh (qM rs) k j
       ·have hz:Zox (Zh (qM rs) j k) (Zh (qM rs) k j)=0:=cmpQ_zero.2 hq
        rw[hz]
        have eT:Hid (∀ b,b<k+1->Zh (qM rs) j b=Zh (qM rs) b j):=Zb (λb hb=>by
         rcases Qm b k with h'|h';exact b4.out b h';obtain rfl:b=k:=Gk;exact hq)
        replace hq:=Zb hq;replace hz:=Zb hz;go_wp2_with fail;refine(Zb9 8 w5).mono ?_;rintro e w5 ⟨rfl,rfl⟩;exact IW
       obtain⟨z,hz⟩:=Gz (Zox (Zh (qM rs) j k) (Zh (qM rs) k j));have a4:z≠0:=λe=>hq (cmpQ_zero.1 (by rw[hz];exact e));rw[hz];have t6:(z == 0)=false:=by simpa using a4
       have e3:decide (z=0)=false:=by simpa using a4
       have hE:Hid (Za2 rs=8):=Zb (hV.out.asym (by
        cases hb:Zhg (qM rs)with
        | false=>rfl
        | true=>exact absurd (symB_iff.1 hb j k (by unfold qM;rw[Qn,hl.out];exact a8) (by unfold qM;rw[Qn,hl.out];omega)) hq))
       replace hq:=Zb hq;replace hz:=Zb hz;replace a4:=Zb a4;go_wp2_with fail;refine(Za5 8 w5).mono ?_;rintro e w6 ⟨rfl,rfl⟩;go_wp2_with fail;exact⟨rfl,LookPost.fall (Gs f aJ.out) hE.out Gj⟩
theorem Zu3(A:Option Addr)(n c:Nat)(rs:List RX)(w:World)(h:MXL w A n c rs)(hF:FacC rs)(E:Int)(hE:Za2 rs=E) :
    Calls Tryz.prog 35 #[.slice A n c] w λe w'=>e=.returned (.int .i64 E)/\Below w.heap.size w w':=by
 obtain⟨W0,I,o,q0,s0⟩:=Zan w 26 #[.int .i64 0];have hC:=Zb (Zik A n c rs W0 (h.below o) hF);replace q0:=Zb q0;clear h
 go_enter_defers Tryz.func35,Tryz.ntmps35
 go_wp2_with fail;(try rw[I]);refine hC.out.mono ?_;rintro e w1 ⟨y,⟨h0,v1,v2,L,rfl,O⟩|⟨h0,rfl⟩⟩
 ·have u:=Gs o y
  have q1:=Zc y q0.out;have e0:=q1.cell 0;have z0:=q1.frozen 0;simp at e0;obtain⟨U,hU,C,q3,-⟩:=Zao 0 u (Qc _) q1;have r4:=q3.cell 0;simp at r4;obtain rfl:E=0:=by rw[<- hE];exact h0
  clear O;go_wp2_with fail;(try rw[hU]);refine leaves_cons (f:=39) (args:=#[.pointer (some ⟨w.heap.size,0,none⟩)]) Gh Gd ?_;refine(Zet _ _).mono ?_;rintro e u' w'' ⟨rfl,rfl,rfl⟩;exact⟨.int .i64 0,by simp[results,Tryz.results35,go_sem,r4],rfl,C⟩
 have u:=Gs o y;have q2:=Zc y q0.out;rw[hE];go_wp2_with fail;refine leaves_cons (f:=39) (args:=#[.pointer (some ⟨w.heap.size,0,none⟩)]) Gh Gd ?_;have e0:=q2.cell 0;simp at e0;refine(Zbg ⟨w.heap.size,0,none⟩ E 0 _ e0 (q2.frozen 0)).mono ?_;rintro e u' w'' ⟨rfl,rfl,hw⟩;obtain⟨V,hV,J,-,-,hk,sV⟩:=Zs 117 #[.int .i64 E] u (u.size);obtain⟨U,hU,C,q3,-⟩:=Zao E J (Qc _) (hk _ _ _ q2);rw[hV,hU]at hw;subst hw;have r4:=q3.cell 0;simp at r4;exact⟨.int .i64 E,by simp[results,Tryz.results35,go_sem,r4],rfl,C⟩
theorem Zx5(A:Option Addr)(n c:Nat)(rs:List RX)(w:World)(h:MXL w A n c rs)(hF:FacC rs) :
    Calls Tryz.prog 46 #[.slice A n c] w λe w'=>Below w.heap.size w w'/\((Za2 rs=0/\e=.returned (.slice A n c)) \/ (Za2 rs≠0/\e=.panicked [{ v:=.iface 117 (.agg #[.int .i64 16]),recovered:=false }])):=by
 obtain⟨E,hE⟩:=Gz (Za2 rs);have hC:=Zb (Zu3 A n c rs w h hF E hE);clear h hF;replace hE:=Zb hE;go_in;go_wp2_with fail;refine hC.out.mono ?_;rintro e w1 ⟨rfl,f⟩;by_cases h0:E=0
 ·subst h0
  go_wp2_with fail;refine(Zb9 16 w1).mono ?_;rintro e w1 ⟨rfl,rfl⟩;go_wp2_with fail;go_returns;exact⟨f,.inl ⟨hE.out,rfl⟩⟩
 have t1:(E == 0)=false:=by simpa using h0
 have o:decide (E=0)=false:=by simpa using h0
 replace h0:=Zb h0;go_wp2_with fail;refine(Za5 16 w1).mono ?_;rintro e w6 ⟨rfl,rfl⟩;go_wp2_with fail;exact⟨rfl,f,.inr ⟨by rw[hE.out];exact h0.out,rfl⟩⟩
theorem Zrd(L:Option Addr)(k cap:Nat)(qs:List Rat)(w:World)(hl:FL w L k cap qs)(hk:k<=100)(hs:∀ j,j<k->Sm (sumF qs j))(he:∀ j:Nat,j<k->Sm (qs[j]?.getD 0)) :
    Calls Tryz.prog 70 #[.slice L k cap] w (Zdt w (sumF qs k)):=by
 have a4:=hl.cap;unfold maxLen at a4;obtain⟨W0,a6,a1,q1,s0⟩:=Zan w 73 #[.bool false,.slice none 0 0,.bool false,.slice none 0 0];obtain⟨gR,J⟩:=Gz w.heap.size;rw[J]at q1 s0 a1;have b6:=Zb hl;have b9:=Zb hs;have c6:=Zb he;clear hl hs he;go_in;go_wp2_with fail;(try rw[a6]);(try rw[J]);refine(Zux 0 W0 Gj Gj).mono ?_;rintro e w1 ⟨C,pn,pA,pk,pc,pm,pB,pj,pd,rfl,hf⟩;replace q1:=Zc C q1;obtain⟨V1,c4,a2,t0,tz⟩:=Zan w1 73 #[.bool false,.slice none 0 0,.bool false,.slice none 0 0];obtain⟨g0,U⟩:=Gz w1.heap.size;rw[U]at t0 tz;obtain⟨υ0,υ1,υ2,υ3,v0,v1,v2,v3⟩:=t0.four;obtain⟨V2,a7,p2,a9,s2⟩:=Za0 pn pA pk pc pm pB pj pd t0;have I:Below w1.heap.size w1 V2:=a2.trans (a9.to_below (λk e=>by omega) a2.size);have hA:=Zb (hf.below I);have b4:=Zc I q1;have b0:Hid (Below gR w w1):=Zb (a1.trans (C.mono Gk));have b3:Hid (V2.heap.size=g0+1/\gR<g0):=Zb ⟨by rw[s2,tz],by have:=C.size;omega⟩;have a8:Hid (Below gR w V2):=Zb (b0.out.trans (I.mono (by have:=C.size;omega)));have T:=Zb J;clear hf a2 a9 s2 tz I q1 C a1 s0 a6;go_wp2_with fail;(try rw[U]);(try rw[a7]);clear υ0 υ1 υ2 υ3 v0 v1 v2 v3 t0 c4 a7 U J
 go_loopg [9] k (λt iv wr=>∃ (i:Nat) (xn:Bool) (xA:Option Addr) (xk xc:Nat) (xm:Bool) (xB:Option Addr) (xj xd:Nat),i+t=k/\iv=.int .i64 i/\Blk wr g0 73 #[.bool xn,.slice xA xk xc,.bool xm,.slice xB xj xd]/\Hid (Fr wr xn xA xk xc xm xB xj xd (sumF qs i))/\Kept (λk=>k=g0) V2 wr)
 case atStart=>exact⟨0,_,_,_,_,_,_,_,_,by omega,rfl,p2,hA,Qe _ _⟩
 case round =>
  obtain⟨i,xn,xA,xk,xc,xm,xB,xj,xd,e5,rfl,Y,hX,hK⟩:=hrel;have c8:=b3.out;have V:=hK.blk b4 Gk;have cD:Below gR w wr:=a8.out.trans (hK.to_below (λk hk=>by omega) Gk);obtain⟨x0,x1,x2,x3,y0,y1,y2,y3⟩:=Y.four;cases gk with
  | zero =>
   obtain rfl:i=k:=Gk;have t1:decide ((i:Int)<(i:Int))=false:=Gh;obtain⟨c0,c1,c2,c3,z0,z1,z2,z3⟩:=V.four;obtain⟨W5,a0,q5,aK,s5⟩:=Za0 xn xA xk xc xm xB xj xd V;go_wp2_with fail;(try rw[a0]);obtain⟨r0,r1,r2,r3,-⟩:=q5.four;refine bodyPost_ret (v:=.agg #[.bool xn,.slice xA xk xc,.bool xm,.slice xB xj xd]) (by simp[results,Tryz.results70,go_sem,r0,r1,r2,r3]) rfl ?_;refine⟨?_,_,_,_,_,_,_,_,_,rfl,hX.out.keptN aK V (Zbh _ _ _ _ _ _ _ _)⟩;rw[T.out];exact IC
  | succ t =>
   obtain rfl:t=k-(i+1):=Gk;have a3:i<k:=Gk;have t1:decide ((i:Int)<(k:Int))=true:=Gv Gk;have bi:(i:Int)<(k:Int):=Gk;obtain⟨gl,o,yn,yA,yk,yc,ym,yB,yj,yd,rfl,⟨c0,c1,c2,c3⟩,hY⟩:=(b6.out.below (T.out▸cD)).at_ a3;obtain⟨W1,d7,f,p1,s1⟩:=Zan wr 73 #[.bool false,.slice none 0 0,.bool false,.slice none 0 0];obtain⟨gn,b5⟩:=Gz wr.heap.size;rw[b5]at p1 s1;have c7:=Zc f Y;obtain⟨υ0,υ1,υ2,υ3,v0,v1,v2,v3⟩:=p1.four;obtain⟨W2,b8,b2,a5,c9⟩:=Za0 yn yA yk yc ym yB yj yd p1;have h:Below wr.heap.size wr W2:=f.trans (a5.to_below (λk e=>by omega) f.size);have b7:=hX.out.below h;have c5:=hY.below h;have O:=Zc h Y;obtain⟨m0,m1,m2,m3,n0,n1,n2,n3⟩:=O.four;obtain⟨o0,o1,o2,o3,-⟩:=b2.four;have e0:=Za f c0;have e1:=Za f c1;have e2:=Za f c2;have e3:=Za f c3;go_wp2_with fail;(try rw[b8]);go_wp2_with fail;refine(fAdd_ok xn xm yn ym xA xB yA yB xk xc xj xd yk yc yj yd _ _ W2 b7 c5 (b9.out i a3) (c6.out i a3)).mono ?_;rintro e w3 ⟨u,rn,rA,rk,rc,rm,rB,rj,rd,rfl,hf⟩;go_wp2_with fail;refine(Zf7 rn rm rA rB rk rc rj rd _ w3 hf).mono ?_;rintro e w4 ⟨b1,sn,sA,sk,sc,sm,sB,sj,sd,rfl,hr⟩;have y:=Zc b1 (Zc u O);obtain⟨d0,d8,d5,e4,d6,d3,d4,d9⟩:=y.four;obtain⟨W5,a0,q5,aK,s5⟩:=Za0 sn sA sk sc sm sB sj sd y;clear x0 x1 x2 x3 y0 y1 y2 y3 m0 m1 m2 m3 n0 n1 n2 n3 o0 o1 o2 o3 υ0 υ1 υ2 υ3 v0 v1 v2 v3 e0 e1 e2 e3 c0 c1 c2 c3;go_wp2_with fail;(try rw[a0]);have ir:=Zb (hr.keptN aK y (Zbh _ _ _ _ _ _ _ _));have iw:Kept (λk=>k=g0) V2 W5:=((hK.below h).below (Gs u b1)).trans aK;exact IT
def zV(A:Nat->Nat->Rat)(n:Nat)(x:Nat->Rat)(s:Nat):Rat:=Zn (brd A x n) s s n
def bil(A:Nat->Nat->Rat)(n:Nat)(x y:Nat->Rat):Rat:=Zw n (λs=>zV A n x s*zV A n y s/dQ A s)
section
variable{A:Nat->Nat->Rat}{n:Nat}
theorem Zio(x y:Nat->Rat)(a b:Rat):∀ (t i:Nat),t<=n->i<n->Zn (brd A (λi=>a*x i+b*y i) n) t i n=a*Zn (brd A x n) t i n+b*Zn (brd A y n) t i n
 | 0,i,_,hi=>by
  show brd A _ n i n=a*brd A x n i n+b*brd A y n i n;unfold brd;rw[Gx hi,Gx hi,Gx hi,Gw (Qg _),Gw (Qg _),Gw (Qg _)]
 | t+1,i,ht,hi=>by
  by_cases hti:t<i
  ·rw[Zde hti,Zde hti,Zde hti,Zio x y a b t i (by omega) hi,Zio x y a b t t (by omega) (by omega),
     Zhs (A:=A) (λi=>a*x i+b*y i) (t:=t) (i:=i) (k:=t) Gk Gk Gk,Zhs (A:=A) (λi=>a*x i+b*y i) (t:=t) (i:=t) (k:=t) Gk Gk Gk,Zhs (A:=A) x (t:=t) (i:=i) (k:=t) Gk Gk Gk,Zhs (A:=A) x (t:=t) (i:=t) (k:=t) Gk Gk Gk,Zhs (A:=A) y (t:=t) (i:=i) (k:=t) Gk Gk Gk,Zhs (A:=A) y (t:=t) (i:=t) (k:=t) Gk Gk Gk]
   rw[Qo]
   grind
  have h1:∀ M:Nat->Nat->Rat,Zn M (t+1) i n=Zn M t i n:=λM=>by show (if t<i then _ else _)=_;rw[Gw hti]
  rw[h1,h1,h1];exact Zio x y a b t i Gk hi
theorem zV_lin(x y:Nat->Rat)(a b:Rat){s:Nat}(hs:s<n):zV A n (λi=>a*x i+b*y i) s=a*zV A n x s+b*zV A n y s:=Zio x y a b s s Gk hs
theorem Zre(x y z:Nat->Rat)(a b:Rat):bil A n (λi=>a*x i+b*y i) z=a*bil A n x z+b*bil A n y z:=by
 unfold bil;rw[<- Zeo];refine Zq λs hs=>?_;rw[zV_lin x y a b hs,Qo,Qo,Qo]
 grind
theorem Zrx(x y:Nat->Rat):bil A n x y=bil A n y x:=by
 unfold bil;exact Zq λs _=>by rw[Rat.mul_comm]
theorem Zf8{x y z:Nat->Rat}(h:∀ i,i<n->x i=y i):bil A n x z=bil A n y z:=by
 unfold bil;refine Zq λs hs=>?_
 have h1:zV A n x s=zV A n y s:=by
  unfold zV
  exact Zcu (n:=n) (m:=n+1) (λi k hi hk=>by
   unfold brd;rw[Gx hi,Gx hi]
   split
   rfl;exact h i hi) Gk s s n Gk hs Gk
 rw[h1]
theorem Zuw(hp:posP A n)(x:Nat->Rat):0<=bil A n x x:=by
 have h1:=Zs9 (A:=brd A x n) (c:=n) ((Zru x (Qc n)).2 hp);unfold Zsc at h1;unfold bil zV;rw[Zq (g:=λs=>Zn (brd A x n) s s n*Zn (brd A x n) s s n/dQ (brd A x n) s) (λs hs=>by rw[Zno x hs])];exact h1
theorem Z1n(x:Nat->Rat):bil A n x x=Zsc (brd A x n) n n:=by
 unfold bil Zsc zV;exact Zq λs hs=>by rw[Zno x hs]
theorem Z0h(hp:posP A n){x:Nat->Rat}(h:bil A n x x=0){i:Nat}(hi:i<n):x i=0:=by
 rw[Z1n]at h;have h1:=Zy1 (A:=brd A x n) (c:=n) ((Zru x (Qc n)).2 hp) h hi;have h2:brd A x n i n=x i:=by unfold brd;rw[Gx hi,Gw (Qg _)]
 rw[<- h2];exact h1
end
theorem Zak{w:World}(t:TypeId)(cs:Array Value):∃ W,w.alloc (.cells cs t)=W/\Blk W w.heap.size t cs/\Below w.heap.size w W:=
 ⟨_,rfl,Qd _ _ _,(Qb _ _).alloc (Qc _) _⟩
structure Znj (A:Nat->Nat->Rat) (n:Nat) (x:Nat->Rat):Prop where
 a:∀ t i,t<=i->i<n->Sm (Zn (brd A x n) t i n)
 l:∀ i t,t<i->i<n->Sm (lQ A i t)
 ly:∀ i t,t<i->i<n->Sm (lQ A i t*Zn (brd A x n) t t n)
 zz:∀ i,i<n->Sm (zV A n x i*zV A n x i)
 d:∀ i,i<n->Sm (dQ A i)
 q:∀ i,i<n->Sm (zV A n x i*zV A n x i/dQ A i)
 s:∀ i,i<=n->Sm (Zw i (λs=>zV A n x s*zV A n x s/dQ A s))
def zL(A:Nat->Nat->Rat)(n:Nat)(x:Nat->Rat)(i:Nat):List Rat:=(Qh i).map (zV A n x)
section
variable{A:Nat->Nat->Rat}{n i k:Nat}{x:Nat->Rat}
theorem Zt9:(zL A n x i).length=i:=by simp[zL]
theorem zL_at(h:k<i):(zL A n x i)[k]?.getD 0=zV A n x k:=by simp[zL,h]
theorem zL_succ:zL A n x (i+1)=zL A n x i ++ [zV A n x i]:=by simp[zL,Qi]
theorem Zpe(hki:k<i)(hi:i<n):Zn (brd A x n) (k+1) i n=Zn (brd A x n) k i n-lQ A i k*zV A n x k:=by
 rw[Zpw hki,brd_l x hi Gk];rfl
end
theorem sumF2(s q:Rat):sumF [s,q] 2=s+q:=by
 show (0+s)+q=_
 grind
theorem Zdm{a b:Rat}(h:Sm a):∀ j,j<1->Sm (Zi0 a [b] j):=λj hj=>by
 obtain rfl:j=0:=Gk;exact h
theorem Zem{b:Rat}(h:Sm b):∀ j:Nat,j<1->Sm ([b][j]?.getD 0):=λj hj=>by
 obtain rfl:j=0:=Gk;exact h
theorem Zqt{a b:Rat}(h:Sm a):∀ j,j<2->Sm (sumF [a,b] j):=λj hj=>by
 rcases(show j=0 \/ j=1 by omega)with rfl|rfl;exact(SmN.int (i:=2) (n:=0) GY).sm Gj Gj
 have e:sumF [a,b] 1=a:=by
   show 0+a=a
   grind
 rw[e];exact h
theorem Zt2{a b:Rat}(h:Sm a)(k:Sm b):∀ j:Nat,j<2->Sm ([a,b][j]?.getD 0):=λj hj=>by
 rcases(show j=0 \/ j=1 by omega)with rfl|rfl;exact h;exact k
theorem Zfx(a b:Rat):Zi0 a [b] 1=a*b:=rfl
theorem Zzr(A1 A2 V:Option Addr)(n c1 c2 cv:Nat)(AQ:Nat->Nat->Rat)(xs:List Rat)(w:World)(hn6:n<=6)(hM:MFL w A1 n c1 (Zhd AQ n))(hD:FL w A2 n c2 (dsL AQ n))(hV:FL w V n cv xs)(hp:posP AQ n)(hS:Znj AQ n (λi=>xs[i]?.getD 0)) :
    Calls Tryz.prog 66 #[.agg #[.slice A1 n c1,.slice A2 n c2],.slice V n cv] w (Zdt w (bil AQ n (λi=>xs[i]?.getD 0) (λi=>xs[i]?.getD 0))):=by
 obtain⟨iN,hi,υ2,υ8,t5⟩:=info_parts Zp1;have hmx:=Gt;have o0:=hV.cap;have υ4:=hM.2.1;have l5:=hM.2.2.1;have n4:=hD.cap;unfold maxLen at o0 l5 n4;obtain⟨X,m9⟩:∃ X:Nat->Rat,(λi:Nat=>xs[i]?.getD 0)=X:=⟨_,rfl⟩;have hxs:Hid (∀ i:Nat,xs[i]?.getD 0=X i):=Zb (λi=>by rw[<- m9]);rw[m9]at hS ⊢;replace hS:=Zb hS;replace hp:=Zb hp;clear m9;obtain⟨W0,q1,h7,⟨qf,qr⟩,s0⟩:=Zdb w 99 #[.slice A1 n c1,.slice A2 n c2] 73 #[.bool false,.slice none 0 0,.bool false,.slice none 0 0];obtain⟨gf,k5⟩:=Gz w.heap.size;replace hM:=Zb (hM.below h7);replace hD:=Zb (hD.below h7);replace hV:=Zb (hV.below h7);rw[k5]at qf qr s0;replace h7:=Zb h7;replace qf:=Zb qf;replace qr:=Zb qr;have v4:=Zb s0;clear s0;go_in;go_wp2_with fail;(try rw[q1]);(try rw[k5]);clear q1;replace k5:=Zb k5;refine(Zux 0 W0 Gj Gj).mono ?_;rintro e w1 ⟨h8,sn,sA,sk,sc,sm,sB,sj,sd,rfl,sf⟩;replace hM:=Zb (hM.out.below h8);replace hD:=Zb (hD.out.below h8);replace hV:=Zb (hV.out.below h8);replace qf:=Gm h8 qf;replace qr:=Gm h8 qr;have k9:=Gn h7 h8;clear h7 h8;replace sf:=Zb sf;have r9:=hM;have υ7:=hD;have t8:=hV;have j5:=k9;have r6:=qf;have p0:=qr;clear hM hD hV;obtain⟨g3,g9⟩:=Gz w1.heap.size;obtain⟨V5,o3,q7,g0⟩:=Zak (w:=w1) 73 #[.bool sn,.slice sA sk sc,.bool sm,.slice sB sj sd];rw[g9]at q7;have l4:=Zb g0;replace qf:=Gm g0 qf;replace qr:=Gm g0 qr
 replace sf:=Zb (sf.out.below g0);have w4:=Gn k9 g0;clear k9 g0;replace q7:=Zb q7;have o5:Hid (w1.heap.size+1=V5.heap.size):=Zb (by rw[<- o3];simp);go_wp2_with fail;(try rw[g9]);(try rw[o3]);clear o3;replace g9:=Zb g9;have s6:Hid (Zw 0 (λs=>zV AQ n X s*zV AQ n X s/dQ AQ s)=((0:Int):Rat)):=Zb rfl;replace sf:Hid (Fr V5 sn sA sk sc sm sB sj sd (Zw 0 (λs=>zV AQ n X s*zV AQ n X s/dQ AQ s))):=Zb (by rw[s6.out];exact sf.out)
 have o9:Hid (V5.heap.size=g3+1/\gf+1<g3):=Zb ⟨by
  have h2:=g9.out;have h3:=o5.out;omega,by
  have h2:=g9.out;have h5:=p0.out.lt;omega⟩
 clear s6 qf qr
 go_loopg [6,7,8,9,10,11,15] n (λt yv v7 v8 v9 v10 v11 iv wr=>∃ (i:Nat) (sn:Bool) (sA:Option Addr) (sk sc:Nat) (sm:Bool) (sB:Option Addr) (sj sd:Nat),i+t=n/\iv=.int .i64 i/\Hid (OwnF 73 wr V5.heap.size yv (zL AQ n X i))/\Hid (Blk wr g3 73 #[.bool sn,.slice sA sk sc,.bool sm,.slice sB sj sd])/\Hid (Fr wr sn sA sk sc sm sB sj sd (Zw i (λs=>zV AQ n X s*zV AQ n X s/dQ AQ s)))/\Hid (Kept (λk=>k=g3) V5 wr))
 case atStart=>exact⟨0,_,_,_,_,_,_,_,_,by omega,rfl,Zb (OwnF.nil _ _ _),q7,sf,Zb (Qe _ _)⟩
 case round =>
  obtain⟨wi,rfl⟩:=Gy wr;clear q7 sf;obtain⟨i,sn,sA,sk,sc,sm,sB,sj,sd,v5,rfl,hO,qs,hs,hK⟩:=hrel;have h4:Hid (Below w1.heap.size w1 wi):=Zb (l4.out.trans (hK.out.to_below (λk e=>by rw[e];exact Nat.le_of_eq g9.out) l4.out.size));have w0:=h4.out.size;obtain⟨x4,w6⟩:=o9.out;have w2:=hK.out.size;have s2:w1.heap.size=g3:=g9.out;obtain⟨Ay,cy,ey,k4⟩:=hO.out.fl;rw[Zt9]at ey k4;subst ey;have υ3:=k4.cap;unfold maxLen at υ3;replace k4:=Zb k4;replace s2:=Zb s2;cases gk with
  | zero =>
   obtain rfl:i=n:=Gk;have t1:decide ((i:Int)<(i:Int))=false:=Gh;have qR:=Zc h4.out p0.out;obtain⟨c0,c1,c2,c3,z0,z1,z2,z3⟩:=qR.four;obtain⟨x0,x1,x2,x3,-⟩:=qs.out.four;obtain⟨W5,i2,q5,f8,s5⟩:=Za0 sn sA sk sc sm sB sj sd qR;go_wp2_with fail;(try rw[i2]);obtain⟨r0,r1,r2,r3,-⟩:=q5.four;refine bodyPost_ret (v:=.agg #[.bool sn,.slice sA sk sc,.bool sm,.slice sB sj sd]) (by simp[results,Tryz.results66,go_sem,r0,r1,r2,r3]) rfl ?_;refine⟨?_,_,_,_,_,_,_,_,_,rfl,hs.out.keptN f8 qR (Zbh _ _ _ _ _ _ _ _)⟩;exact(Gs j5.out h4.out).trans (f8.to_below (λk e=>by have:=k5.out;omega) (by have:=j5.out.size;omega))
  | succ t' =>
   obtain rfl:t'=n-(i+1):=Gk;have d7:i<n:=Gk;have t1:decide ((i:Int)<(n:Int))=true:=Gv Gk;have bi:(i:Int)<(n:Int):=Gk;obtain⟨gv,ov,fn,fA,fk,fc,fm,fB,fj,fd,rfl,⟨f0,f1,f2,f3⟩,hf⟩:=(t8.out.below h4.out).at_ d7;rw[hxs.out]at hf;obtain⟨V8,k0,q8,g0⟩:=Zak (w:=wi) 41 #[.bool fn,.slice fA fk fc,.bool fm,.slice fB fj fd];obtain⟨V9,j8,q9,p7⟩:=Zak (w:=V8) 73 #[.bool fn,.slice fA fk fc,.bool fm,.slice fB fj fd];obtain⟨g8,k7⟩:=Gz wi.heap.size;have o2:V8.heap.size=g8+1:=by rw[<- k0,<- k7];simp
   have n2:V9.heap.size=g8+1+1:=by rw[<- j8,<- o2];simp
   rw[o2]at q9;have j0:Below wi.heap.size wi V9:=Gs g0 p7
   have p6:Hid (Fr V9 fn fA fk fc fm fB fj fd (Zn (brd AQ X n) 0 i n)):=Zb (by
    have e:Zn (brd AQ X n) 0 i n=X i:=by
     show brd AQ X n i n=X i;unfold brd;rw[Gx d7,Gw (Qg _)]
    rw[e];exact hf.below j0)
   replace j0:=Zb j0;replace q9:=Zb q9;replace k7:=Zb k7;replace k0:=Zb k0;replace j8:=Zb j8;replace n2:=Zb n2;clear q8 g0 p7 o2 hf;go_wp2_with fail;rw[k0.out,k7.out,j8.out];clear k0 j8 f0 f1 f2 f3
   go_loopg [10,11,24] i (λt v10 v11 kv wk=>∃ (k:Nat) (an:Bool) (aA:Option Addr) (ak ac:Nat) (am:Bool) (aB:Option Addr) (aj ad:Nat),k+t=i/\kv=.int .i64 k/\Hid (Blk wk (g8+1) 73 #[.bool an,.slice aA ak ac,.bool am,.slice aB aj ad])/\Hid (Fr wk an aA ak ac am aB aj ad (Zn (brd AQ X n) k i n))/\Hid (Kept (λk=>k=g8+1) V9 wk))
   case atStart=>exact⟨0,_,_,_,_,_,_,_,_,by omega,rfl,q9,p6,Zb (Qe _ _)⟩
   case round =>
    clear q9 p6;obtain⟨wk,rfl⟩:=Gy wr;obtain⟨k,an,aA,ak,ac,am,aB,aj,ad,w9,rfl,qa,hA,f5⟩:=hrel;have υ9:=k7.out;have v0:=n2.out;have h6:Hid (Below wi.heap.size wi wk):=Zb (j0.out.trans (f5.out.to_below (λk e=>by omega) Gk));have m3:Hid (Below w1.heap.size w1 wk):=Zb (Gs h4.out h6.out);have v6:=h6.out.size;cases gk with
    | succ t' =>
     obtain rfl:t'=i-(k+1):=Gk;have g2:k<i:=Gk;have t2:decide ((k:Int)<(i:Int))=true:=Gv Gk;have bk:(k:Int)<(i:Int):=Gk;obtain⟨gy,oy,bn,bA,l9,bc,bm,bB,bj,bd,rfl,⟨b0,b1,b2,b3⟩,hb⟩:=(k4.out.below h6.out).at_ g2;rw[zL_at g2]at hb;obtain⟨gm,om,Ar,nr,cr,m8,m0,hR⟩:=(r9.out.below m3.out).at_ d7;subst m8;rw[Zm2 d7]at hR;obtain rfl:i=nr:=by rw[<- hR.len,Zf9]
     have t9:=hR.cap;unfold maxLen at t9;obtain⟨gr,or_,ln,lA,lk,lc,lm,lB,lj,ld,rfl,⟨l0,l1,l2,l3⟩,hl⟩:=hR.at_ g2;rw[Zl4 g2]at hl;clear hR;have f9:=Zb hb;have m7:=Zb hl;have f7:=Zb (Zc m3.out r6.out);clear hb hl;obtain⟨f4,h0⟩:=Gz wk.heap.size;obtain⟨c7,j4,c8,d8⟩:=Zak (w:=wk) 73 #[.bool bn,.slice bA l9 bc,.bool bm,.slice bB bj bd];rw[h0]at c8;replace qa:=Gm d8 qa;replace hA:=Zb (hA.out.below d8);replace f5:=Zb (f5.out.below d8);replace f9:=Zb (f9.out.below d8);replace m7:=Zb (m7.out.below d8);replace f7:=Gm d8 f7;have g7:=Gn h6 d8;clear h6 d8;replace c8:=Zb c8;go_wp2_with fail;(try rw[h0]);(try rw[j4]);clear j4;replace h0:=Zb h0;have n9:Hid (Below w1.heap.size w1 c7):=Zb (Gs h4.out g7.out);obtain⟨w3,w5,x5,υ5,s9,m8,m1,hR⟩:=(r9.out.below n9.out).at_ d7;cases m8;rw[Zm2 d7]at hR;obtain rfl:i=υ5:=by rw[<- hR.len,Zf9]
     have q3:=hR.cap;unfold maxLen at q3;obtain⟨j7,j6,p4,q2,p1,r7,p2,p5,o8,s3,t0,⟨e3,e1,e2,e5⟩,o1⟩:=hR.at_ g2;subst t0;rw[Zl4 g2]at o1;have g4:=Zb o1;clear o1 hR m0 l0 l1 l2 l3 m7;have a8:c7.cell? ⟨g8+1,0,none⟩=some (.bool an):=qa.out.cell 0;have b4:c7.cell? ⟨g8+1,1,none⟩=some (.slice aA ak ac):=qa.out.cell 1;have b6:c7.cell? ⟨g8+1,2,none⟩=some (.bool am):=qa.out.cell 2;have b7:c7.cell? ⟨g8+1,3,none⟩=some (.slice aB aj ad):=qa.out.cell 3;have b9:c7.cell? ⟨f4,0,none⟩=some (.bool bn):=c8.out.cell 0;have a9:c7.cell? ⟨f4,1,none⟩=some (.slice bA l9 bc):=c8.out.cell 1;have c4:c7.cell? ⟨f4,2,none⟩=some (.bool bm):=c8.out.cell 2;have b5:c7.cell? ⟨f4,3,none⟩=some (.slice bB bj bd):=c8.out.cell 3;have b8:c7.cell? ⟨gf,0,none⟩=some (.slice (some ⟨gm,om,none⟩) n c1):=f7.out.cell 0;have y:Below c7.heap.size c7 c7.drew:=Zf (Qb _ _) 1;replace qa:=Gm y qa;replace hA:=Zb (hA.out.below y);replace f5:=Zb (f5.out.below y);replace f9:=Zb (f9.out.below y);replace f7:=Gm y f7;replace c8:=Gm y c8;replace g4:=Zb (g4.out.below y);have i4:=Gn g7 y;clear g7;replace m1:=Za y m1;replace e3:=Za y e3;replace e1:=Za y e1;replace e2:=Za y e2;replace e5:=Za y e5;replace a8:=Za y a8
     replace b4:=Za y b4;replace b6:=Za y b6;replace b7:=Za y b7;replace b9:=Za y b9;replace a9:=Za y a9;replace c4:=Za y c4;replace b5:=Za y b5;replace b8:=Za y b8;clear y;refine Zy [13] (λwx=>(wx.cell? ⟨gm,om+i,none⟩=some (.slice (some ⟨j7,j6,none⟩) i s9))/\(wx.cell? ⟨j7,j6+k*4,none⟩=some (.bool p4))/\(wx.cell? ⟨j7,j6+k*4+1,none⟩=some (.slice q2 p1 r7))/\(wx.cell? ⟨j7,j6+k*4+2,none⟩=some (.bool p2))/\(wx.cell? ⟨j7,j6+k*4+3,none⟩=some (.slice p5 o8 s3))/\(wx.cell? ⟨g8+1,0,none⟩=some (.bool an))/\(wx.cell? ⟨g8+1,1,none⟩=some (.slice aA ak ac))/\(wx.cell? ⟨g8+1,2,none⟩=some (.bool am))/\(wx.cell? ⟨g8+1,3,none⟩=some (.slice aB aj ad))/\(wx.cell? ⟨f4,0,none⟩=some (.bool bn))/\(wx.cell? ⟨f4,1,none⟩=some (.slice bA l9 bc))/\(wx.cell? ⟨f4,2,none⟩=some (.bool bm))/\(wx.cell? ⟨f4,3,none⟩=some (.slice bB bj bd))/\(wx.cell? ⟨gf,0,none⟩=some (.slice (some ⟨gm,om,none⟩) n c1))) hmx ⟨m1,e3,e1,e2,e5,a8,b4,b6,b7,b9,a9,c4,b5,b8⟩ (λ_=>?_);refine Zj9 10 [0,1,2,3,4,5,6,7,8,9] rfl Gi ⟨m1,e3,e1,e2,e5,a8,b4,b6,b7,b9,a9,c4,b5,b8⟩ ?_
     iterate 10 (refine tkA ?_;try simp only[Qa,Zhb,Zgo,Zg6,Gr,Gq,Gp])
     refine tk0 ?_;obtain⟨p9,g6⟩:=Gz c7.drew.heap.size;obtain⟨r4,k3,e4,I⟩:=Zak (w:=c7.drew) 73 #[.bool bn,.slice bA l9 bc,.bool bm,.slice bB bj bd];rw[g6]at e4;refine wpAnyL_o 10 λK hK=>?_;go_simp;(try rw[g6]);(try rw[k3]);clear k3;replace qa:=Gm I qa;replace hA:=Zb (hA.out.below I);replace f5:=Zb (f5.out.below I);replace f9:=Zb (f9.out.below I);replace f7:=Gm I f7;replace c8:=Gm I c8;replace g4:=Zb (g4.out.below I);have i6:=Gn i4 I;clear i4;replace m1:=Za I m1;replace e3:=Za I e3;replace e1:=Za I e1;replace e2:=Za I e2;replace e5:=Za I e5;replace a8:=Za I a8;replace b4:=Za I b4;replace b6:=Za I b6;replace b7:=Za I b7;replace b9:=Za I b9;replace a9:=Za I a9;replace c4:=Za I c4;replace b5:=Za I b5;replace b8:=Za I b8;clear I;replace e4:=Zb e4;replace g6:=Zb g6;refine hK.out _ _ (λ_=>⟨m1,e3,e1,e2,e5,a8,b4,b6,b7,b9,a9,c4,b5,b8⟩) ?_;clear hK K
     try simp only[Qa,Zhb,Zgo,Zg6,Gr,Gq,Gp]
     have d4:=FL.sing1 e4.out f9.out;replace d4:=Zb d4;have sl:Sm (lQ AQ i k):=hS.out.l i k g2 d7;have sz:Sm (zV AQ n X k):=hS.out.a k k (Qc _) Gk;refine wpAnyL_o 11 λK hK=>?_;go_simp;refine(Zcf p4 q2 p1 r7 p2 p5 o8 s3 _ (some ⟨p9,0,none⟩) 1 1 [zV AQ n X k] r4 g4.out d4.out Gj (Zdm sl) (Zem sz)).mono ?_;rintro e q0 ⟨o,pn,pA,pk,pc,pm,pB,pj,pd,rfl,pf⟩;replace qa:=Gm o qa;replace hA:=Zb (hA.out.below o);replace f5:=Zb (f5.out.below o);replace f9:=Zb (f9.out.below o);replace f7:=Gm o f7;replace c8:=Gm o c8;replace g4:=Zb (g4.out.below o);replace e4:=Gm o e4;replace d4:=Zb (d4.out.below o);have i5:=Gn i6 o;clear i6;replace m1:=Za o m1;replace e3:=Za o e3;replace e1:=Za o e1;replace e2:=Za o e2;replace e5:=Za o e5;replace a8:=Za o a8;replace b4:=Za o b4;replace b6:=Za o b6;replace b7:=Za o b7;replace b9:=Za o b9;replace a9:=Za o a9;replace c4:=Za o c4;replace b5:=Za o b5;replace b8:=Za o b8;clear o;rw[Zfx]at pf;replace pf:=Zb pf;refine hK.out _ _ (λ_=>⟨m1,e3,e1,e2,e5,a8,b4,b6,b7,b9,a9,c4,b5,b8⟩) ?_;clear hK K
     try simp only[Qa,Zhb,Zgo,Zg6,Gr,Gq,Gp]
     refine wpAnyL_o 12 λK hK=>?_;go_simp;refine(Ze2 an am pn pm aA aB pA pB ak ac aj ad pk pc pj pd _ _ q0 hA.out pf.out (hS.out.a k i Gk d7) (hS.out.ly i k g2 d7)).mono ?_;rintro e j1 ⟨f,rn,rA,rk,rc,rm,rB,rj,rd,rfl,rf⟩;replace qa:=Gm f qa;replace hA:=Zb (hA.out.below f);replace f5:=Zb (f5.out.below f);replace f9:=Zb (f9.out.below f);replace f7:=Gm f f7;replace c8:=Gm f c8;replace g4:=Zb (g4.out.below f);replace e4:=Gm f e4;replace d4:=Zb (d4.out.below f);replace pf:=Zb (pf.out.below f);have υ0:=Gn i5 f;clear i5;replace m1:=Za f m1;replace e3:=Za f e3;replace e1:=Za f e1;replace e2:=Za f e2;replace e5:=Za f e5;replace a8:=Za f a8;replace b4:=Za f b4;replace b6:=Za f b6;replace b7:=Za f b7;replace b9:=Za f b9;replace a9:=Za f a9;replace c4:=Za f c4;replace b5:=Za f b5;replace b8:=Za f b8;clear f;rw[<- Zpe g2 d7]at rf;replace rf:=Zb rf;refine hK.out _ _ (λ_=>⟨m1,e3,e1,e2,e5,a8,b4,b6,b7,b9,a9,c4,b5,b8⟩) ?_;clear hK K
     try simp only[Qa,Zhb,Zgo,Zg6,Gr,Gq,Gp]
     obtain⟨n0,o6,n5,m6⟩:j1.frozen? ⟨g8+1,0,none⟩=false/\j1.frozen? ⟨g8+1,1,none⟩=false/\j1.frozen? ⟨g8+1,2,none⟩=false/\j1.frozen? ⟨g8+1,3,none⟩=false:=⟨qa.out.frozen 0,qa.out.frozen 1,qa.out.frozen 2,qa.out.frozen 3⟩;obtain⟨W5,i2,q5,f8,s5⟩:=Za0 rn rA rk rc rm rB rj rd qa.out;refine Zv (i:=13) rfl Gi Gi (λK hK=>?_);go_simp;(try rw[i2]);refine hK.out _ _ ?_;clear hK K
     try simp only[Qa,Zhb,Zgo,Zg6,Gr,Gq,Gp]
     have n8:=Zb (rf.out.keptN f8 qa.out (Zbh _ _ _ _ _ _ _ _));have j9:Hid (Kept (λk=>k=g8+1) V9 W5):=Zb (Kept.trans f5.out f8);have o7:=Zb q5;clear n0 o6 n5 m6 i2 f8 s5 q5 rf pf hA qa d4 e4 sl sz;refine wpAnyL_fin ?_;clear m1 e3 e1 e2 e5 a8 b4 b6 b7 b9 a9 c4 b5 b8;go_wp2_with fail
     go_roundg (i-(k+1))
     case measure=>omega
     case rel=>exact⟨k+1,_,_,_,_,_,_,_,_,by omega,by go_num,o7,n8,j9⟩
    | zero =>
     obtain rfl:k=i:=Gk;have t2:decide ((k:Int)<(k:Int))=false:=Gh;have n3:Zn (brd AQ X n) k k n=zV AQ n X k:=rfl;rw[n3]at hA;obtain⟨Y1,p8,qz,j3⟩:=Zak (w:=wk) 73 #[.bool an,.slice aA ak ac,.bool am,.slice aB aj ad];obtain⟨gz,o4⟩:=Gz wk.heap.size;rw[o4]at qz;have i9:Below wi.heap.size wi Y1:=Gs h6.out j3;have q4:=hO.out.kept i9;have m4:=hA.out.below j3;have n7:=(hK.out.below i9).size;have t7:(zL AQ n X k).length+1<=1000:=by rw[Zt9];omega
     obtain⟨a0,a1,a2,a3,-⟩:=qa.out.four;replace n3:=Zb n3;go_wp2_with ((try rw[p8]);(try rw[o4]);at_builtin;refine Zdo _ rfl (.tmp 43) (.tmp 45) 97 rfl V5.heap.size 73 iN Tryz.underlying97 hi υ2 υ8 t5 _ _ rfl q4 _ (some ⟨gz,0,none⟩) 1 1 [⟨an,aA,ak,ac,am,aB,aj,ad,zV AQ n X k⟩] rfl (Zb7 _ qz) rfl (by intro e he;rw[Qk]at he;subst he;exact m4) t7 n7 ?_;intro v7 w7 k2 l6 n6);simp only[List.map_cons,List.map_nil]at k2;rw[<- zL_succ]at k2;obtain⟨t4,t3,e7,k8⟩:=k2.fl;rw[Zt9]at e7 k8;subst e7;have s8:=k8.cap;unfold maxLen at s8;have l8:∀ q,(Value.slice Ay k cy).ownBlock=some q->V5.heap.size<=q/\q<wi.heap.size:=λq e=>⟨hO.out.row_ge q e,hO.out.blt q e⟩;have n1:Kept (λq=>q=g3) V5 w7:=Kept.grownC (hK.out.below i9) l6 (λq e=>(l8 q e).1);have h1:Hid (Below w1.heap.size w1 w7):=Zb (l4.out.trans (n1.to_below (λq e=>by rw[e];exact Nat.le_of_eq g9.out) l4.out.size))
     have c6:Hid (Blk w7 g3 73 #[.bool sn,.slice sA sk sc,.bool sm,.slice sB sj sd]):=Zb ((l6.block g3 (by have:=i9.size;omega) (λe=>by
      have h9:=(l8 g3 (by first|exact e|exact e.symm)).1;omega)).trans (Zc i9 qs.out))
     have d6:Hid (Blk w7 (g8+1) 73 #[.bool an,.slice aA ak ac,.bool am,.slice aB aj ad]):=Zb ((l6.block (g8+1) (by have:=j3.size;have:=qa.out.lt;omega) (λe=>by
      have h9:=(l8 (g8+1) (by first|exact e|exact e.symm)).2;omega)).trans (Zc j3 qa.out))
     have e0:Hid (Fr w7 sn sA sk sc sm sB sj sd (Zw k (λs=>zV AQ n X s*zV AQ n X s/dQ AQ s))):=Zb ((hs.out.below i9).of_keep n6);have d9:Hid (Fr w7 an aA ak ac am aB aj ad (zV AQ n X k)):=Zb (m4.of_keep n6);obtain⟨gd,od,dn,dA,dk,dc,dm,dB,dj,dd,υ1,⟨d0,d1,d2,d3⟩,hd⟩:=(υ7.out.below h1.out).at_ d7;subst υ1;rw[Zqk d7]at hd;have e9:=Zb hd;have e8:=Zb (Zc h1.out r6.out);have t6:=Zb k2;have e6:=Zb n1;have v3:=Zb n7;have w8:g3<V5.heap.size:=Gk
     replace k8:=Zb k8;clear hd k2 n1 p8 o4 j3 i9 q4 m4 n7 n6 l6 l8 a0 a1 a2 a3 qz;have d5:Hid (Below w7.heap.size w7 w7):=Zb (Qb _ _);go_wp2_with fail;have a4:w7.cell? ⟨g3,0,none⟩=some (.bool sn):=c6.out.cell 0;have J:w7.cell? ⟨g3,1,none⟩=some (.slice sA sk sc):=c6.out.cell 1;have a6:w7.cell? ⟨g3,2,none⟩=some (.bool sm):=c6.out.cell 2;have O:w7.cell? ⟨g3,3,none⟩=some (.slice sB sj sd):=c6.out.cell 3;have Y:w7.cell? ⟨g8+1,0,none⟩=some (.bool an):=d6.out.cell 0;have a7:w7.cell? ⟨g8+1,1,none⟩=some (.slice aA ak ac):=d6.out.cell 1;have U:w7.cell? ⟨g8+1,2,none⟩=some (.bool am):=d6.out.cell 2;have a5:w7.cell? ⟨g8+1,3,none⟩=some (.slice aB aj ad):=d6.out.cell 3;have T:w7.cell? ⟨gf,1,none⟩=some (.slice (some ⟨gd,od,none⟩) n c2):=e8.out.cell 1;have u:Below w7.heap.size w7 w7.drew:=Zf (Qb _ _) 1;replace d5:=Gn d5 u;replace c6:=Gm u c6;replace d6:=Gm u d6;replace e0:=Zb (e0.out.below u);replace d9:=Zb (d9.out.below u);replace e9:=Zb (e9.out.below u);replace e8:=Gm u e8;replace e6:=Zb (e6.out.below u);have i8:=Gn h1 u;clear h1;replace a4:=Za u a4;replace J:=Za u J;replace a6:=Za u a6;replace O:=Za u O;replace Y:=Za u Y;replace a7:=Za u a7
     replace U:=Za u U;replace a5:=Za u a5;replace T:=Za u T;replace d0:=Za u d0;replace d1:=Za u d1;replace d2:=Za u d2;replace d3:=Za u d3;clear u;refine Zy [13] (λwx=>(wx.cell? ⟨g3,0,none⟩=some (.bool sn))/\(wx.cell? ⟨g3,1,none⟩=some (.slice sA sk sc))/\(wx.cell? ⟨g3,2,none⟩=some (.bool sm))/\(wx.cell? ⟨g3,3,none⟩=some (.slice sB sj sd))/\(wx.cell? ⟨g8+1,0,none⟩=some (.bool an))/\(wx.cell? ⟨g8+1,1,none⟩=some (.slice aA ak ac))/\(wx.cell? ⟨g8+1,2,none⟩=some (.bool am))/\(wx.cell? ⟨g8+1,3,none⟩=some (.slice aB aj ad))/\(wx.cell? ⟨gf,1,none⟩=some (.slice (some ⟨gd,od,none⟩) n c2))/\(wx.cell? ⟨gd,od+k*4,none⟩=some (.bool dn))/\(wx.cell? ⟨gd,od+k*4+1,none⟩=some (.slice dA dk dc))/\(wx.cell? ⟨gd,od+k*4+2,none⟩=some (.bool dm))/\(wx.cell? ⟨gd,od+k*4+3,none⟩=some (.slice dB dj dd))) hmx ⟨a4,J,a6,O,Y,a7,U,a5,T,d0,d1,d2,d3⟩ (λ_=>?_);refine Zj9 8 [0,1,2,5,6,7,8,9] rfl Gi ⟨a4,J,a6,O,Y,a7,U,a5,T,d0,d1,d2,d3⟩ ?_
     iterate 8 (refine tkA ?_;try simp only[Qa,Zhb,Zgo,Zg6,Gr,Gq,Gp])
     refine tk0 ?_;obtain⟨s7,g5⟩:=Gz w7.drew.heap.size;obtain⟨s1,k6,c9,C⟩:=Zak (w:=w7.drew) 73 #[.bool an,.slice aA ak ac,.bool am,.slice aB aj ad];rw[g5]at c9;refine wpAnyL_o 3 λK hK=>?_;go_simp;(try rw[g5]);(try rw[k6]);clear k6;replace d5:=Gn d5 C;replace c6:=Gm C c6;replace d6:=Gm C d6;replace e0:=Zb (e0.out.below C);replace d9:=Zb (d9.out.below C);replace e9:=Zb (e9.out.below C);replace e8:=Gm C e8;replace e6:=Zb (e6.out.below C);have i3:=Gn i8 C;clear i8;replace a4:=Za C a4;replace J:=Za C J;replace a6:=Za C a6;replace O:=Za C O;replace Y:=Za C Y;replace a7:=Za C a7;replace U:=Za C U;replace a5:=Za C a5;replace T:=Za C T;replace d0:=Za C d0;replace d1:=Za C d1;replace d2:=Za C d2;replace d3:=Za C d3;clear C;replace c9:=Zb c9;replace g5:=Zb g5;refine hK.out _ _ (λ_=>⟨a4,J,a6,O,Y,a7,U,a5,T,d0,d1,d2,d3⟩) ?_;clear hK K
     try simp only[Qa,Zhb,Zgo,Zg6,Gr,Gq,Gp]
     have d4:=Zb (FL.sing1 c9.out d9.out);have szz:Sm (zV AQ n X k):=hS.out.a k k (Qc _) d7;have q6:dQ AQ k≠0:=hp.out.ne d7;refine wpAnyL_o 4 λK hK=>?_;go_simp;refine(Zcf an aA ak ac am aB aj ad _ (some ⟨s7,0,none⟩) 1 1 [zV AQ n X k] s1 d9.out d4.out Gj (Zdm szz) (Zem szz)).mono ?_;rintro e s4 ⟨o,pn,pA,pk,pc,pm,pB,pj,pd,rfl,pf⟩;replace d5:=Gn d5 o;replace c6:=Gm o c6;replace d6:=Gm o d6;replace e0:=Zb (e0.out.below o);replace d9:=Zb (d9.out.below o);replace e9:=Zb (e9.out.below o);replace e8:=Gm o e8;replace e6:=Zb (e6.out.below o);replace c9:=Gm o c9;replace d4:=Zb (d4.out.below o);have i0:=Gn i3 o;clear i3;replace a4:=Za o a4;replace J:=Za o J;replace a6:=Za o a6;replace O:=Za o O;replace Y:=Za o Y;replace a7:=Za o a7;replace U:=Za o U;replace a5:=Za o a5;replace T:=Za o T;replace d0:=Za o d0;replace d1:=Za o d1;replace d2:=Za o d2;replace d3:=Za o d3;clear o;rw[Zfx]at pf;replace pf:=Zb pf;refine hK.out _ _ (λ_=>⟨a4,J,a6,O,Y,a7,U,a5,T,d0,d1,d2,d3⟩) ?_;clear hK K
     try simp only[Qa,Zhb,Zgo,Zg6,Gr,Gq,Gp]
     refine wpAnyL_o 10 λK hK=>?_;go_simp;refine(Znm pn pm dn dm pA pB dA dB pk pc pj pd dk dc dj dd _ _ s4 pf.out e9.out (hS.out.zz k d7) (hS.out.d k d7) q6).mono ?_;rintro e m2 ⟨c5,qn,qA,qk,qc,qm,qB,qj,qd,rfl,qf⟩;replace d5:=Gn d5 c5;replace c6:=Gm c5 c6;replace d6:=Gm c5 d6;replace e0:=Zb (e0.out.below c5);replace d9:=Zb (d9.out.below c5);replace e9:=Zb (e9.out.below c5);replace e8:=Gm c5 e8;replace e6:=Zb (e6.out.below c5);replace c9:=Gm c5 c9;replace d4:=Zb (d4.out.below c5);replace pf:=Zb (pf.out.below c5);have i7:=Gn i0 c5;clear i0;replace a4:=Za c5 a4;replace J:=Za c5 J;replace a6:=Za c5 a6;replace O:=Za c5 O;replace Y:=Za c5 Y;replace a7:=Za c5 a7;replace U:=Za c5 U;replace a5:=Za c5 a5;replace T:=Za c5 T;replace d0:=Za c5 d0;replace d1:=Za c5 d1;replace d2:=Za c5 d2;replace d3:=Za c5 d3;clear c5;replace qf:=Zb qf;refine hK.out _ _ (λ_=>⟨a4,J,a6,O,Y,a7,U,a5,T,d0,d1,d2,d3⟩) ?_;clear hK K
     try simp only[Qa,Zhb,Zgo,Zg6,Gr,Gq,Gp]
     obtain⟨r5,g1⟩:=Gz m2.heap.size;obtain⟨p3,k1,f6,h⟩:=Zak (w:=m2) 73 #[.bool sn,.slice sA sk sc,.bool sm,.slice sB sj sd,.bool qn,.slice qA qk qc,.bool qm,.slice qB qj qd];rw[g1]at f6;refine wpAnyL_o 11 λK hK=>?_;go_simp;(try rw[g1]);(try rw[k1]);clear k1;replace d5:=Gn d5 h;replace c6:=Gm h c6;replace d6:=Gm h d6;replace e0:=Zb (e0.out.below h);replace d9:=Zb (d9.out.below h);replace e9:=Zb (e9.out.below h);replace e8:=Gm h e8;replace e6:=Zb (e6.out.below h);replace c9:=Gm h c9;replace d4:=Zb (d4.out.below h);replace pf:=Zb (pf.out.below h);replace qf:=Zb (qf.out.below h);have i1:=Gn i7 h;clear i7;replace a4:=Za h a4;replace J:=Za h J;replace a6:=Za h a6;replace O:=Za h O;replace Y:=Za h Y;replace a7:=Za h a7;replace U:=Za h U;replace a5:=Za h a5;replace T:=Za h T;replace d0:=Za h d0;replace d1:=Za h d1;replace d2:=Za h d2;replace d3:=Za h d3;clear h;replace f6:=Zb f6;replace g1:=Zb g1;refine hK.out _ _ (λ_=>⟨a4,J,a6,O,Y,a7,U,a5,T,d0,d1,d2,d3⟩) ?_;clear hK K
     try simp only[Qa,Zhb,Zgo,Zg6,Gr,Gq,Gp]
     have l7:=Zb (FL.pair2 f6.out e0.out qf.out);refine wpAnyL_o 12 λK hK=>?_;go_simp;refine(Zrd (some ⟨r5,0,none⟩) 2 2 [_,_] p3 l7.out Gj (Zqt (hS.out.s k Gk)) (Zt2 (hS.out.s k Gk) (hS.out.q k d7))).mono ?_;rintro e j2 ⟨f,rn,rA,rk,rc,rm,rB,rj,rd,rfl,rf⟩;replace d5:=Gn d5 f;replace c6:=Gm f c6;replace d6:=Gm f d6;replace e0:=Zb (e0.out.below f);replace d9:=Zb (d9.out.below f);replace e9:=Zb (e9.out.below f);replace e8:=Gm f e8;replace e6:=Zb (e6.out.below f);replace c9:=Gm f c9;replace d4:=Zb (d4.out.below f);replace pf:=Zb (pf.out.below f);replace qf:=Zb (qf.out.below f);replace f6:=Gm f f6;replace l7:=Zb (l7.out.below f);have υ6:=Gn i1 f;clear i1;replace a4:=Za f a4;replace J:=Za f J;replace a6:=Za f a6;replace O:=Za f O;replace Y:=Za f Y;replace a7:=Za f a7;replace U:=Za f U;replace a5:=Za f a5;replace T:=Za f T;replace d0:=Za f d0;replace d1:=Za f d1;replace d2:=Za f d2;replace d3:=Za f d3;clear f;rw[sumF2]at rf;replace rf:=Zb rf;refine hK.out _ _ (λ_=>⟨a4,J,a6,O,Y,a7,U,a5,T,d0,d1,d2,d3⟩) ?_;clear hK K
     try simp only[Qa,Zhb,Zgo,Zg6,Gr,Gq,Gp]
     obtain⟨n0,o6,n5,m6⟩:j2.frozen? ⟨g3,0,none⟩=false/\j2.frozen? ⟨g3,1,none⟩=false/\j2.frozen? ⟨g3,2,none⟩=false/\j2.frozen? ⟨g3,3,none⟩=false:=⟨c6.out.frozen 0,c6.out.frozen 1,c6.out.frozen 2,c6.out.frozen 3⟩;obtain⟨W5,i2,q5,f8,s5⟩:=Za0 rn rA rk rc rm rB rj rd c6.out;refine Zv (i:=13) rfl Gi Gi (λK hK=>?_);go_simp;(try rw[i2]);refine hK.out _ _ ?_;clear hK K
     try simp only[Qa,Zhb,Zgo,Zg6,Gr,Gq,Gp]
     have n8:Hid (Fr W5 rn rA rk rc rm rB rj rd (Zw (k+1) (λs=>zV AQ n X s*zV AQ n X s/dQ AQ s))):=Zb (rf.out.keptN f8 c6.out (Zbh _ _ _ _ _ _ _ _));have j9:Hid (Kept (λq=>q=g3) V5 W5):=Zb (Kept.trans e6.out f8);have m5:=t6.out.kept d5.out;have r8:Hid (OwnF 73 W5 V5.heap.size (.slice t4 (k+1) t3) (zL AQ n X (k+1))):=Zb (m5.keptG c6.out (Zbh _ _ _ _ _ _ _ _) (λe=>by have:=m5.row_ge g3 e;omega) f8);have o7:=Zb q5;clear n0 o6 n5 m6 i2 f8 s5 q5 rf pf qf e0 d9 c6 d6 d4 l7 c9 f6 szz q6 m5;refine wpAnyL_fin ?_;clear a4 J a6 O Y a7 U a5 T d0 d1 d2 d3;go_wp2_with fail
     go_roundg (n-(k+1))
     case measure=>omega
     case rel=>exact⟨k+1,_,_,_,_,_,_,_,_,by omega,by go_num,r8,o7,n8,j9⟩
def Zh3(rs:List RX)(es:List FX):Int:=if Za2 rs≠0 then Za2 rs else if es.length=rs.length/\Zci es=true then 0 else 8
def Zeu(es:List FX)(i:Nat):Rat:=(es.map FX.q)[i]?.getD 0
def Zfb(rs:List RX)(es:List FX):Rat:=bil (Zh (qM rs)) rs.length (Zeu es) (Zeu es)
def DistPost(rs:List RX)(es:List FX)(w:World)(e:Ending)(w':World):Prop:=
 Below w.heap.size w w'/\((Zh3 rs es=0/\∃ na A n c nb B m d,e=.returned (.tuple #[.agg #[.bool na,.slice A n c,.bool nb,.slice B m d],.int .i64 0])/\Fr w' na A n c nb B m d (Zfb rs es)) \/
  (Zh3 rs es≠0/\e=.returned (.tuple #[.agg #[.bool false,.slice none 0 0,.bool false,.slice none 0 0],.int .i64 (Zh3 rs es)])))
theorem DistPost.fall{rs:List RX}{es:List FX}{w w':World}{E:Int}(hb:Below w.heap.size w w')(h:Zh3 rs es=E)(h0:E≠0):DistPost rs es w (.returned (.tuple #[.agg #[.bool false,.slice none 0 0,.bool false,.slice none 0 0],.int .i64 E])) w':=by
 subst h;exact⟨hb,.inr ⟨h0,rfl⟩⟩
section
variable{rs:List RX}{es:List FX}{E:Int}
theorem Zpn(h:Za2 rs=E)(h0:E≠0):Zh3 rs es=E:=by subst h;exact Gx h0
theorem Zku(h:Za2 rs=0)(hb:¬ (es.length=rs.length/\Zci es=true)):Zh3 rs es=8:=by
 unfold Zh3;rw[Gw (by simp[h])];exact Gw hb
theorem Zj1(h:Za2 rs=0)(hb:es.length=rs.length/\Zci es=true):Zh3 rs es=0:=by
 unfold Zh3;rw[Gw (by simp[h])];exact Gx hb
end
theorem Zvr(na:Bool)(A:Option Addr)(n c:Nat)(nb:Bool)(B:Option Addr)(m d:Nat)(w:World):(Instr.field 73 (.agg #[.bool na,.slice A n c,.bool nb,.slice B m d]) 0).run Tryz.prog w=.ok (.agg #[.bool na,.slice A n c,.bool nb,.slice B m d]) w:=by kernel_rfl
theorem EI{G:Prop}(h:G:=by
 obtain⟨U,hU,cu,q3,-,kq,-⟩:=Zao 8 dF (Nat.le_succ _) (hk _ _ _ (q1.out));rw[hV,hU]at hw;subst hw;have r4:=q3.cell 0;simp at r4;obtain⟨d0,d1,d2,d3,-⟩:=(kq _ _ _ Gk (hk _ _ _ (q0.out))).four;exact⟨.tuple #[.agg #[.bool false,.slice none 0 0,.bool false,.slice none 0 0],.int .i64 8],by simp[results,Tryz.results25,go_sem,r4,d0,d1,d2,d3],DistPost.fall cu bH.out (by first|decide|assumption|exact eD.out)⟩):G:=h
theorem Zfw(A V:Option Addr)(n c nv cv:Nat)(rs:List RX)(es:List FX)(w:World)(h:MXL w A n c rs)(hF:FacC rs)(hv:FXL w V nv cv es)(hS:Zh3 rs es=0->Znj (Zh (qM rs)) rs.length (Zeu es)) :
    Calls Tryz.prog 25 #[.slice A n c,.slice V nv cv] w (DistPost rs es w):=by
 have a0:=Zb h.1;have c0:=Zb hv.1;have e5:=h.2.1;have c5:=h.2.2.1;have d9:=hv.2.1;have b9:=hv.2.2.1;unfold maxLen at c5 b9;obtain⟨W0,b8,y,⟨q0,q1⟩,s0⟩:=Zdb w 41 #[.bool false,.slice none 0 0,.bool false,.slice none 0 0] 26 #[.int .i64 0];have hC:=Zb (Zik A n c rs W0 (h.below y) hF);have hH:=Zb (h.below y);have C:=Zb (hv.below y);replace hS:=Zb hS;replace q0:=Zb q0;replace q1:=Zb q1;replace y:=Zb y;clear h hv hF;replace s0:=Zb s0
 go_enter_defers Tryz.func25,Tryz.ntmps25
 go_wp2_with fail;(try rw[b8]);clear b8;refine hC.out.mono ?_;rintro e w1 ⟨O,⟨h0,v1,v2,L0,rfl,b2⟩|⟨h0,rfl⟩⟩
 case inr =>
  have a1:=Gs y.out O;have k0:=Zc O q0.out;have k1:=Zc O q1.out;obtain⟨E,hE⟩:=Gz (Za2 rs);rw[hE]at h0 ⊢;have eD:=Zb h0;have bH:=Zpn (es:=es) hE h0;replace hE:=Zb hE;go_wp2_with fail;refine leaves_cons (f:=39) (args:=#[.pointer (some ⟨w.heap.size+1,0,none⟩)]) Gh Gd ?_;have e0:=(k1).cell 0;simp at e0;refine(Zbg ⟨w.heap.size+1,0,none⟩ E 0 _ e0 ((k1).frozen 0)).mono ?_;rintro e u' w'' ⟨rfl,rfl,hw⟩;obtain⟨V,hV,dF,-,-,hk,sV⟩:=Zs 117 #[.int .i64 E] (a1) ((a1).size);obtain⟨U,hU,cu,q3,-,kq,-⟩:=Zao E dF (Nat.le_succ _) (hk _ _ _ (k1));rw[hV,hU]at hw;subst hw;have r4:=q3.cell 0;simp at r4;obtain⟨d0,d1,d2,d3,-⟩:=(kq _ _ _ Gk (hk _ _ _ (k0))).four;exact⟨.tuple #[.agg #[.bool false,.slice none 0 0,.bool false,.slice none 0 0],.int .i64 E],by simp[results,Tryz.results25,go_sem,r4,d0,d1,d2,d3],DistPost.fall cu bH (by first|decide|assumption|exact eD.out)⟩
 obtain⟨A1,c1,e1,o⟩:=b2.1.mflA;obtain⟨A2,c2,e2,u⟩:=b2.2.1.fl;rw[Zf0]at e1 o;rw[Zjz]at e2 u;rw[a0.out]at e1 o e2 u;subst e1;subst e2;have c4:=o.2.1;have a6:=o.2.2.1;have b3:=u.cap;unfold maxLen at a6 b3;obtain⟨b7,d4,a9⟩:=Zev h0;have c7:n<=6:=by rw[<- a0.out];exact b7.facts.2.1
 rw[a0.out]at a9;have hp:=Zb a9;replace o:=Zb o;replace u:=Zb u;replace h0:=Zb h0;have a1:=Gn y O;replace q0:=Gm O q0;replace q1:=Gm O q1;replace C:=Zb (C.out.below O);clear b2 b7 d4 a9 hC hH y O L0;obtain⟨g1,Y⟩:=Gz w1.heap.size;obtain⟨V3,a7,q5,T⟩:=Zak (w:=w1) 99 #[.slice A1 n c1,.slice A2 n c2];rw[Y]at q5;replace o:=Zb (o.out.below T);replace u:=Zb (u.out.below T);replace q0:=Gm T q0;replace q1:=Gm T q1;replace C:=Zb (C.out.below T);have a3:=Gn a1 T;clear a1 T;replace q5:=Zb q5;by_cases a2:nv=n
 case neg =>
  have t1:((nv:Int) == (n:Int))=false:=by simp;omega
  have e4:decide ((nv:Int)=(n:Int))=false:=Gu Gk;have d8:decide (nv=n)=false:=Gu a2;have bH:=Zb (Zku (es:=es) h0.out (λhh=>a2 (by rw[<- c0.out,<- a0.out];exact hh.1)));replace a2:=Zb a2;go_wp2_with fail;(try rw[Y]);(try rw[a7]);clear a7;replace Y:=Zb Y;refine(Za5 8 V3).mono ?_;rintro e w6 ⟨rfl,rfl⟩;go_wp2_with fail;refine leaves_cons (f:=39) (args:=#[.pointer (some ⟨w.heap.size+1,0,none⟩)]) Gh Gd ?_;have e0:=(q1.out).cell 0;simp at e0;refine(Zbg ⟨w.heap.size+1,0,none⟩ 8 0 _ e0 ((q1.out).frozen 0)).mono ?_;rintro e u' w'' ⟨rfl,rfl,hw⟩;obtain⟨V,hV,dF,-,-,hk,sV⟩:=Zs 117 #[.int .i64 8] (a3.out) ((a3.out).size);exact EI
 subst a2;have t1:((nv:Int) == (nv:Int))=true:=Gh;obtain⟨b,hb⟩:=Gz (Zci es);have c9:=Zb (λW1 (hx:FXL W1 V nv cv es)=>Zlj V nv cv es W1 hx b hb);replace hb:=Zb hb;go_wp2_with fail;(try rw[Y]);(try rw[a7]);clear a7;replace Y:=Zb Y;refine(c9.out V3 C.out).mono ?_;rintro e w8 ⟨rfl,J⟩;replace o:=Zb (o.out.below J);replace u:=Zb (u.out.below J);replace q0:=Gm J q0;replace q1:=Gm J q1;replace C:=Zb (C.out.below J);replace q5:=Gm J q5;have a4:=Gn a3 J;clear a3 J;cases b with
 | false =>
  have bH:=Zb (Zku (es:=es) h0.out (λhh=>by rw[hb.out]at hh;exact absurd hh.2 Gj));go_wp2_with fail;refine(Za5 8 w8).mono ?_;rintro e w6 ⟨rfl,rfl⟩;go_wp2_with fail;refine leaves_cons (f:=39) (args:=#[.pointer (some ⟨w.heap.size+1,0,none⟩)]) Gh Gd ?_;have e0:=(q1.out).cell 0;simp at e0;refine(Zbg ⟨w.heap.size+1,0,none⟩ 8 0 _ e0 ((q1.out).frozen 0)).mono ?_;rintro e u' w'' ⟨rfl,rfl,hw⟩;obtain⟨V,hV,dF,-,-,hk,sV⟩:=Zs 117 #[.int .i64 8] (a4.out) ((a4.out).size);exact EI
 | true =>
  have bH:=Zb (Zj1 (es:=es) h0.out ⟨by rw[c0.out,a0.out],hb.out⟩);have d7:=Zb (hS.out bH.out);have a5:=Zb (C.out.fl (Zto hb.out));clear hS C;go_wp2_with fail;refine(Zb9 8 w8).mono ?_;rintro e w6 ⟨rfl,rfl⟩;have c3:=q5.out.cell 0;have b4:=q5.out.cell 1;simp at c3 b4;have d6:Hid (Znj (Zh (qM rs)) nv (λi:Nat=>(es.map FX.q)[i]?.getD 0)):=Zb (by have h9:=d7.out;rw[a0.out]at h9;exact h9);go_wp2_with fail;clear c3 b4;refine(Zzr A1 A2 V nv c1 c2 cv (Zh (qM rs)) (es.map FX.q) w6 c7 o.out u.out a5.out hp.out d6.out).mono ?_;rintro e e6 ⟨I,dn,dA,dk,dc,dm,dB,dj,dd,rfl,df⟩;replace o:=Zb (o.out.below I);replace u:=Zb (u.out.below I);replace q0:=Gm I q0;replace q1:=Gm I q1;replace q5:=Gm I q5;replace a5:=Zb (a5.out.below I);have b6:=Gn a4 I;clear a4 I;replace df:=Zb df;obtain⟨x0,x1,x2,x3,f0,f1,f2,f3⟩:=q0.out.four;obtain⟨W5,c6,c8,q5,kW,kB,s5⟩:=Zaa dn dA dk dc dm dB dj dd b6.out (Qc _) q0.out;have b0:=kB _ _ _ Gk q1.out
  have a8:Hid (Fr W5 dn dA dk dc dm dB dj dd (Zfb rs es)):=Zb (by
   have h9:Fr W5 dn dA dk dc dm dB dj dd (bil (Zh (qM rs)) nv (Zeu es) (Zeu es)):=⟨kW _ _ _ _ _ df.out.1,kW _ _ _ _ _ df.out.2⟩;unfold Zfb;rw[a0.out];exact h9)
  have e0:=b0.cell 0;have z0:=b0.frozen 0;simp at e0;obtain⟨U,hU,cu,q3,b1,b5,-⟩:=Zao 0 c8 (Nat.le_succ _) b0;have r4:=q3.cell 0;simp at r4;obtain⟨y0,y1,y2,y3,-⟩:=(b5 _ _ _ Gk q5).four;have d5:Hid (Fr U dn dA dk dc dm dB dj dd (Zfb rs es)):=Zb ⟨b1 _ _ _ _ _ a8.out.1,b1 _ _ _ _ _ a8.out.2⟩;clear kW kB s5 b1 b5 df a8 a5 o u;have e3:=Zvr dn dA dk dc dm dB dj dd;go_wp2_with fail;(try rw[c6]);(try rw[hU]);refine leaves_cons (f:=39) (args:=#[.pointer (some ⟨w.heap.size+1,0,none⟩)]) Gh Gd ?_;refine(Zet _ _).mono ?_;rintro e u' w'' ⟨rfl,rfl,rfl⟩;exact⟨.tuple #[.agg #[.bool dn,.slice dA dk dc,.bool dm,.slice dB dj dd],.int .i64 0],by simp[results,Tryz.results25,go_sem,r4,y0,y1,y2,y3],cu,.inl ⟨bH.out,_,_,_,_,_,_,_,_,rfl,d5.out⟩⟩
def LeN(k:Nat)(q:Rat):Prop:=q.num.natAbs<=pw k/\q.den<=pw k
theorem LeN.div{a b:Rat}{i j:Nat}(h:LeN i a)(g:LeN j b)(h0:b≠0):LeN (i+j) (a/b):=by
 rw[<- Zfo a b h0];have hd:=Zgt a b h0;refine⟨Qj (Zn0 _ _ hd) ?_,Qj (Zmf _ _ hd) ?_⟩;rw[Int.natAbs_mul,Qs,Zcx];exact Qp h.1 g.2;rw[Int.natAbs_mul,Qs,Zcx];exact Qp h.2 g.1
def Zm1(A:Nat->Nat->Rat)(x:Nat->Rat)(n:Nat):List (List Rat):=(Qh (n+1)).map λi=>(Qh (n+1)).map λk=>brd A x n i k
section
variable{A:Nat->Nat->Rat}{x:Nat->Rat}{n k:Nat}
theorem Zsj:(Zm1 A x n).length=n+1:=by simp[Zm1]
theorem Zte{i:Nat}(hi:i<n+1):((Zm1 A x n)[i]?.getD []).length=n+1:=by
 unfold Zm1;rw[List.getElem?_map,List.getElem?_range hi];simp
theorem Ff{G:Prop}(h:G:=by
 rw[List.getElem?_map,List.getElem?_range hi,Option.map_some,Option.getD_some,List.getElem?_map,List.getElem?_range hj];rfl):G:=h
theorem Zwn{i j:Nat}(hi:i<n+1)(hj:j<n+1):Zh (Zm1 A x n) i j=brd A x n i j:=by
 unfold Zh Zm1;exact Ff
theorem brdR_sm(hA:∀ i j,i<n->j<n->LeN k (A i j))(hx:∀ i,i<n->LeN k (x i)):SmE k (Zm1 A x n):=λi j=>by
 have h0:LeN k 0:=⟨Nat.zero_le _,Zb1 _⟩;by_cases hi:i<n+1
 ·by_cases hj:j<n+1
  ·rw[Zwn hi hj]
   unfold brd;by_cases h1:i<n
   ·rw[Gx h1]
    by_cases h2:j<n;rw[Gx h2];exact hA i j h1 h2;rw[Gw h2];exact hx i h1
   rw[Gw h1];by_cases h2:j<n;rw[Gx h2];exact hx j h2;rw[Gw h2];exact h0
  unfold Zh;rw[Qq (by rw[Zte hi];omega)];exact h0
 unfold Zh;rw[Qq (l:=Zm1 A x n) (by rw[Zsj];omega)];exact h0
theorem Zmo{t i j:Nat}(ht:t<=n+1)(hi:i<n+1)(hj:j<n+1):Zn (Zh (Zm1 A x n)) t i j=Zn (brd A x n) t i j:=
 Zcu (n:=n+1) (m:=n+1) (λ_ _ hi hk=>Zwn hi hk) (Qc _) t i j ht hi hj
theorem Z1s(hp:posP A n){t:Nat}(ht:t<=n):posP (Zh (Zm1 A x n)) t:=λs hs=>by
 have e:dQ (Zh (Zm1 A x n)) s=dQ (brd A x n) s:=Zmo Gk Gk Gk;rw[e,Zno x Gk];exact hp s Gk
theorem Zz9(hn:n<=6)(hA:∀ i j,i<n->j<n->LeN 7 (A i j))(hx:∀ i,i<n->LeN 7 (x i))(hp:posP A n){t i:Nat}(ht:t<=n)(hi:i<n+1):SmN 400 449 (Zn (brd A x n) t i n):=by
 have h:=(brdR_sm hA hx).red2 Zsj Gk (λi hi=>Zte hi) (t:=t) Gk Gk (Z1s hp ht) hi n;rw[Zmo Gk hi Gk]at h;have h1:(7*(n+1)+7+1)*(n+1)<=399:=Qj (Qp (show 7*(n+1)+7+1<=57 by omega) (show n+1<=7 by omega)) Gj;exact h.mono Gk Gk
theorem Znk(hn:n<=6)(hF:FacP A n)(hA:∀ i j,i<n->j<n->LeN 7 (A i j))(hx:∀ i,i<n->LeN 7 (x i))(hp:posP A n):Znj A n x:=by
 have hs:=λt i ht hi=>Zz9 (t:=t) (i:=i) hn hA hx hp ht hi
 have f:∀ t,t<=n->Zw t (λs=>zV A n x s*zV A n x s/dQ A s)=- Zn (brd A x n) t n n:=λt ht=>by
  have h:=Zwz hF.sym x t ht;rw[h];rw[Zq (g:=λs=>Zn (brd A x n) s s n*Zn (brd A x n) s s n/dQ (brd A x n) s) (λs hs=>by rw[Zno x Gk];rfl)]
  grind
 have o:∀ t,t<=n->SmN 400 449 (- Zn (brd A x n) t n n):=λt ht=>by
  have h:=hs t n ht Gk;exact⟨by rw[Rat.neg_num,Int.natAbs_neg];exact h.1,by rw[Rat.neg_den];exact h.2⟩
 refine⟨λt i hti hi=>(hs t i Gk Gk).sm Gj Gj,λi t hti hi=>(hF.l i t Gk hi (hp.mono Gk)).sm Gj Gj,λi t hti hi=>?_,λi hi=>((hs i i Gk Gk).mulN (hs i i Gk Gk)).sm Gj Gj,λi hi=>(hF.d hi (hp.mono Gk)).sm Gj Gj,λi hi=>?_,λi hi=>?_⟩
 ·have h:=Zpe (A:=A) (x:=x) hti hi
  have e:lQ A i t*Zn (brd A x n) t t n=Zn (brd A x n) t i n-Zn (brd A x n) (t+1) i n:=by
   rw[h];show lQ A i t*zV A n x t=_
   grind
  rw[e];exact((hs t i Gk Gk).sub (hs (t+1) i Gk Gk)).sm Gj Gj
 ·have h1:=f i Gk
  have h2:=f (i+1) Gk;have h3:Zw (i+1) (λs=>zV A n x s*zV A n x s/dQ A s)=Zw i (λs=>zV A n x s*zV A n x s/dQ A s)+zV A n x i*zV A n x i/dQ A i:=rfl
  have e:zV A n x i*zV A n x i/dQ A i=- Zn (brd A x n) (i+1) n n - - Zn (brd A x n) i n n:=by
   rw[<- h1,<- h2,h3];grind
  rw[e];exact((o (i+1) Gk).sub (o i Gk)).sm Gj Gj
 rw[f i hi];exact(o i hi).sm Gj Gj
end
section
variable{R:List (List Rat)}{n k:Nat}
end
def NumE(w:World)(z:Int)(e:Ending)(w':World):Prop:=
 Below w.heap.size w w'/\∃ neg A n c,e=.returned (.tuple #[.agg #[.bool neg,.slice A n c],.int .i64 0])/\Wd w' neg A n c z
def frP(q:Rat)(v:Value)(w:World):Prop:=∃ na A n c nb B m d,v=.tuple #[.agg #[.bool na,.slice A n c,.bool nb,.slice B m d],.int .i64 0]/\Fr w na A n c nb B m d q
def frV(q:Rat)(v:Value)(w:World):Prop:=∃ na A n c nb B m d,v=.agg #[.bool na,.slice A n c,.bool nb,.slice B m d]/\Fr w na A n c nb B m d q
def nmT(z:Int)(v:Value)(w:World):Prop:=∃ A n c,v=.agg #[.bool false,.slice A n c]/\Wd w false A n c z
def isV(x v:Value)(_:World):Prop:=v=x
def newV(B0:Nat)(t:TypeId)(cs:Array Value)(v:Value)(w:World):Prop:=∃ g,v=.pointer (some ⟨g,0,none⟩)/\B0<=g/\Blk w g t cs
def fl1V(q:Rat)(v:Value)(w:World):Prop:=∃ A c,v=.slice A 1 c/\FL w A 1 c [q]
def fl2V(p q:Rat)(v:Value)(w:World):Prop:=∃ A c,v=.slice A 2 c/\FL w A 2 c [p,q]
def Zaj:List (Nat × (Value->World->Prop))->Nat->Value->World->Prop
 | [],_=>λ_ _=>True
 | (j,P)::l,i=>if i=j then P else Zaj l i
def Zei(P:Value->World->Prop):Prop:=∀ v w w',Below w.heap.size w w'->P v w->P v w'
section
variable{q:Rat}{z:Int}{x:Value}{B0:Nat}{t:TypeId}{cs:Array Value}
theorem Zo8:Zei (frP q):=λ_ _ _ hb ⟨na,A,n,c,nb,B,m,d,e,h⟩=>⟨na,A,n,c,nb,B,m,d,e,h.below hb⟩
theorem Zby:Zei (frV q):=λ_ _ _ hb ⟨na,A,n,c,nb,B,m,d,e,h⟩=>⟨na,A,n,c,nb,B,m,d,e,h.below hb⟩
theorem Zx6:Zei (nmT z):=λ_ _ _ hb ⟨A,n,c,e,h⟩=>⟨A,n,c,e,h.below hb⟩
theorem Zxt:Zei (isV x):=λ_ _ _ _ h=>h
theorem Zfa:Zei (newV B0 t cs):=λ_ _ _ hb ⟨g,e,k,h⟩=>⟨g,e,k,Zc hb h⟩
theorem Zea:Zei (fl1V q):=λ_ _ _ hb ⟨A,c,e,h⟩=>⟨A,c,e,h.below hb⟩
theorem Zn5{p:Rat}:Zei (fl2V p q):=λ_ _ _ hb ⟨A,c,e,h⟩=>⟨A,c,e,h.below hb⟩
theorem Zef{l:List (Nat × (Value->World->Prop))}(h:∀ p ∈ l,Zei p.2)(i:Nat):Zei (Zaj l i):=by
 induction l with
 | nil=>exact λ_ _ _ _ _=>trivial
 | cons p l ih =>
  unfold Zaj;by_cases e:i=p.1;rw[Gx e];exact h p List.mem_cons_self;rw[Gw e];exact ih λr hr=>h r (List.mem_cons_of_mem _ hr)
theorem Ze4:∀ p ∈ ([]:List (Nat × (Value->World->Prop))),Zei p.2:=λ_ h=>by cases h
theorem Z0{p:Nat × (Value->World->Prop)}{l:List (Nat × (Value->World->Prop))}(h:Zei p.2)(k:∀ p ∈ l,Zei p.2):∀ r ∈ p::l,Zei r.2:=λr hr=>by
 rcases List.mem_cons.1 hr with rfl|h2;exact h;exact k r h2
end
