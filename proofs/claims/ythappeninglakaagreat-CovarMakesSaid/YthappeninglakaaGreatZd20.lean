/- Package covar: factor. Package covar: look, Check, made. -/
import Derived.Deep.LoopGhost
import Derived.Test.YthappeninglakaaGreatZd19
set_option maxRecDepth 100000
set_option maxHeartbeats 16000000
set_option linter.unusedSimpArgs false
set_option linter.unusedVariables false
namespace Go.Proofs.YthappeninglakaaGreat
open Go.RowKit
open Act renaming put→Qa
open Below renaming refl→Qb
open OnlyNormal renaming normal→Qc
open Nat renaming le_refl→Qd,lt_trans→Qi,lt_succ_self→Qj,lt_or_ge→Qk,le_trans→Qn,lt_of_lt_of_le→Qo
open List renaming mem_singleton→Qe,range_succ→Ql,length_map→Qm,range→Qp
open Or renaming inl→Qf
open Kept renaming refl→Qg
open Blk renaming new→Qh
attribute [local go_sem] Zh
theorem infoNum:(Tryz.prog.info? 73).map (λi=>(i.zero,i.size,i.bytes))=some (some (.agg #[.bool false,.slice none 0 0,.bool false,.slice none 0 0]),4,64):=by kernel_rfl
theorem Zyw:(Tryz.prog.info? 97).map (λi=>(i.zero,i.size,i.bytes))=some (some (.slice none 0 0),1,24):=by kernel_rfl
theorem Zga{w:World}{t:TypeId}{g:Nat}{A:Option Addr}{n c:Nat}(h:Blk w g t #[.slice A n c]):Reads w (g+1) 1 (some ⟨g,0,none⟩) 1 (Zak [⟨A,n,c⟩]):=
 ⟨rfl,λ_=>⟨_,rfl,Qj _,λj u hu=>by
  rw[Zh,Nat.zero_add,h.cell];simpa [Zak]using hu⟩⟩
def Ziw(A:Nat->Nat->Rat)(i k:Nat):List Rat:=(Qp k).map (lQ A i)
def Zhb(A:Nat->Nat->Rat)(i:Nat):List (List Rat):=(Qp i).map λr=>Ziw A r r
def dsL(A:Nat->Nat->Rat)(i:Nat):List Rat:=(Qp i).map (dQ A)
section
variable{A:Nat->Nat->Rat}{i j k:Nat}
theorem Zjj:(Ziw A i k).length=k:=by simp[Ziw]
theorem Zc5:(Zhb A i).length=i:=by simp[Zhb]
theorem Zes:(dsL A i).length=i:=by simp[dsL]
theorem Zua(h:j<k):(Ziw A i k)[j]?.getD 0=lQ A i j:=by simp[Ziw,h]
theorem Zxi(h:j<i):(Zhb A i)[j]?.getD []=Ziw A j j:=by simp[Zhb,h]
theorem Zsl(h:j<i):(dsL A i)[j]?.getD 0=dQ A j:=by simp[dsL,h]
theorem Zwa:Ziw A i (k+1)=Ziw A i k ++ [lQ A i k]:=by simp[Ziw,Ql]
theorem Zbo:Zhb A (i+1)=Zhb A i ++ [Ziw A i i]:=by simp[Zhb,Ql]
theorem Zf7:dsL A (i+1)=dsL A i ++ [dQ A i]:=by simp[dsL,Ql]
end
theorem cmpZ_pos0{z:Int}:(0<Zeh z 0) ↔ 0<z:=by
 unfold Zeh
 split
 ·constructor <;> intro h <;> omega
 ·split
  ·constructor <;> intro h <;> omega
  ·constructor <;> intro h <;> omega
theorem num_pos0{q:Rat}:0<q.num ↔ 0<q:=by
 constructor
 ·intro h
  refine Rat.lt_of_le_of_ne (Rat.num_nonneg.1 (by omega)) (λe=>?_);rw[<- e]at h;exact absurd h (by decide)
 ·intro h
  have h5:=Rat.num_nonneg.2 (Rat.le_of_lt h);rcases Int.lt_or_eq_of_le h5 with h6|h6;exact h6
  ·rw[Rat.num_eq_zero.1 h6.symm]at h
   exact absurd h (by decide)
def FacPost(A:Nat->Nat->Rat)(n:Nat)(w:World)(e:Ending)(w':World):Prop:=
 Below w.heap.size w w'/\((posP A n/\∃ v1 v2 rs,e=.returned (.agg #[v1,v2])/\FacM 97 73 w' w.heap.size v1 v2 rs (Zhb A n) (dsL A n)) \/
  (¬ posP A n/\e=.panicked [{ v:=.iface 117 (.agg #[.int .i64 8]),recovered:=false }]))
theorem FacM.lower{tS tN:TypeId}{w:World}{b b':Nat}{v1 v2:Value}{rs:List RS}{Q:List (List Rat)}{ds:List Rat}(h:FacM tS tN w b v1 v2 rs Q ds)(hb:b'<=b):FacM tS tN w b' v1 v2 rs Q ds:=by
 refine⟨⟨?_,h.1.2.1,λi r hr=>(h.1.2.2.1 i r hr).lower hb,h.1.2.2.2⟩,h.2.1.lower hb,h.2.2⟩;rcases h.1.1 with h|⟨g,sp,h1,h2,h3⟩;exact .inl h;exact .inr ⟨g,sp,h1,Qn hb h2,h3⟩
theorem Zn7{A:Nat->Nat->Rat}{n i k j:Nat}(h:FacP A n)(hi:i<n)(hk:k<i)(hj:j<k)(hp:posP A i):(∀ t,t<2->Sm (Zih (lQ A i j) [lQ A k j,dQ A j] t))/\∀ t:Nat,t<2->Sm ([lQ A k j,dQ A j][t]?.getD 0):=by
 have e:posP A (j+1):=hp.mono (by omega);constructor
 ·intro t ht
  match t,ht with
  | 0,_=>exact(h.l i j (by omega) hi e).sm (by decide) (by decide)
  | 1,_=>exact(h.ll (by omega) hi (by omega) (show k<n by omega) e).sm (by decide) (by decide)
 ·intro t ht
  match t,ht with
  | 0,_=>exact(h.l k j (by omega) (by omega) e).sm (by decide) (by decide)
  | 1,_=>exact(h.d (show j<n by omega) (hp.mono (by omega))).sm (by decide) (by decide)
theorem Zll{A:Nat->Nat->Rat}{n i k:Nat}(h:FacP A n)(hi:i<n)(hk:k<i)(hp:posP A i):(∀ t,t<2->Sm (Zih (lQ A i k) [lQ A i k,dQ A k] t))/\∀ t:Nat,t<2->Sm ([lQ A i k,dQ A k][t]?.getD 0):=by
 have e:posP A (k+1):=hp.mono (by omega);constructor
 ·intro t ht
  match t,ht with
  | 0,_=>exact(h.l i k (by omega) hi e).sm (by decide) (by decide)
  | 1,_=>exact(h.ll (by omega) hi (by omega) hi e).sm (by decide) (by decide)
 ·intro t ht
  match t,ht with
  | 0,_=>exact(h.l i k (by omega) hi e).sm (by decide) (by decide)
  | 1,_=>exact(h.d (show k<n by omega) (hp.mono (by omega))).sm (by decide) (by decide)
theorem Zwn{A:Nat->Nat->Rat}{n i k j:Nat}(h:FacP A n)(hi:i<n)(hk:k<i)(hj:j<k)(hp:posP A i):Sm (Zai A j i k)/\Sm (Zih (lQ A i j) [lQ A k j,dQ A j] 2):=
 ⟨(h.s j i k (by omega) (hp.mono (by omega)) hi (by omega)).sm (by decide) (by decide),(h.lld (by omega) hi (by omega) (show k<n by omega) (hp.mono (by omega))).sm (by decide) (by decide)⟩
theorem Zt8{A:Nat->Nat->Rat}{n i k:Nat}(h:FacP A n)(hi:i<n)(hk:k<i)(hp:posP A i):Sm (Zai A k i i)/\Sm (Zih (lQ A i k) [lQ A i k,dQ A k] 2):=
 ⟨(h.s k i i (by omega) (hp.mono (by omega)) hi hi).sm (by decide) (by decide),(h.lld (by omega) hi (by omega) hi (hp.mono (by omega))).sm (by decide) (by decide)⟩
theorem fac_q{A:Nat->Nat->Rat}{n i k:Nat}(h:FacP A n)(hi:i<n)(hk:k<i)(hp:posP A i):Sm (Zai A k i k)/\Sm (dQ A k)/\dQ A k≠0:=
 ⟨(h.s k i k (by omega) (hp.mono (by omega)) hi (by omega)).sm (by decide) (by decide),(h.d (show k<n by omega) (hp.mono (by omega))).sm (by decide) (by decide),hp.ne hk⟩
theorem Zr7(A0:Option Addr)(n c:Nat)(Q:List (List Rat))(w:World)(h:MFL w A0 n c Q)(hn9:n<=900)(hm:∀ i,i<n->(Q[i]?.getD []).length=n)(hF:FacP (Zl Q) n) :
    Calls Tryz.prog 107 #[.slice A0 n c] w (FacPost (Zl Q) n w):=by
 obtain⟨iN,hi,k7,k6,i1⟩:=info_parts infoNum;obtain⟨iS,ki,m7,n0,m4⟩:=info_parts Zyw;have hmx:Tryz.prog.follows .mixedOrders=true:=by kernel_rfl
 have b0:(97:TypeId)≠73:=by decide
 have N8:=h.2.1;have K9:=h.2.2.1;unfold maxLen at K9;obtain⟨AQ,w1⟩:∃ A,Zl Q=A:=⟨_,rfl⟩;rw[w1]at hF ⊢;obtain⟨W0,G7,v8,q0,s0⟩:=Zax w 99 #[.slice none 0 0,.slice none 0 0];obtain⟨gx,h0⟩:∃ g,w.heap.size=g:=⟨_,rfl⟩;rw[h0]at q0 s0 v8;have K3:Hid (W0.heap.size=gx+1):=Za s0;have hH:=Za h;replace hm:=Za hm;replace hF:=Za hF;replace w1:=Za w1;clear h s0;go_enter Tryz.func107,Tryz.ntmps107;go_wp2_with fail;(try rw[G7]);(try rw[h0]);replace h0:=Za h0;replace v8:=Za v8;clear G7
 go_loopg [12] n (λt iv wr=>∃ (i:Nat) (v1 v2:Value) (rs:List RS),i+t=n/\iv=.int .i64 i/\Blk wr gx 99 #[v1,v2]/\FacM 97 73 wr W0.heap.size v1 v2 rs (Zhb AQ i) (dsL AQ i)/\Hid (posP AQ i)/\Kept (λk=>k=gx) W0 wr)
 case atStart=>exact⟨0,.slice none 0 0,.slice none 0 0,[],by omega,rfl,q0,FacM.nil _ _ _ _,Za (λt ht=>by omega),Qg _ _⟩
 case round =>
  clear q0;obtain⟨wi,rfl⟩:∃ x:World,x=wr:=⟨_,rfl⟩;obtain⟨i,v1,v2,rs,O5,rfl,f,e5,J,hK⟩:=hrel;have M4:=K3.out;have h4:Hid (Below gx w wi):=Za (v8.out.trans (hK.to_below (λk hk=>by omega) (by omega)));obtain⟨A1,c1,e1,n6⟩:=e5.1.mflA;obtain⟨A2,c2,e2,g5⟩:=e5.2.1.fl;rw[Zc5]at e1 n6;rw[Zes]at e2 g5;subst e1;subst e2;have x0:wi.cell? ⟨gx,0,none⟩=some (.slice A1 i c1):=by rw[f.cell];rfl
  have x1:wi.cell? ⟨gx,1,none⟩=some (.slice A2 i c2):=by rw[f.cell];rfl
  have z0:=f.frozen 0;have z1:=f.frozen 1;cases gk with
  | zero =>
   obtain rfl:i=n:=by omega
   have t1:decide ((i:Int)<(i:Int))=false:=by simp
   obtain⟨X,hX⟩:∃ X,(wi.setCell ⟨gx,0,none⟩ (.slice A1 i c1)).setCell ⟨gx,1,none⟩ (.slice A2 i c2)=X:=⟨_,rfl⟩;have z9:Kept (λk=>k=gx) wi X:=by rw[<- hX];exact Kept.set_ (G:=λk=>k=gx) (Kept.set_ (G:=λk=>k=gx) (Qg _ _) (p:=⟨gx,0,none⟩) (.inl rfl) _) (p:=⟨gx,1,none⟩) (.inl rfl) _
   have z4:Blk X gx 99 #[.slice A1 i c1,.slice A2 i c2]:=by rw[<- hX];exact(f.set_ 0 (.slice A1 i c1)).set_ 1 (.slice A2 i c2)
   have y0:X.cell? ⟨gx,0,none⟩=some (.slice A1 i c1):=by rw[z4.cell];rfl
   have y1:X.cell? ⟨gx,1,none⟩=some (.slice A2 i c2):=by rw[z4.cell];rfl
   have L8:=Za (e5.box f (Zdq _ _ _ _ _ _) (by omega) z9);have L5:Hid (Below gx w X):=Za (h4.out.trans (z9.to_below (λk hk=>by omega) (by have:=h4.out.size;have:=hK.size;omega)));clear e5 n6 g5 hK z9 z4 f;go_wp2_with fail;(try rw[hX]);refine bodyPost_ret (v:=.agg #[.slice A1 i c1,.slice A2 i c2]) (by simp[results,Tryz.results107,go_sem,y0,y1]) rfl ?_;refine⟨by rw[h0.out];exact L5.out,.inl ⟨J.out,_,_,rs,rfl,L8.out.lower (by rw[h0.out];omega)⟩⟩
  | succ t =>
   obtain rfl:t=n-(i+1):=by omega
   have a5:i<n:=by omega
   have t1:decide ((i:Int)<(n:Int))=true:=decide_eq_true (by omega);have bi:(i:Int)<(n:Int):=by omega
   obtain⟨ga,oa,Ar,nr,cr,rfl,k0,hR⟩:=(hH.out.below (h0.out▸h4.out)).at_ a5;obtain⟨row,h7⟩:∃ X,Q[i]?.getD []=X:=⟨_,rfl⟩;rw[h7]at hR;have L1:n=nr:=by rw[<- hR.len,<- h7];exact(hm.out i a5).symm
   subst L1;have x7:Hid (∀ t:Nat,row[t]?.getD 0=AQ i t):=Za (λt=>by rw[<- w1.out,<- h7];rfl);replace h7:=Za h7;obtain⟨gr,or_,xn,xA,xk,xc,xm,xB,xj,xd,rfl,⟨r0,r1,r2,r3⟩,hX⟩:=hR.at_ a5;rw[x7.out]at hX;obtain⟨V1,M2,q4,p1,s1⟩:=Zax wi 73 #[.bool false,.slice none 0 0,.bool false,.slice none 0 0];obtain⟨gl,s9⟩:∃ g,wi.heap.size=g:=⟨_,rfl⟩;rw[s9]at p1 s1;obtain⟨u0,u1,u2,u3,v0,v1,v2,v3⟩:=p1.four;obtain⟨W2,J3,p2,G4,s2⟩:=Zbs xn xA xk xc xm xB xj xd p1;have o4:Below wi.heap.size wi W2:=q4.trans (G4.to_below (λk e=>by omega) q4.size);have L7:Hid (W2.heap.size=gl+1):=Za (by rw[s2,s1]);have J7:=Za (hX.below o4);have F9:Hid (gx<gl):=Za (by have:=h4.out.size;have:=hK.size;omega);replace o4:=Za o4;replace e5:=Za e5;replace n6:=Za n6;replace g5:=Za g5;replace hR:=Za hR;replace f:=Za f;replace hK:=Za hK;replace p2:=Za p2;clear hX q4 G4 s1 s2;go_wp2_with fail;(try rw[s9]);(try rw[J3]);clear u0 u1 u2 u3 v0 v1 v2 v3 p1 M2 J3 r0 r1 r2 r3 k0;replace s9:=Za s9
   go_loopg [5,23] i (λt ov kv wk=>∃ (k:Nat) (ln:Bool) (lA:Option Addr) (lk lc:Nat) (lm:Bool) (lB:Option Addr) (lj ld:Nat),k+t=i/\kv=.int .i64 k/\OwnF 73 wk W2.heap.size ov (Ziw AQ i k)/\Blk wk gl 73 #[.bool ln,.slice lA lk lc,.bool lm,.slice lB lj ld]/\Hid (Fr wk ln lA lk lc lm lB lj ld (Zai AQ k i i))/\Kept (λg=>g=gl) W2 wk)
   case atStart=>exact⟨0,_,_,_,_,_,_,_,_,by omega,rfl,OwnF.nil _ _ _,p2.out,J7,Qg _ _⟩
   case round =>
    clear p2 J7;obtain⟨wk,rfl⟩:∃ x:World,x=wr:=⟨_,rfl⟩;obtain⟨k,ln,lA,lk,lc,lm,lB,lj,ld,O0,rfl,a4,c4,hl,d9⟩:=hrel;have N0:=L7.out;have N3:=s9.out;have K7:=F9.out;have g7:Hid (Below wi.heap.size wi wk):=Za (o4.out.trans (d9.to_below (λk e=>by omega) (by omega)));obtain⟨Ao,co,e3,d8⟩:=a4.fl;rw[Zjj]at e3 d8;subst e3;have B5:=d8.cap;unfold maxLen at B5;have c6:=Zd g7.out f.out;have F4:wk.cell? ⟨gx,0,none⟩=some (.slice A1 i c1):=by rw[c6.cell];rfl
    have F3:wk.cell? ⟨gx,1,none⟩=some (.slice A2 i c2):=by rw[c6.cell];rfl
    have H9:=c6.frozen 0;have H7:=c6.frozen 1;clear x0 x1 z0 z1;obtain⟨l0,l1,l2,l3,m0,m1,m2,m3⟩:=c4.four;cases gk with
    | zero =>
     obtain rfl:k=i:=by omega
     have t2:decide ((k:Int)<(k:Int))=false:=by simp
     have I9:Hid (Zai AQ k k k=dQ AQ k):=Za rfl;by_cases hp:0<dQ AQ k
     case neg =>
      have L9:Hid (¬ posP AQ n):=Za (λhp9=>hp (hp9 k a5));have t4:decide ((0:Int)<Zeh (Zai AQ k k k).num 0)=false:=decide_eq_false (λh=>hp (by rw[<- I9.out];exact num_pos0.1 (cmpZ_pos0.1 h)));replace hp:=Za hp;replace d8:=Za d8;replace a4:=Za a4;replace d9:=Za d9;replace c4:=Za c4;clear c6;go_wp2_with fail;refine(Zrn ln lA lk lc lm lB lj ld _ wk hl.out).mono ?_;rintro e w5 ⟨rfl,b5⟩;go_wp2_with fail;refine(Zbx 8 w5).mono ?_;rintro e w6 ⟨rfl,rfl⟩;go_wp2_with fail;refine⟨rfl,?_,.inr ⟨L9.out,rfl⟩⟩;have h1:=h4.out.trans ((g7.out.trans (b5.mono g7.out.size)).mono (by omega));rw[h0.out];exact h1
     have b4:Hid (posP AQ (k+1)):=Za (λt ht=>by
      rcases Qk t k with h1|h1;exact J.out t h1
      ·rw[show t=k by omega];exact hp)
     have t4:decide ((0:Int)<Zeh (Zai AQ k k k).num 0)=true:=decide_eq_true (cmpZ_pos0.2 (num_pos0.2 (by rw[I9.out];exact hp)));replace hp:=Za hp;replace d8:=Za d8;replace a4:=Za a4;replace d9:=Za d9;replace c4:=Za c4;clear c6;go_wp2_with fail;refine(Zrn ln lA lk lc lm lB lj ld _ wk hl.out).mono ?_;rintro e w5 ⟨rfl,b5⟩;go_wp2_with fail;refine(Zcq 8 w5).mono ?_;rintro e w6 ⟨rfl,rfl⟩;have l9:Below wi.heap.size wi w6:=g7.out.trans (b5.mono g7.out.size);have w0:EnvF 97 73 99 w6 W0.heap.size W2.heap.size gl gx (.slice A1 k c1) (.slice A2 k c2) (.slice A1 k c1) (.slice A2 k c2) (.slice Ao k co) rs (Zhb AQ k) (dsL AQ k) (Ziw AQ k k) ln lA lk lc lm lB lj ld (dQ AQ k):=⟨e5.out.kept l9,a4.out.kept b5,Zd b5 c4.out,hl.out.below b5,Zd l9 f.out⟩;have M1:Hid (Kept (λk=>k=gx) W0 w6):=Za (hK.out.below l9);have C:gx<W0.heap.size:=by omega
     have e6:Hid (gl<W2.heap.size):=Za (by omega);have f4:Hid (∀ k',(Value.slice A2 k c2).ownBlock=some k'->k'<gl):=Za (λk' e=>by have:=e5.out.2.1.blt k' e;omega);have e9:Hid (∀ s ∈ rs,∀ k',s.val.ownBlock=some k'->k'<W2.heap.size):=Za (λs hs k' e=>by have:=e5.out.rlt s hs k' e;omega);have O3:(rs).length=k:=by rw[e5.out.1.2.1,Zc5]
     have b8:rs.length+1<=1000:=by omega
     have b7:(dsL AQ k).length+1<=1000:=by rw[Zes];omega
     obtain⟨N4,M8⟩:=w0.cells;replace w0:=Za w0;clear b5 l9 F4 F3 H9 H7 l0 l1 l2 l3 m0 m1 m2 m3;go_wp2_with fail;obtain⟨X0,a2⟩:∃ X,w6.drew=X:=⟨_,rfl⟩;have u6:Below w6.heap.size w6 X0:=by rw[<- a2];exact Zf (Qb _ _) 1
     have hE:=w0.out.below u6;have B4:Kept (λk=>k=gx) W0 X0:=M1.out.below u6;have E5:w6.drew.cell? ⟨gx,0,none⟩=some (.slice A1 k c1)/\w6.drew.cell? ⟨gx,1,none⟩=some (.slice A2 k c2):=by rw[a2];exact hE.cells
     refine Z0 [11,13] (λwx=>wx.cell? ⟨gx,0,none⟩=some (.slice A1 k c1)/\wx.cell? ⟨gx,1,none⟩=some (.slice A2 k c2)) hmx E5 (λhxs9=>?_);refine Zje 5 [0,1,2,5,6] rfl (by kernel_rfl) E5 ?_
     iterate 5 (refine tk1 (v:=?_) rfl (Qf ⟨by kernel_rfl,?_⟩) ?_;rotate_left;(· intro W2 hSw;(try dsimp only at hSw);go_simp;try with_reducible rfl);try simp only[Qa,Zgy,Zge,Zgs,putG_a,putG_s,putG_z])
     refine tk0 ?_;rw[a2];clear E5 hxs9 u6 a2;have n4:Hid (W0.heap.size<=W2.heap.size):=Za (by omega);refine Zc0 (i:=3) (j:=7) rfl rfl (by kernel_rfl) (λK hK=>?_) (λK hK=>?_)
     ·obtain⟨Y1,a0⟩:∃ Y,X0.alloc (.cells #[.slice Ao k co] 97)=Y:=⟨_,rfl⟩
      obtain⟨v7,n7⟩:∃ g,X0.heap.size=g:=⟨_,rfl⟩;have w7:Below X0.heap.size X0 Y1:=by rw[<- a0];exact(Qb _ _).alloc (Qd _) _
      have o8:Blk Y1 v7 97 #[.slice Ao k co]:=by rw[<- a0,<- n7];exact Qh _ _ _
      have a8:=hE.below w7;have h9:=B4.below w7;go_simp;(try rw[a0]);(try rw[n7]);refine hK.out _ _ (λ_=>a8.cells) ?_;clear hK K a0 n7
      try simp only[Qa,Zgy,Zge,Zgs]
      refine Zc0 (i:=4) (j:=7) rfl rfl (by kernel_rfl) (λK hK=>?_) (λK hK=>?_)
      ·rw[if_pos (by rfl)]
       refine Zag _ (.tmp 90) (.tmp 92) 96 rfl W0.heap.size 97 iS Tryz.underlying96 ki m7 n0 m4 (.slice A1 k c1) rs rfl a8.1.1.1 _ (some ⟨v7,0,none⟩) 1 1 [⟨Ao,k,co⟩] rfl (Zga o8) rfl b8 h9.size ?_;intro O1 Y4 J4 x3 F7;have h2:=a8.app b0 (r:=⟨Ao,k,co⟩) rfl n4.out e9.out (λk' e=>Qi (f4.out k' e) e6.out) C J4 x3 F7;have I2:=Kept.grownC h9 x3 (λk' hk=>a8.1.1.1.row_ge k' hk);refine hK.out _ _ (λ_=>h2.cells) ?_;clear hK K
       try simp only[Qa,Zgy,Zge,Zgs]
       refine Zgf 1 [10] rfl (by kernel_rfl) h2.cells ?_
       (refine tk1 (v:=?_) rfl (Qf ⟨by kernel_rfl,?_⟩) ?_;rotate_left;(· intro W2 _;go_simp;try with_reducible rfl);try simp only[Qa,Zgy,Zge,Zgs,putG_a,putG_s,putG_z])
       refine tk0 ?_;refine Ze (i:=7) rfl (by kernel_rfl) (λK hK=>?_);obtain⟨J9,L0,K8,M0⟩:=h2.left;go_simp;refine hK.out _ _ (λ_=>h2.cells) ?_;clear hK K J9 L0 K8 M0
       try simp only[Qa,Zgy,Zge,Zgs]
       refine Ze (i:=8) rfl (by kernel_rfl) (λK hK=>?_);obtain⟨Y6,v5⟩:∃ Y,Y4.alloc (.cells #[.bool ln,.slice lA lk lc,.bool lm,.slice lB lj ld] 73)=Y:=⟨_,rfl⟩;obtain⟨I6,t6⟩:∃ g,Y4.heap.size=g:=⟨_,rfl⟩;have w9:Below Y4.heap.size Y4 Y6:=by rw[<- v5];exact(Qb _ _).alloc (Qd _) _
       have H1:Blk Y6 I6 73 #[.bool ln,.slice lA lk lc,.bool lm,.slice lB lj ld]:=by rw[<- v5,<- t6];exact Qh _ _ _
       have g6:=h2.below w9;have x4:=I2.below w9;go_simp;(try rw[v5]);(try rw[t6]);refine hK.out _ _ (λ_=>g6.cells) ?_;clear hK K v5 t6
       try simp only[Qa,Zgy,Zge,Zgs]
       refine Ze (i:=9) rfl (by kernel_rfl) (λK hK=>?_);rw[if_pos (by rfl)];refine Z3 _ (.tmp 95) (.tmp 97) 97 rfl W0.heap.size 73 iN Tryz.underlying97 hi k7 k6 i1 (.slice A2 k c2) _ rfl g6.1.2.1 _ (some ⟨I6,0,none⟩) 1 1 [⟨ln,lA,lk,lc,lm,lB,lj,ld,dQ AQ k⟩] rfl (Zay _ H1) rfl (by intro e he;rw[Qe]at he;subst he;exact g6.2.2.1) b7 x4.size ?_;intro K2 Y9 G5 y4 J0 I4;obtain⟨f1,f3⟩:=g6.app b0 C G5 y4 J0 I4;have F1:=Kept.grownC x4 y4 (λk' hk=>g6.1.2.1.row_ge k' hk);refine hK.out _ _ (λ_=>⟨by rw[f3.cell];rfl,by rw[f3.cell];rfl⟩) ?_;clear hK K
       try simp only[Qa,Zgy,Zge,Zgs]
       obtain⟨a7,a9,e7,-⟩:=f1.1.mflA;obtain⟨b1,b3,e8,-⟩:=f1.2.1.fl;rw[<- Zbo,Zc5]at e7;subst e7;obtain rfl:K2=.slice b1 (k+1) b3:=by rw[e8];congr 1;simp[Zes]
       clear e8;have f6:Kept (λk=>k=gx) Y9 ((Y9.setCell ⟨gx,0,none⟩ (.slice a7 (k+1) a9)).setCell ⟨gx,1,none⟩ (.slice b1 (k+1) b3)):=Kept.set_ (G:=λk=>k=gx) (Kept.set_ (G:=λk=>k=gx) (Qg _ _) (p:=⟨gx,0,none⟩) (.inl rfl) _) (p:=⟨gx,1,none⟩) (.inl rfl) _;have f5:Blk (Y9.setCell ⟨gx,0,none⟩ (.slice a7 (k+1) a9)) gx 99 #[.slice a7 (k+1) a9,.slice A2 k c2]:=f3.set_ 0 _;have f7:Blk ((Y9.setCell ⟨gx,0,none⟩ (.slice a7 (k+1) a9)).setCell ⟨gx,1,none⟩ (.slice b1 (k+1) b3)) gx 99 #[.slice a7 (k+1) a9,.slice b1 (k+1) b3]:=f5.set_ 1 _;have f8:=f1.box f3 (Zdq _ _ _ _ _ _) C f6;have u0:Y9.cell? ⟨gx,0,none⟩=some (.slice A1 k c1):=by rw[f3.cell];rfl
       have c9:=f3.frozen 0;have u1:(Y9.setCell ⟨gx,0,none⟩ (.slice a7 (k+1) a9)).cell? ⟨gx,1,none⟩=some (.slice A2 k c2):=by rw[f5.cell];rfl
       have c8:=f5.frozen 1;have y:=F1.trans f6;obtain⟨Z9,I⟩:∃ Z,((Y9.setCell ⟨gx,0,none⟩ (.slice a7 (k+1) a9)).setCell ⟨gx,1,none⟩ (.slice b1 (k+1) b3))=Z:=⟨_,rfl⟩;rw[I]at f7 f8 y;replace f7:=Za f7;replace f8:=Za f8;replace y:=Za y;clear f1 f3 f6;refine Zm (i:=11) rfl (by kernel_rfl) (by kernel_rfl) (λK hK=>?_);go_simp;refine hK.out _ _ ?_;clear hK K
       try simp only[Qa,Zgy,Zge,Zgs]
       refine Zg (i:=12) (v:=?v47) rfl (by kernel_rfl) (by kernel_rfl) (by kernel_rfl) (by kernel_rfl) (Qf ⟨by kernel_rfl,?hy47⟩) (λhno=>absurd hno (by decide)) ?rest47
       case hy47=>(intro W2 _;go_simp;try with_reducible rfl)
       try simp only[Qa,Zgy,Zge,Zgs,putG_a,putG_s,putG_z]
       refine Zm (i:=13) rfl (by kernel_rfl) (by kernel_rfl) (λK hK=>?_);go_simp;(try rw[I]);refine hK.out _ _ ?_;clear hK K
       try simp only[Qa,Zgy,Zge,Zgs]
       refine Zj (by kernel_rfl) ?_ _;refine Qc ?_;clear I u0 c9 u1 c8 f5;go_wp2_with fail
       go_roundg (n-(k+1))
       case measure=>omega
       case rel=>exact⟨k+1,_,_,rs ++ [⟨Ao,k,co⟩],by omega,by go_num,f7.out,by rw[Zbo,Zf7];exact f8.out,b4,y.out⟩
      ·obtain⟨I3,F5,I8,J2⟩:=a8.left
       go_simp;refine hK.out _ _ (λ_=>a8.cells) ?_;clear hK K I3 F5 I8 J2
       try simp only[Qa,Zgy,Zge,Zgs]
       refine Zc0 (i:=4) (j:=8) rfl rfl (by kernel_rfl) (λK hK=>?_) (λK hK=>?_)
       ·rw[if_pos (by rfl)]
        refine Zag _ (.tmp 90) (.tmp 92) 96 rfl W0.heap.size 97 iS Tryz.underlying96 ki m7 n0 m4 (.slice A1 k c1) rs rfl a8.1.1.1 _ (some ⟨v7,0,none⟩) 1 1 [⟨Ao,k,co⟩] rfl (Zga o8) rfl b8 h9.size ?_;intro N5 w2 B8 o9 A7;have k4:=a8.app b0 (r:=⟨Ao,k,co⟩) rfl n4.out e9.out (λk' e=>Qi (f4.out k' e) e6.out) C B8 o9 A7;have C8:=Kept.grownC h9 o9 (λk' hk=>a8.1.1.1.row_ge k' hk);refine hK.out _ _ (λ_=>k4.cells) ?_;clear hK K
        try simp only[Qa,Zgy,Zge,Zgs]
        refine Zgf 1 [10] rfl (by kernel_rfl) k4.cells ?_
        (refine tk1 (v:=?_) rfl (Qf ⟨by kernel_rfl,?_⟩) ?_;rotate_left;(· intro W2 _;go_simp;try with_reducible rfl);try simp only[Qa,Zgy,Zge,Zgs,putG_a,putG_s,putG_z])
        refine tk0 ?_;refine Ze (i:=8) rfl (by kernel_rfl) (λK hK=>?_);obtain⟨I1,k9⟩:∃ Y,w2.alloc (.cells #[.bool ln,.slice lA lk lc,.bool lm,.slice lB lj ld] 73)=Y:=⟨_,rfl⟩;obtain⟨x5,i9⟩:∃ g,w2.heap.size=g:=⟨_,rfl⟩;have r9:Below w2.heap.size w2 I1:=by rw[<- k9];exact(Qb _ _).alloc (Qd _) _
        have y9:Blk I1 x5 73 #[.bool ln,.slice lA lk lc,.bool lm,.slice lB lj ld]:=by rw[<- k9,<- i9];exact Qh _ _ _
        have d5:=k4.below r9;have n9:=C8.below r9;go_simp;(try rw[k9]);(try rw[i9]);refine hK.out _ _ (λ_=>d5.cells) ?_;clear hK K k9 i9
        try simp only[Qa,Zgy,Zge,Zgs]
        refine Ze (i:=9) rfl (by kernel_rfl) (λK hK=>?_);rw[if_pos (by rfl)];refine Z3 _ (.tmp 95) (.tmp 97) 97 rfl W0.heap.size 73 iN Tryz.underlying97 hi k7 k6 i1 (.slice A2 k c2) _ rfl d5.1.2.1 _ (some ⟨x5,0,none⟩) 1 1 [⟨ln,lA,lk,lc,lm,lB,lj,ld,dQ AQ k⟩] rfl (Zay _ y9) rfl (by intro e he;rw[Qe]at he;subst he;exact d5.2.2.1) b7 n9.size ?_;intro I0 j8 E2 q9 D6 y6;obtain⟨f1,f3⟩:=d5.app b0 C E2 q9 D6 y6;have C5:=Kept.grownC n9 q9 (λk' hk=>d5.1.2.1.row_ge k' hk);refine hK.out _ _ (λ_=>⟨by rw[f3.cell];rfl,by rw[f3.cell];rfl⟩) ?_;clear hK K
        try simp only[Qa,Zgy,Zge,Zgs]
        obtain⟨a7,a9,e7,-⟩:=f1.1.mflA;obtain⟨b1,b3,e8,-⟩:=f1.2.1.fl;rw[<- Zbo,Zc5]at e7;subst e7;obtain rfl:I0=.slice b1 (k+1) b3:=by rw[e8];congr 1;simp[Zes]
        clear e8;have f6:Kept (λk=>k=gx) j8 ((j8.setCell ⟨gx,0,none⟩ (.slice a7 (k+1) a9)).setCell ⟨gx,1,none⟩ (.slice b1 (k+1) b3)):=Kept.set_ (G:=λk=>k=gx) (Kept.set_ (G:=λk=>k=gx) (Qg _ _) (p:=⟨gx,0,none⟩) (.inl rfl) _) (p:=⟨gx,1,none⟩) (.inl rfl) _;have f5:Blk (j8.setCell ⟨gx,0,none⟩ (.slice a7 (k+1) a9)) gx 99 #[.slice a7 (k+1) a9,.slice A2 k c2]:=f3.set_ 0 _;have f7:Blk ((j8.setCell ⟨gx,0,none⟩ (.slice a7 (k+1) a9)).setCell ⟨gx,1,none⟩ (.slice b1 (k+1) b3)) gx 99 #[.slice a7 (k+1) a9,.slice b1 (k+1) b3]:=f5.set_ 1 _;have f8:=f1.box f3 (Zdq _ _ _ _ _ _) C f6;have u0:j8.cell? ⟨gx,0,none⟩=some (.slice A1 k c1):=by rw[f3.cell];rfl
        have c9:=f3.frozen 0;have u1:(j8.setCell ⟨gx,0,none⟩ (.slice a7 (k+1) a9)).cell? ⟨gx,1,none⟩=some (.slice A2 k c2):=by rw[f5.cell];rfl
        have c8:=f5.frozen 1;have y:=C5.trans f6;obtain⟨Z9,I⟩:∃ Z,((j8.setCell ⟨gx,0,none⟩ (.slice a7 (k+1) a9)).setCell ⟨gx,1,none⟩ (.slice b1 (k+1) b3))=Z:=⟨_,rfl⟩;rw[I]at f7 f8 y;replace f7:=Za f7;replace f8:=Za f8;replace y:=Za y;clear f1 f3 f6;refine Zm (i:=11) rfl (by kernel_rfl) (by kernel_rfl) (λK hK=>?_);go_simp;refine hK.out _ _ ?_;clear hK K
        try simp only[Qa,Zgy,Zge,Zgs]
        refine Zg (i:=12) (v:=?v49) rfl (by kernel_rfl) (by kernel_rfl) (by kernel_rfl) (by kernel_rfl) (Qf ⟨by kernel_rfl,?hy49⟩) (λhno=>absurd hno (by decide)) ?rest49
        case hy49=>(intro W2 _;go_simp;try with_reducible rfl)
        try simp only[Qa,Zgy,Zge,Zgs,putG_a,putG_s,putG_z]
        refine Zm (i:=13) rfl (by kernel_rfl) (by kernel_rfl) (λK hK=>?_);go_simp;(try rw[I]);refine hK.out _ _ ?_;clear hK K
        try simp only[Qa,Zgy,Zge,Zgs]
        refine Zj (by kernel_rfl) ?_ _;refine Qc ?_;clear I u0 c9 u1 c8 f5;go_wp2_with fail
        go_roundg (n-(k+1))
        case measure=>omega
        case rel=>exact⟨k+1,_,_,rs ++ [⟨Ao,k,co⟩],by omega,by go_num,f7.out,by rw[Zbo,Zf7];exact f8.out,b4,y.out⟩
       ·obtain⟨I7,l7⟩:∃ Y,Y1.alloc (.cells #[.bool ln,.slice lA lk lc,.bool lm,.slice lB lj ld] 73)=Y:=⟨_,rfl⟩
        obtain⟨w8,i2⟩:∃ g,Y1.heap.size=g:=⟨_,rfl⟩;have i7:Below Y1.heap.size Y1 I7:=by rw[<- l7];exact(Qb _ _).alloc (Qd _) _
        have E1:Blk I7 w8 73 #[.bool ln,.slice lA lk lc,.bool lm,.slice lB lj ld]:=by rw[<- l7,<- i2];exact Qh _ _ _
        have c5:=a8.below i7;have r5:=h9.below i7;have q7:=Zd i7 o8;go_simp;(try rw[l7]);(try rw[i2]);refine hK.out _ _ (λ_=>c5.cells) ?_;clear hK K l7 i2
        try simp only[Qa,Zgy,Zge,Zgs]
        refine Ze (i:=4) rfl (by kernel_rfl) (λK hK=>?_);rw[if_pos (by rfl)];refine Zag _ (.tmp 90) (.tmp 92) 96 rfl W0.heap.size 97 iS Tryz.underlying96 ki m7 n0 m4 (.slice A1 k c1) rs rfl c5.1.1.1 _ (some ⟨v7,0,none⟩) 1 1 [⟨Ao,k,co⟩] rfl (Zga q7) rfl b8 r5.size ?_;intro N1 O6 D4 j0 B9;have b6:=c5.app b0 (r:=⟨Ao,k,co⟩) rfl n4.out e9.out (λk' e=>Qi (f4.out k' e) e6.out) C D4 j0 B9;have s8:=Kept.grownC r5 j0 (λk' hk=>c5.1.1.1.row_ge k' hk);have m8:=c5.far b0 j0 E1;refine hK.out _ _ (λ_=>b6.cells) ?_;clear hK K
        try simp only[Qa,Zgy,Zge,Zgs]
        refine Zgf 1 [10] rfl (by kernel_rfl) b6.cells ?_
        (refine tk1 (v:=?_) rfl (Qf ⟨by kernel_rfl,?_⟩) ?_;rotate_left;(· intro W2 _;go_simp;try with_reducible rfl);try simp only[Qa,Zgy,Zge,Zgs,putG_a,putG_s,putG_z])
        refine tk0 ?_;refine Ze (i:=9) rfl (by kernel_rfl) (λK hK=>?_);rw[if_pos (by rfl)];refine Z3 _ (.tmp 95) (.tmp 97) 97 rfl W0.heap.size 73 iN Tryz.underlying97 hi k7 k6 i1 (.slice A2 k c2) _ rfl b6.1.2.1 _ (some ⟨w8,0,none⟩) 1 1 [⟨ln,lA,lk,lc,lm,lB,lj,ld,dQ AQ k⟩] rfl (Zay _ m8) rfl (by intro e he;rw[Qe]at he;subst he;exact b6.2.2.1) b7 s8.size ?_;intro F8 j2 E9 q6 D2 C1;obtain⟨f1,f3⟩:=b6.app b0 C E9 q6 D2 C1;have C2:=Kept.grownC s8 q6 (λk' hk=>b6.1.2.1.row_ge k' hk);refine hK.out _ _ (λ_=>⟨by rw[f3.cell];rfl,by rw[f3.cell];rfl⟩) ?_;clear hK K
        try simp only[Qa,Zgy,Zge,Zgs]
        obtain⟨a7,a9,e7,-⟩:=f1.1.mflA;obtain⟨b1,b3,e8,-⟩:=f1.2.1.fl;rw[<- Zbo,Zc5]at e7;subst e7;obtain rfl:F8=.slice b1 (k+1) b3:=by rw[e8];congr 1;simp[Zes]
        clear e8;have f6:Kept (λk=>k=gx) j2 ((j2.setCell ⟨gx,0,none⟩ (.slice a7 (k+1) a9)).setCell ⟨gx,1,none⟩ (.slice b1 (k+1) b3)):=Kept.set_ (G:=λk=>k=gx) (Kept.set_ (G:=λk=>k=gx) (Qg _ _) (p:=⟨gx,0,none⟩) (.inl rfl) _) (p:=⟨gx,1,none⟩) (.inl rfl) _;have f5:Blk (j2.setCell ⟨gx,0,none⟩ (.slice a7 (k+1) a9)) gx 99 #[.slice a7 (k+1) a9,.slice A2 k c2]:=f3.set_ 0 _;have f7:Blk ((j2.setCell ⟨gx,0,none⟩ (.slice a7 (k+1) a9)).setCell ⟨gx,1,none⟩ (.slice b1 (k+1) b3)) gx 99 #[.slice a7 (k+1) a9,.slice b1 (k+1) b3]:=f5.set_ 1 _;have f8:=f1.box f3 (Zdq _ _ _ _ _ _) C f6;have u0:j2.cell? ⟨gx,0,none⟩=some (.slice A1 k c1):=by rw[f3.cell];rfl
        have c9:=f3.frozen 0;have u1:(j2.setCell ⟨gx,0,none⟩ (.slice a7 (k+1) a9)).cell? ⟨gx,1,none⟩=some (.slice A2 k c2):=by rw[f5.cell];rfl
        have c8:=f5.frozen 1;have y:=C2.trans f6;obtain⟨Z9,I⟩:∃ Z,((j2.setCell ⟨gx,0,none⟩ (.slice a7 (k+1) a9)).setCell ⟨gx,1,none⟩ (.slice b1 (k+1) b3))=Z:=⟨_,rfl⟩;rw[I]at f7 f8 y;replace f7:=Za f7;replace f8:=Za f8;replace y:=Za y;clear f1 f3 f6;refine Zm (i:=11) rfl (by kernel_rfl) (by kernel_rfl) (λK hK=>?_);go_simp;refine hK.out _ _ ?_;clear hK K
        try simp only[Qa,Zgy,Zge,Zgs]
        refine Zg (i:=12) (v:=?v51) rfl (by kernel_rfl) (by kernel_rfl) (by kernel_rfl) (by kernel_rfl) (Qf ⟨by kernel_rfl,?hy51⟩) (λhno=>absurd hno (by decide)) ?rest51
        case hy51=>(intro W2 _;go_simp;try with_reducible rfl)
        try simp only[Qa,Zgy,Zge,Zgs,putG_a,putG_s,putG_z]
        refine Zm (i:=13) rfl (by kernel_rfl) (by kernel_rfl) (λK hK=>?_);go_simp;(try rw[I]);refine hK.out _ _ ?_;clear hK K
        try simp only[Qa,Zgy,Zge,Zgs]
        refine Zj (by kernel_rfl) ?_ _;refine Qc ?_;clear I u0 c9 u1 c8 f5;go_wp2_with fail
        go_roundg (n-(k+1))
        case measure=>omega
        case rel=>exact⟨k+1,_,_,rs ++ [⟨Ao,k,co⟩],by omega,by go_num,f7.out,by rw[Zbo,Zf7];exact f8.out,b4,y.out⟩
     ·obtain⟨F2,G9,J8,J6⟩:=hE.left
      go_simp;refine hK.out _ _ (λ_=>hE.cells) ?_;clear hK K F2 G9 J8 J6
      try simp only[Qa,Zgy,Zge,Zgs]
      refine Zc0 (i:=3) (j:=8) rfl rfl (by kernel_rfl) (λK hK=>?_) (λK hK=>?_)
      ·obtain⟨m5,l4⟩:∃ Y,X0.alloc (.cells #[.slice Ao k co] 97)=Y:=⟨_,rfl⟩
       obtain⟨o7,k3⟩:∃ g,X0.heap.size=g:=⟨_,rfl⟩;have v4:Below X0.heap.size X0 m5:=by rw[<- l4];exact(Qb _ _).alloc (Qd _) _
       have q5:Blk m5 o7 97 #[.slice Ao k co]:=by rw[<- l4,<- k3];exact Qh _ _ _
       have d6:=hE.below v4;have j9:=B4.below v4;go_simp;(try rw[l4]);(try rw[k3]);refine hK.out _ _ (λ_=>d6.cells) ?_;clear hK K l4 k3
       try simp only[Qa,Zgy,Zge,Zgs]
       refine Zc0 (i:=4) (j:=8) rfl rfl (by kernel_rfl) (λK hK=>?_) (λK hK=>?_)
       ·rw[if_pos (by rfl)]
        refine Zag _ (.tmp 90) (.tmp 92) 96 rfl W0.heap.size 97 iS Tryz.underlying96 ki m7 n0 m4 (.slice A1 k c1) rs rfl d6.1.1.1 _ (some ⟨o7,0,none⟩) 1 1 [⟨Ao,k,co⟩] rfl (Zga q5) rfl b8 j9.size ?_;intro N2 v6 C9 n8 z8;have k1:=d6.app b0 (r:=⟨Ao,k,co⟩) rfl n4.out e9.out (λk' e=>Qi (f4.out k' e) e6.out) C C9 n8 z8;have A6:=Kept.grownC j9 n8 (λk' hk=>d6.1.1.1.row_ge k' hk);refine hK.out _ _ (λ_=>k1.cells) ?_;clear hK K
        try simp only[Qa,Zgy,Zge,Zgs]
        refine Zgf 1 [10] rfl (by kernel_rfl) k1.cells ?_
        (refine tk1 (v:=?_) rfl (Qf ⟨by kernel_rfl,?_⟩) ?_;rotate_left;(· intro W2 _;go_simp;try with_reducible rfl);try simp only[Qa,Zgy,Zge,Zgs,putG_a,putG_s,putG_z])
        refine tk0 ?_;refine Ze (i:=8) rfl (by kernel_rfl) (λK hK=>?_);obtain⟨G8,l5⟩:∃ Y,v6.alloc (.cells #[.bool ln,.slice lA lk lc,.bool lm,.slice lB lj ld] 73)=Y:=⟨_,rfl⟩;obtain⟨y5,j7⟩:∃ g,v6.heap.size=g:=⟨_,rfl⟩;have t9:Below v6.heap.size v6 G8:=by rw[<- l5];exact(Qb _ _).alloc (Qd _) _
        have C4:Blk G8 y5 73 #[.bool ln,.slice lA lk lc,.bool lm,.slice lB lj ld]:=by rw[<- l5,<- j7];exact Qh _ _ _
        have c7:=k1.below t9;have u8:=A6.below t9;go_simp;(try rw[l5]);(try rw[j7]);refine hK.out _ _ (λ_=>c7.cells) ?_;clear hK K l5 j7
        try simp only[Qa,Zgy,Zge,Zgs]
        refine Ze (i:=9) rfl (by kernel_rfl) (λK hK=>?_);rw[if_pos (by rfl)];refine Z3 _ (.tmp 95) (.tmp 97) 97 rfl W0.heap.size 73 iN Tryz.underlying97 hi k7 k6 i1 (.slice A2 k c2) _ rfl c7.1.2.1 _ (some ⟨y5,0,none⟩) 1 1 [⟨ln,lA,lk,lc,lm,lB,lj,ld,dQ AQ k⟩] rfl (Zay _ C4) rfl (by intro e he;rw[Qe]at he;subst he;exact c7.2.2.1) b7 u8.size ?_;intro G2 i5 D9 u4 F0 A3;obtain⟨f1,f3⟩:=c7.app b0 C D9 u4 F0 A3;have D0:=Kept.grownC u8 u4 (λk' hk=>c7.1.2.1.row_ge k' hk);refine hK.out _ _ (λ_=>⟨by rw[f3.cell];rfl,by rw[f3.cell];rfl⟩) ?_;clear hK K
        try simp only[Qa,Zgy,Zge,Zgs]
        obtain⟨a7,a9,e7,-⟩:=f1.1.mflA;obtain⟨b1,b3,e8,-⟩:=f1.2.1.fl;rw[<- Zbo,Zc5]at e7;subst e7;obtain rfl:G2=.slice b1 (k+1) b3:=by rw[e8];congr 1;simp[Zes]
        clear e8;have f6:Kept (λk=>k=gx) i5 ((i5.setCell ⟨gx,0,none⟩ (.slice a7 (k+1) a9)).setCell ⟨gx,1,none⟩ (.slice b1 (k+1) b3)):=Kept.set_ (G:=λk=>k=gx) (Kept.set_ (G:=λk=>k=gx) (Qg _ _) (p:=⟨gx,0,none⟩) (.inl rfl) _) (p:=⟨gx,1,none⟩) (.inl rfl) _;have f5:Blk (i5.setCell ⟨gx,0,none⟩ (.slice a7 (k+1) a9)) gx 99 #[.slice a7 (k+1) a9,.slice A2 k c2]:=f3.set_ 0 _;have f7:Blk ((i5.setCell ⟨gx,0,none⟩ (.slice a7 (k+1) a9)).setCell ⟨gx,1,none⟩ (.slice b1 (k+1) b3)) gx 99 #[.slice a7 (k+1) a9,.slice b1 (k+1) b3]:=f5.set_ 1 _;have f8:=f1.box f3 (Zdq _ _ _ _ _ _) C f6;have u0:i5.cell? ⟨gx,0,none⟩=some (.slice A1 k c1):=by rw[f3.cell];rfl
        have c9:=f3.frozen 0;have u1:(i5.setCell ⟨gx,0,none⟩ (.slice a7 (k+1) a9)).cell? ⟨gx,1,none⟩=some (.slice A2 k c2):=by rw[f5.cell];rfl
        have c8:=f5.frozen 1;have y:=D0.trans f6;obtain⟨Z9,I⟩:∃ Z,((i5.setCell ⟨gx,0,none⟩ (.slice a7 (k+1) a9)).setCell ⟨gx,1,none⟩ (.slice b1 (k+1) b3))=Z:=⟨_,rfl⟩;rw[I]at f7 f8 y;replace f7:=Za f7;replace f8:=Za f8;replace y:=Za y;clear f1 f3 f6;refine Zm (i:=11) rfl (by kernel_rfl) (by kernel_rfl) (λK hK=>?_);go_simp;refine hK.out _ _ ?_;clear hK K
        try simp only[Qa,Zgy,Zge,Zgs]
        refine Zg (i:=12) (v:=?v53) rfl (by kernel_rfl) (by kernel_rfl) (by kernel_rfl) (by kernel_rfl) (Qf ⟨by kernel_rfl,?hy53⟩) (λhno=>absurd hno (by decide)) ?rest53
        case hy53=>(intro W2 _;go_simp;try with_reducible rfl)
        try simp only[Qa,Zgy,Zge,Zgs,putG_a,putG_s,putG_z]
        refine Zm (i:=13) rfl (by kernel_rfl) (by kernel_rfl) (λK hK=>?_);go_simp;(try rw[I]);refine hK.out _ _ ?_;clear hK K
        try simp only[Qa,Zgy,Zge,Zgs]
        refine Zj (by kernel_rfl) ?_ _;refine Qc ?_;clear I u0 c9 u1 c8 f5;go_wp2_with fail
        go_roundg (n-(k+1))
        case measure=>omega
        case rel=>exact⟨k+1,_,_,rs ++ [⟨Ao,k,co⟩],by omega,by go_num,f7.out,by rw[Zbo,Zf7];exact f8.out,b4,y.out⟩
       ·obtain⟨H5,l6⟩:∃ Y,m5.alloc (.cells #[.bool ln,.slice lA lk lc,.bool lm,.slice lB lj ld] 73)=Y:=⟨_,rfl⟩
        obtain⟨x9,j5⟩:∃ g,m5.heap.size=g:=⟨_,rfl⟩;have i3:Below m5.heap.size m5 H5:=by rw[<- l6];exact(Qb _ _).alloc (Qd _) _
        have D8:Blk H5 x9 73 #[.bool ln,.slice lA lk lc,.bool lm,.slice lB lj ld]:=by rw[<- l6,<- j5];exact Qh _ _ _
        have d7:=d6.below i3;have p9:=j9.below i3;have n3:=Zd i3 q5;go_simp;(try rw[l6]);(try rw[j5]);refine hK.out _ _ (λ_=>d7.cells) ?_;clear hK K l6 j5
        try simp only[Qa,Zgy,Zge,Zgs]
        refine Ze (i:=4) rfl (by kernel_rfl) (λK hK=>?_);rw[if_pos (by rfl)];refine Zag _ (.tmp 90) (.tmp 92) 96 rfl W0.heap.size 97 iS Tryz.underlying96 ki m7 n0 m4 (.slice A1 k c1) rs rfl d7.1.1.1 _ (some ⟨o7,0,none⟩) 1 1 [⟨Ao,k,co⟩] rfl (Zga n3) rfl b8 p9.size ?_;intro M5 N9 E0 k5 A4;have b9:=d7.app b0 (r:=⟨Ao,k,co⟩) rfl n4.out e9.out (λk' e=>Qi (f4.out k' e) e6.out) C E0 k5 A4;have u9:=Kept.grownC p9 k5 (λk' hk=>d7.1.1.1.row_ge k' hk);have m9:=d7.far b0 k5 D8;refine hK.out _ _ (λ_=>b9.cells) ?_;clear hK K
        try simp only[Qa,Zgy,Zge,Zgs]
        refine Zgf 1 [10] rfl (by kernel_rfl) b9.cells ?_
        (refine tk1 (v:=?_) rfl (Qf ⟨by kernel_rfl,?_⟩) ?_;rotate_left;(· intro W2 _;go_simp;try with_reducible rfl);try simp only[Qa,Zgy,Zge,Zgs,putG_a,putG_s,putG_z])
        refine tk0 ?_;refine Ze (i:=9) rfl (by kernel_rfl) (λK hK=>?_);rw[if_pos (by rfl)];refine Z3 _ (.tmp 95) (.tmp 97) 97 rfl W0.heap.size 73 iN Tryz.underlying97 hi k7 k6 i1 (.slice A2 k c2) _ rfl b9.1.2.1 _ (some ⟨x9,0,none⟩) 1 1 [⟨ln,lA,lk,lc,lm,lB,lj,ld,dQ AQ k⟩] rfl (Zay _ m9) rfl (by intro e he;rw[Qe]at he;subst he;exact b9.2.2.1) b7 u9.size ?_;intro H8 j1 D1 r8 E3 z7;obtain⟨f1,f3⟩:=b9.app b0 C D1 r8 E3 z7;have A5:=Kept.grownC u9 r8 (λk' hk=>b9.1.2.1.row_ge k' hk);refine hK.out _ _ (λ_=>⟨by rw[f3.cell];rfl,by rw[f3.cell];rfl⟩) ?_;clear hK K
        try simp only[Qa,Zgy,Zge,Zgs]
        obtain⟨a7,a9,e7,-⟩:=f1.1.mflA;obtain⟨b1,b3,e8,-⟩:=f1.2.1.fl;rw[<- Zbo,Zc5]at e7;subst e7;obtain rfl:H8=.slice b1 (k+1) b3:=by rw[e8];congr 1;simp[Zes]
        clear e8;have f6:Kept (λk=>k=gx) j1 ((j1.setCell ⟨gx,0,none⟩ (.slice a7 (k+1) a9)).setCell ⟨gx,1,none⟩ (.slice b1 (k+1) b3)):=Kept.set_ (G:=λk=>k=gx) (Kept.set_ (G:=λk=>k=gx) (Qg _ _) (p:=⟨gx,0,none⟩) (.inl rfl) _) (p:=⟨gx,1,none⟩) (.inl rfl) _;have f5:Blk (j1.setCell ⟨gx,0,none⟩ (.slice a7 (k+1) a9)) gx 99 #[.slice a7 (k+1) a9,.slice A2 k c2]:=f3.set_ 0 _;have f7:Blk ((j1.setCell ⟨gx,0,none⟩ (.slice a7 (k+1) a9)).setCell ⟨gx,1,none⟩ (.slice b1 (k+1) b3)) gx 99 #[.slice a7 (k+1) a9,.slice b1 (k+1) b3]:=f5.set_ 1 _;have f8:=f1.box f3 (Zdq _ _ _ _ _ _) C f6;have u0:j1.cell? ⟨gx,0,none⟩=some (.slice A1 k c1):=by rw[f3.cell];rfl
        have c9:=f3.frozen 0;have u1:(j1.setCell ⟨gx,0,none⟩ (.slice a7 (k+1) a9)).cell? ⟨gx,1,none⟩=some (.slice A2 k c2):=by rw[f5.cell];rfl
        have c8:=f5.frozen 1;have y:=A5.trans f6;obtain⟨Z9,I⟩:∃ Z,((j1.setCell ⟨gx,0,none⟩ (.slice a7 (k+1) a9)).setCell ⟨gx,1,none⟩ (.slice b1 (k+1) b3))=Z:=⟨_,rfl⟩;rw[I]at f7 f8 y;replace f7:=Za f7;replace f8:=Za f8;replace y:=Za y;clear f1 f3 f6;refine Zm (i:=11) rfl (by kernel_rfl) (by kernel_rfl) (λK hK=>?_);go_simp;refine hK.out _ _ ?_;clear hK K
        try simp only[Qa,Zgy,Zge,Zgs]
        refine Zg (i:=12) (v:=?v55) rfl (by kernel_rfl) (by kernel_rfl) (by kernel_rfl) (by kernel_rfl) (Qf ⟨by kernel_rfl,?hy55⟩) (λhno=>absurd hno (by decide)) ?rest55
        case hy55=>(intro W2 _;go_simp;try with_reducible rfl)
        try simp only[Qa,Zgy,Zge,Zgs,putG_a,putG_s,putG_z]
        refine Zm (i:=13) rfl (by kernel_rfl) (by kernel_rfl) (λK hK=>?_);go_simp;(try rw[I]);refine hK.out _ _ ?_;clear hK K
        try simp only[Qa,Zgy,Zge,Zgs]
        refine Zj (by kernel_rfl) ?_ _;refine Qc ?_;clear I u0 c9 u1 c8 f5;go_wp2_with fail
        go_roundg (n-(k+1))
        case measure=>omega
        case rel=>exact⟨k+1,_,_,rs ++ [⟨Ao,k,co⟩],by omega,by go_num,f7.out,by rw[Zbo,Zf7];exact f8.out,b4,y.out⟩
      ·obtain⟨n1,l8⟩:∃ Y,X0.alloc (.cells #[.bool ln,.slice lA lk lc,.bool lm,.slice lB lj ld] 73)=Y:=⟨_,rfl⟩
       obtain⟨w3,i6⟩:∃ g,X0.heap.size=g:=⟨_,rfl⟩;have u7:Below X0.heap.size X0 n1:=by rw[<- l8];exact(Qb _ _).alloc (Qd _) _
       have B6:Blk n1 w3 73 #[.bool ln,.slice lA lk lc,.bool lm,.slice lB lj ld]:=by rw[<- l8,<- i6];exact Qh _ _ _
       have o5:=hE.below u7;have B1:=B4.below u7;go_simp;(try rw[l8]);(try rw[i6]);refine hK.out _ _ (λ_=>o5.cells) ?_;clear hK K l8 i6
       try simp only[Qa,Zgy,Zge,Zgs]
       refine Ze (i:=3) rfl (by kernel_rfl) (λK hK=>?_);obtain⟨J1,k8⟩:∃ Y,n1.alloc (.cells #[.slice Ao k co] 97)=Y:=⟨_,rfl⟩;obtain⟨w4,j3⟩:∃ g,n1.heap.size=g:=⟨_,rfl⟩;have i8:Below n1.heap.size n1 J1:=by rw[<- k8];exact(Qb _ _).alloc (Qd _) _
       have A9:Blk J1 w4 97 #[.slice Ao k co]:=by rw[<- k8,<- j3];exact Qh _ _ _
       have d4:=o5.below i8;have s5:=B1.below i8;have n2:=Zd i8 B6;go_simp;(try rw[k8]);(try rw[j3]);refine hK.out _ _ (λ_=>d4.cells) ?_;clear hK K k8 j3
       try simp only[Qa,Zgy,Zge,Zgs]
       refine Ze (i:=4) rfl (by kernel_rfl) (λK hK=>?_);rw[if_pos (by rfl)];refine Zag _ (.tmp 90) (.tmp 92) 96 rfl W0.heap.size 97 iS Tryz.underlying96 ki m7 n0 m4 (.slice A1 k c1) rs rfl d4.1.1.1 _ (some ⟨w4,0,none⟩) 1 1 [⟨Ao,k,co⟩] rfl (Zga A9) rfl b8 s5.size ?_;intro N6 O4 B3 j6 z5;have b2:=d4.app b0 (r:=⟨Ao,k,co⟩) rfl n4.out e9.out (λk' e=>Qi (f4.out k' e) e6.out) C B3 j6 z5;have r7:=Kept.grownC s5 j6 (λk' hk=>d4.1.1.1.row_ge k' hk);have f9:=d4.far b0 j6 n2;refine hK.out _ _ (λ_=>b2.cells) ?_;clear hK K
       try simp only[Qa,Zgy,Zge,Zgs]
       refine Zgf 1 [10] rfl (by kernel_rfl) b2.cells ?_
       (refine tk1 (v:=?_) rfl (Qf ⟨by kernel_rfl,?_⟩) ?_;rotate_left;(· intro W2 _;go_simp;try with_reducible rfl);try simp only[Qa,Zgy,Zge,Zgs,putG_a,putG_s,putG_z])
       refine tk0 ?_;refine Ze (i:=9) rfl (by kernel_rfl) (λK hK=>?_);rw[if_pos (by rfl)];refine Z3 _ (.tmp 95) (.tmp 97) 97 rfl W0.heap.size 73 iN Tryz.underlying97 hi k7 k6 i1 (.slice A2 k c2) _ rfl b2.1.2.1 _ (some ⟨w3,0,none⟩) 1 1 [⟨ln,lA,lk,lc,lm,lB,lj,ld,dQ AQ k⟩] rfl (Zay _ f9) rfl (by intro e he;rw[Qe]at he;subst he;exact b2.2.2.1) b7 r7.size ?_;intro I5 i4 C6 t8 D3 E4;obtain⟨f1,f3⟩:=b2.app b0 C C6 t8 D3 E4;have D7:=Kept.grownC r7 t8 (λk' hk=>b2.1.2.1.row_ge k' hk);refine hK.out _ _ (λ_=>⟨by rw[f3.cell];rfl,by rw[f3.cell];rfl⟩) ?_;clear hK K
       try simp only[Qa,Zgy,Zge,Zgs]
       obtain⟨a7,a9,e7,-⟩:=f1.1.mflA;obtain⟨b1,b3,e8,-⟩:=f1.2.1.fl;rw[<- Zbo,Zc5]at e7;subst e7;obtain rfl:I5=.slice b1 (k+1) b3:=by rw[e8];congr 1;simp[Zes]
       clear e8;have f6:Kept (λk=>k=gx) i4 ((i4.setCell ⟨gx,0,none⟩ (.slice a7 (k+1) a9)).setCell ⟨gx,1,none⟩ (.slice b1 (k+1) b3)):=Kept.set_ (G:=λk=>k=gx) (Kept.set_ (G:=λk=>k=gx) (Qg _ _) (p:=⟨gx,0,none⟩) (.inl rfl) _) (p:=⟨gx,1,none⟩) (.inl rfl) _;have f5:Blk (i4.setCell ⟨gx,0,none⟩ (.slice a7 (k+1) a9)) gx 99 #[.slice a7 (k+1) a9,.slice A2 k c2]:=f3.set_ 0 _;have f7:Blk ((i4.setCell ⟨gx,0,none⟩ (.slice a7 (k+1) a9)).setCell ⟨gx,1,none⟩ (.slice b1 (k+1) b3)) gx 99 #[.slice a7 (k+1) a9,.slice b1 (k+1) b3]:=f5.set_ 1 _;have f8:=f1.box f3 (Zdq _ _ _ _ _ _) C f6;have u0:i4.cell? ⟨gx,0,none⟩=some (.slice A1 k c1):=by rw[f3.cell];rfl
       have c9:=f3.frozen 0;have u1:(i4.setCell ⟨gx,0,none⟩ (.slice a7 (k+1) a9)).cell? ⟨gx,1,none⟩=some (.slice A2 k c2):=by rw[f5.cell];rfl
       have c8:=f5.frozen 1;have y:=D7.trans f6;obtain⟨Z9,I⟩:∃ Z,((i4.setCell ⟨gx,0,none⟩ (.slice a7 (k+1) a9)).setCell ⟨gx,1,none⟩ (.slice b1 (k+1) b3))=Z:=⟨_,rfl⟩;rw[I]at f7 f8 y;replace f7:=Za f7;replace f8:=Za f8;replace y:=Za y;clear f1 f3 f6;refine Zm (i:=11) rfl (by kernel_rfl) (by kernel_rfl) (λK hK=>?_);go_simp;refine hK.out _ _ ?_;clear hK K
       try simp only[Qa,Zgy,Zge,Zgs]
       refine Zg (i:=12) (v:=?v57) rfl (by kernel_rfl) (by kernel_rfl) (by kernel_rfl) (by kernel_rfl) (Qf ⟨by kernel_rfl,?hy57⟩) (λhno=>absurd hno (by decide)) ?rest57
       case hy57=>(intro W2 _;go_simp;try with_reducible rfl)
       try simp only[Qa,Zgy,Zge,Zgs,putG_a,putG_s,putG_z]
       refine Zm (i:=13) rfl (by kernel_rfl) (by kernel_rfl) (λK hK=>?_);go_simp;(try rw[I]);refine hK.out _ _ ?_;clear hK K
       try simp only[Qa,Zgy,Zge,Zgs]
       refine Zj (by kernel_rfl) ?_ _;refine Qc ?_;clear I u0 c9 u1 c8 f5;go_wp2_with fail
       go_roundg (n-(k+1))
       case measure=>omega
       case rel=>exact⟨k+1,_,_,rs ++ [⟨Ao,k,co⟩],by omega,by go_num,f7.out,by rw[Zbo,Zf7];exact f8.out,b4,y.out⟩
    | succ t2 =>
     obtain rfl:t2=i-(k+1):=by omega
     have U:k<i:=by omega
     have t2:decide ((k:Int)<(i:Int))=true:=decide_eq_true (by omega);have bki:(k:Int)<(i:Int):=by omega
     have bkn:(k:Int)<(n:Int):=by omega
     obtain⟨yn,yA,yk,yc,ym,yB,yj,yd,⟨r0,r1,r2,r3⟩,hY⟩:=(hR.out.below g7.out).atS (show k<n by omega);rw[x7.out]at hY;obtain⟨V3,K6,r4,p3,s3⟩:=Zax wk 73 #[.bool false,.slice none 0 0,.bool false,.slice none 0 0];obtain⟨gs,u5⟩:∃ g,wk.heap.size=g:=⟨_,rfl⟩;rw[u5]at p3 s3;obtain⟨u0,u1,u2,u3,v0,v1,v2,v3⟩:=p3.four;obtain⟨W4,G0,p4,G3,s4⟩:=Zbs yn yA yk yc ym yB yj yd p3;have v9:Below wk.heap.size wk W4:=r4.trans (G3.to_below (λk e=>by omega) r4.size);have K1:Hid (W4.heap.size=gs+1):=Za (by rw[s4,s3]);have H0:=Za (hY.below v9);have M7:Hid (gl<gs):=Za (by have:=c4.lt;omega);replace v9:=Za v9;replace a4:=Za a4;replace d8:=Za d8;replace c4:=Za c4;replace d9:=Za d9;replace p4:=Za p4;clear hY r4 G3 s3 s4 c6;go_wp2_with fail;(try rw[u5]);(try rw[G0]);clear u0 u1 u2 u3 v0 v1 v2 v3 p3 K6 G0 r0 r1 r2 r3 F4 F3 H9 H7 l0 l1 l2 l3 m0 m1 m2 m3;replace u5:=Za u5
     go_loopg [32] k (λt jv wj=>∃ (j:Nat) (sn:Bool) (sA:Option Addr) (sk sc:Nat) (sm:Bool) (sB:Option Addr) (sj sd:Nat),j+t=k/\jv=.int .i64 j/\Blk wj gs 73 #[.bool sn,.slice sA sk sc,.bool sm,.slice sB sj sd]/\Hid (Fr wj sn sA sk sc sm sB sj sd (Zai AQ j i k))/\Kept (λg=>g=gs) W4 wj)
     case atStart=>exact⟨0,_,_,_,_,_,_,_,_,by omega,rfl,p4.out,H0,Qg _ _⟩
     case round =>
      clear p4 H0;obtain⟨wj,rfl⟩:∃ x:World,x=wr:=⟨_,rfl⟩;obtain⟨j,sn,sA,sk,sc,sm,sB,sj,sd,O2,rfl,D5,hs,z3⟩:=hrel;have M6:=K1.out;have N7:=u5.out;have q8:Hid (Below wk.heap.size wk wj):=Za (v9.out.trans (z3.to_below (λk e=>by omega) (by omega)));have g9:Hid (Below wi.heap.size wi wj):=Za (g7.out.trans (q8.out.mono g7.out.size));have t7:=Zd g9.out f.out;have G1:wj.cell? ⟨gx,0,none⟩=some (.slice A1 i c1):=by rw[t7.cell];rfl
      have y7:wj.cell? ⟨gx,1,none⟩=some (.slice A2 i c2):=by rw[t7.cell];rfl
      obtain⟨s0,s1,s2,s3,y0,y1,y2,y3⟩:=D5.four;cases gk with
      | zero =>
       obtain rfl:j=k:=by omega
       have t3:decide ((j:Int)<(j:Int))=false:=by simp
       obtain⟨gd,O,dn,dA,dk,dc,dm,dB,dj,dd,rfl,⟨d0,d1,d2,d3⟩,hD⟩:=(g5.out.below g9.out).at_ U;rw[Zsl U]at hD;replace hD:=Za hD;go_wp2_with fail;obtain⟨X0,a2⟩:∃ X,wj.drew=X:=⟨_,rfl⟩;have a1:Below wj.heap.size wj X0:=by rw[<- a2];exact Zf (Qb _ _) 1
       have u:Hid (∀ wx,Below wj.heap.size wj wx->wx.cell? ⟨gs,0,none⟩=some (.bool sn)/\wx.cell? ⟨gs,1,none⟩=some (.slice sA sk sc)/\wx.cell? ⟨gs,2,none⟩=some (.bool sm)/\wx.cell? ⟨gs,3,none⟩=some (.slice sB sj sd)/\wx.cell? ⟨gx,1,none⟩=some (.slice (some ⟨gd,O,none⟩) i c2)/\wx.cell? ⟨gd,O+j*4,none⟩=some (.bool dn)/\wx.cell? ⟨gd,O+j*4+1,none⟩=some (.slice dA dk dc)/\wx.cell? ⟨gd,O+j*4+2,none⟩=some (.bool dm)/\wx.cell? ⟨gd,O+j*4+3,none⟩=some (.slice dB dj dd)):=Za (λwx f=>⟨Zb f s0,Zb f s1,Zb f s2,Zb f s3,Zb f y7,Zb f d0,Zb f d1,Zb f d2,Zb f d3⟩);refine wp_heldS [] hmx u (by rw[a2];exact a1) (λhxs=>?_);rw[a2];refine Zje 7 [0,1,2,3,4,5,6] rfl (by kernel_rfl) (u.out _ a1) ?_
       iterate 7 (refine tk1 (v:=?_) rfl (Qf ⟨by kernel_rfl,?_⟩) ?_;rotate_left;(· intro W2 hSw;(try dsimp only at hSw);go_simp;try with_reducible rfl);try simp only[Qa,Zgy,Zge,Zgs,putG_a,putG_s,putG_z])
       refine tk0 ?_;refine Ze (i:=7) rfl (by kernel_rfl) (λK hK=>?_);go_simp;refine(Zx5 sn sm dn dm sA sB dA dB sk sc sj sd dk dc dj dd _ _ X0 (hs.out.below a1) (hD.out.below a1) (fac_q hF.out a5 U J.out).1 (fac_q hF.out a5 U J.out).2.1 (fac_q hF.out a5 U J.out).2.2).mono ?_;rintro e w5 ⟨b5,an,aA,ak,ac,am,aB,aj,ad,rfl,hT⟩;have a6:=a1.trans (b5.mono a1.size);refine hK.out _ _ (λ_=>u.out _ a6) ?_;clear hK K
       try simp only[Qa,Zgy,Zge,Zgs]
       obtain⟨Y1,a0⟩:∃ Y,w5.alloc (.cells #[.bool an,.slice aA ak ac,.bool am,.slice aB aj ad] 73)=Y:=⟨_,rfl⟩;obtain⟨g4,a3⟩:∃ g,w5.heap.size=g:=⟨_,rfl⟩;have g0:Below w5.heap.size w5 Y1:=by rw[<- a0];exact(Qb _ _).alloc (Qd _) _
       have g8:Blk Y1 g4 73 #[.bool an,.slice aA ak ac,.bool am,.slice aB aj ad]:=by rw[<- a0,<- a3];exact Qh _ _ _
       have V:Below wj.heap.size wj Y1:=a6.trans (g0.mono a6.size);refine Ze (i:=8) rfl (by kernel_rfl) (λK hK=>?_);go_simp;(try rw[a0]);(try rw[a3]);refine hK.out _ _ (λ_=>u.out _ V) ?_;clear hK K a0 a3
       try simp only[Qa,Zgy,Zge,Zgs]
       have J5:=hT.below g0;have c3:Below wk.heap.size wk Y1:=q8.out.trans (V.mono q8.out.size);have B2:=a4.out.kept c3;have H4:W2.heap.size<=Y1.heap.size:=Qn d9.out.size c3.size;have r6:(Ziw AQ i j).length+1<=1000:=by rw[Zjj];omega
       refine Ze (i:=9) rfl (by kernel_rfl) (λK hK=>?_);rw[if_pos (by rfl)];refine Z3 _ (.tmp 57) (.tmp 65) 97 rfl W2.heap.size 73 iN Tryz.underlying97 hi k7 k6 i1 (.slice Ao j co) _ rfl B2 _ (some ⟨g4,0,none⟩) 1 1 [⟨an,aA,ak,ac,am,aB,aj,ad,Zai AQ j i j/dQ AQ j⟩] rfl (Zay _ g8) rfl (by intro e he;rw[Qe]at he;subst he;exact J5) r6 H4 ?_;intro vY Y2 F6 g2 E6 K5;have h3:OwnF 73 Y2 W2.heap.size vY (Ziw AQ i (j+1)):=by rw[Zwa];exact F6
       obtain⟨Ap,cp,e4,t0⟩:=h3.fl;rw[Zjj]at e4 t0;subst e4;have h5:=B2.row_ge;have t5:=a4.out.blt;have k2:Hid (Kept (λg=>g=gl) W2 Y1):=Za (d9.out.below c3);have x6:Hid (Kept (λg=>g=gl) W2 Y2):=Za ⟨g2.os.trans k2.out.os,g2.tape.trans k2.out.tape,g2.output.trans k2.out.output,Qn k2.out.size g2.size,λg hg hne=>(g2.block g (Qo hg k2.out.size) (λe=>by have:=h5 g (by first|exact e|exact e.symm);omega)).trans (k2.out.block g hg hne)⟩;have x2:Hid (Blk Y2 gl 73 #[.bool ln,.slice lA lk lc,.bool lm,.slice lB lj ld]):=Za ((g2.block gl (Qo c4.out.lt c3.size) (λe=>by have:=h5 gl (by first|exact e|exact e.symm);omega)).trans (Zd c3 c4.out));have L6:Hid (Fr Y2 ln lA lk lc lm lB lj ld (Zai AQ j i i)):=Za ⟨⟨hl.out.1.1,hl.out.1.2.1,E6 _ _ _ _ (hl.out.below c3).1.2.2⟩,⟨hl.out.2.1,hl.out.2.2.1,E6 _ _ _ _ (hl.out.below c3).2.2.2⟩⟩;have x8:Hid (Below wi.heap.size wi Y2):=Za (o4.out.trans (x6.out.to_below (λg e=>by omega) (by omega)));obtain⟨_,_,_,_,_,_,_,_,⟨H2,-⟩,-⟩:=g5.out.atS U;have L3:gd<wi.heap.size:=Zo H2
       have T:∀ (g o:Nat) (v:Value),(∀ k',(Value.slice Ao j co).ownBlock=some k'->k'≠g)->Y1.cell? ⟨g,o,none⟩=some v->Y2.cell? ⟨g,o,none⟩=some v:=λg o v hne hv=>by
        rw[<- hv];exact World.cell?_of_block (g2.block g (Zo hv) (λe=>hne g (by first|exact e|exact e.symm) rfl))
       have n5:Y2.cell? ⟨gs,0,none⟩=some (.bool sn)/\Y2.cell? ⟨gs,1,none⟩=some (.slice sA sk sc)/\Y2.cell? ⟨gs,2,none⟩=some (.bool sm)/\Y2.cell? ⟨gs,3,none⟩=some (.slice sB sj sd)/\Y2.cell? ⟨gx,1,none⟩=some (.slice (some ⟨gd,O,none⟩) i c2)/\Y2.cell? ⟨gd,O+j*4,none⟩=some (.bool dn)/\Y2.cell? ⟨gd,O+j*4+1,none⟩=some (.slice dA dk dc)/\Y2.cell? ⟨gd,O+j*4+2,none⟩=some (.bool dm)/\Y2.cell? ⟨gd,O+j*4+3,none⟩=some (.slice dB dj dd):=by
        obtain⟨p0,p1,p2,p3,p4,p5,p6,p7,p8⟩:=u.out _ V;refine⟨T _ _ _ (λk' e=>by have:=t5 k' e;omega) p0,T _ _ _ (λk' e=>by have:=t5 k' e;omega) p1,T _ _ _ (λk' e=>by have:=t5 k' e;omega) p2,T _ _ _ (λk' e=>by have:=t5 k' e;omega) p3,T _ _ _ (λk' e=>by have:=h5 k' e;omega) p4,T _ _ _ (λk' e=>by have:=h5 k' e;omega) p5,T _ _ _ (λk' e=>by have:=h5 k' e;omega) p6,T _ _ _ (λk' e=>by have:=h5 k' e;omega) p7,T _ _ _ (λk' e=>by have:=h5 k' e;omega) p8⟩
       refine hK.out _ _ (λ_=>n5) ?_;clear hK K H2 T
       try simp only[Qa,Zgy,Zge,Zgs]
       refine Zgf 1 [10] rfl (by kernel_rfl) n5 ?_
       (refine tk1 (v:=?_) rfl (Qf ⟨by kernel_rfl,?_⟩) ?_;rotate_left;(· intro W2 _;go_simp;try with_reducible rfl);try simp only[Qa,Zgy,Zge,Zgs,putG_a,putG_s,putG_z])
       refine tk0 ?_;refine Zj (by kernel_rfl) ?_ _;refine Qc ?_;replace h3:=Za h3;replace t0:=Za t0;clear n5 L3 u hxs a1 V a6 g8 g0 a2 F6 g2 E6 K5 h5 t5 B2 J5 hT c3 k2 H4 r6 s0 s1 s2 s3 y0 y1 y2 y3 G1 y7 d0 d1 d2 d3 hD D5 hs z3 t7 q8 g9 hl c4 d9 a4 d8;obtain⟨l0,l1,l2,l3,-⟩:=x2.out.four;have H6:=Zd x8.out f.out;have L4:Y2.cell? ⟨gx,1,none⟩=some (.slice (some ⟨gd,O,none⟩) i c2):=by rw[H6.cell];rfl
       obtain⟨dn,dA,dk,dc,dm,dB,dj,dd,⟨d0,d1,d2,d3⟩,hD⟩:=(g5.out.below x8.out).atS U;rw[Zsl U]at hD;replace hD:=Za hD;obtain⟨go,oo,on_,oA,ok,oc,om,oB,oj,od,rfl,⟨o0,o1,o2,o3⟩,hO⟩:=t0.out.at_ (Qj j);rw[Zua (Qj j)]at hO;replace hO:=Za hO;have C0:=t0.out.cap;unfold maxLen at C0;have bjs:(j:Int)<((j:Int)+1):=by omega
       have M3:(j:Int)<((j+1:Nat):Int):=by omega
       have bji:(j:Int)<(i:Int):=by omega
       go_wp2_with fail;obtain⟨X0,a2⟩:∃ X,Y2.drew=X:=⟨_,rfl⟩;have a1:Below Y2.heap.size Y2 X0:=by rw[<- a2];exact Zf (Qb _ _) 1
       have u:Hid (∀ wx,Below Y2.heap.size Y2 wx->wx.cell? ⟨gl,0,none⟩=some (.bool ln)/\wx.cell? ⟨gl,1,none⟩=some (.slice lA lk lc)/\wx.cell? ⟨gl,2,none⟩=some (.bool lm)/\wx.cell? ⟨gl,3,none⟩=some (.slice lB lj ld)/\wx.cell? ⟨go,oo+j*4,none⟩=some (.bool on_)/\wx.cell? ⟨go,oo+j*4+1,none⟩=some (.slice oA ok oc)/\wx.cell? ⟨go,oo+j*4+2,none⟩=some (.bool om)/\wx.cell? ⟨go,oo+j*4+3,none⟩=some (.slice oB oj od)/\wx.cell? ⟨gx,1,none⟩=some (.slice (some ⟨gd,O,none⟩) i c2)/\wx.cell? ⟨gd,O+j*4,none⟩=some (.bool dn)/\wx.cell? ⟨gd,O+j*4+1,none⟩=some (.slice dA dk dc)/\wx.cell? ⟨gd,O+j*4+2,none⟩=some (.bool dm)/\wx.cell? ⟨gd,O+j*4+3,none⟩=some (.slice dB dj dd)):=Za (λwx f=>⟨Zb f l0,Zb f l1,Zb f l2,Zb f l3,Zb f o0,Zb f o1,Zb f o2,Zb f o3,Zb f L4,Zb f d0,Zb f d1,Zb f d2,Zb f d3⟩);refine wp_heldS [17] hmx u (by rw[a2];exact a1) (λhxs=>?_);rw[a2];refine Zje 14 [0,1,2,3,4,5,6,7,8,9,10,11,12,13] rfl (by kernel_rfl) (u.out _ a1) ?_
       iterate 14 (refine tk1 (v:=?_) rfl (Qf ⟨by kernel_rfl,?_⟩) ?_;rotate_left;(· intro W2 hSw;(try dsimp only at hSw);go_simp;try with_reducible rfl);try simp only[Qa,Zgy,Zge,Zgs,putG_a,putG_s,putG_z])
       refine tk0 ?_;obtain⟨Y1,a0⟩:∃ Y,X0.alloc (.cells #[.bool on_,.slice oA ok oc,.bool om,.slice oB oj od,.bool dn,.slice dA dk dc,.bool dm,.slice dB dj dd] 73)=Y:=⟨_,rfl⟩;obtain⟨g4,a3⟩:∃ g,X0.heap.size=g:=⟨_,rfl⟩;have g0:Below X0.heap.size X0 Y1:=by rw[<- a0];exact(Qb _ _).alloc (Qd _) _
       have g8:Blk Y1 g4 73 #[.bool on_,.slice oA ok oc,.bool om,.slice oB oj od,.bool dn,.slice dA dk dc,.bool dm,.slice dB dj dd]:=by rw[<- a0,<- a3];exact Qh _ _ _
       have V:Below Y2.heap.size Y2 Y1:=a1.trans (g0.mono a1.size);refine Ze (i:=14) rfl (by kernel_rfl) (λK hK=>?_);go_simp;(try rw[a0]);(try rw[a3]);refine hK.out _ _ (λ_=>u.out _ V) ?_;clear hK K a0 a3
       try simp only[Qa,Zgy,Zge,Zgs]
       refine Ze (i:=15) rfl (by kernel_rfl) (λK hK=>?_);go_simp;refine(Zjz on_ oA ok oc om oB oj od (lQ AQ i j) (some ⟨g4,0,none⟩) 2 2 [lQ AQ i j,dQ AQ j] Y1 (hO.out.below V) (FL.pair2 g8 (hO.out.below V) (hD.out.below V)) (by omega) (Zll hF.out a5 U J.out).1 (Zll hF.out a5 U J.out).2).mono ?_;rintro e w5 ⟨b5,an,aA,ak,ac,am,aB,aj,ad,rfl,hT⟩;have a6:=V.trans (b5.mono V.size);refine hK.out _ _ (λ_=>u.out _ a6) ?_;clear hK K
       try simp only[Qa,Zgy,Zge,Zgs]
       refine Ze (i:=16) rfl (by kernel_rfl) (λK hK=>?_);go_simp;refine(Znv ln lm an am lA lB aA aB lk lc lj ld ak ac aj ad _ _ w5 (L6.out.below a6) hT (Zt8 hF.out a5 U J.out).1 (Zt8 hF.out a5 U J.out).2).mono ?_;rintro e w6 ⟨z6,bn,bA,bk,bc,bm,bB,bj,bd,rfl,hU⟩;have j4:=a6.trans (z6.mono a6.size);refine hK.out _ _ (λ_=>u.out _ j4) ?_;clear hK K
       try simp only[Qa,Zgy,Zge,Zgs]
       have c0:Below Y2.heap.size Y2 w6:=j4;have e0:=Zd c0 x2.out;obtain⟨f0,f1,f2,f3,E8,y8,C7,E7⟩:=e0.four;obtain⟨W7,s6,p7,i0,s7⟩:=Zbs bn bA bk bc bm bB bj bd e0;have o6:=Za (hU.keptN i0 e0 (Zcf _ _ _ _ _ _ _ _));have C3:=Za ((h3.out.kept c0).keptG e0 (Zcf _ _ _ _ _ _ _ _) (λe=>by have h8:=h3.out.row_ge gl e;omega) i0);have B7:Hid (Kept (λg=>g=gl) W2 W7):=Za ((x6.out.below c0).trans i0);replace p7:=Za p7;clear i0 hU hT;refine Zm (i:=17) rfl (by kernel_rfl) (by kernel_rfl) (λK hK=>?_);go_simp;(try rw[s6]);refine hK.out _ _ ?_;clear hK K
       try simp only[Qa,Zgy,Zge,Zgs]
       refine Zj (by kernel_rfl) ?_ _;refine Qc ?_;clear s6 f0 f1 f2 f3 E8 y8 C7 E7 e0 u hxs a1 V a6 j4 c0 g8 g0 a2
       have A8:Hid (Fr W7 bn bA bk bc bm bB bj bd (Zai AQ (j+1) i i)):=Za (by
        rw[Zp6 hF.out.sym U (Qd _) a5 (J.out.ne U)];exact o6.out)
       have K0:Hid (OwnF 73 W7 W2.heap.size (.slice (some ⟨go,oo,none⟩) (j+1) cp) (Ziw AQ i (j+1))):=Za (C3.out);clear o6;go_wp2_with fail
       go_roundg (i-(j+1))
       case measure=>omega
       case rel=>exact⟨j+1,_,_,_,_,_,_,_,_,by omega,by go_num,K0.out,p7.out,A8,B7.out⟩
      | succ t3 =>
       obtain rfl:t3=k-(j+1):=by omega
       have h6:j<k:=by omega
       have t3:decide ((j:Int)<(k:Int))=true:=decide_eq_true (by omega);have bjk:(j:Int)<(k:Int):=by omega
       have bji:(j:Int)<(i:Int):=by omega
       have M9:(k:Int)<(i:Int):=by omega
       obtain⟨go,oo,on_,oA,ok,oc,om,oB,oj,od,rfl,⟨o0,o1,o2,o3⟩,hO⟩:=(d8.out.below q8.out).at_ h6;obtain⟨g1,H3,A',n',c',rfl,ck,m6⟩:=(n6.out.below g9.out).at_ U;rw[Zxi U]at m6;have G6:n'=k:=by rw[<- m6.len,Zjj]
       rw[G6]at m6 ck;clear G6 n';have K4:=m6.cap;unfold maxLen at K4;obtain⟨gq,oq,qn,qA,qk,qc,qm,qB,qj,qd,rfl,⟨q0,q1,q2,q3⟩,hQ⟩:=m6.at_ h6;obtain⟨gd,O,dn,dA,dk,dc,dm,dB,dj,dd,rfl,⟨d0,d1,d2,d3⟩,hD⟩:=(g5.out.below g9.out).at_ (show j<i by omega);rw[Zua h6]at hO hQ;rw[Zsl (show j<i by omega)]at hD;replace hO:=Za hO;replace hQ:=Za hQ;replace hD:=Za hD;clear m6;go_wp2_with fail;obtain⟨X0,a2⟩:∃ X,wj.drew=X:=⟨_,rfl⟩;have a1:Below wj.heap.size wj X0:=by rw[<- a2];exact Zf (Qb _ _) 1
       have u:Hid (∀ wx,Below wj.heap.size wj wx->wx.cell? ⟨gs,0,none⟩=some (.bool sn)/\wx.cell? ⟨gs,1,none⟩=some (.slice sA sk sc)/\wx.cell? ⟨gs,2,none⟩=some (.bool sm)/\wx.cell? ⟨gs,3,none⟩=some (.slice sB sj sd)/\wx.cell? ⟨go,oo+j*4,none⟩=some (.bool on_)/\wx.cell? ⟨go,oo+j*4+1,none⟩=some (.slice oA ok oc)/\wx.cell? ⟨go,oo+j*4+2,none⟩=some (.bool om)/\wx.cell? ⟨go,oo+j*4+3,none⟩=some (.slice oB oj od)/\wx.cell? ⟨gx,0,none⟩=some (.slice (some ⟨g1,H3,none⟩) i c1)/\wx.cell? ⟨g1,H3+k,none⟩=some (.slice (some ⟨gq,oq,none⟩) k c')/\wx.cell? ⟨gq,oq+j*4,none⟩=some (.bool qn)/\wx.cell? ⟨gq,oq+j*4+1,none⟩=some (.slice qA qk qc)/\wx.cell? ⟨gq,oq+j*4+2,none⟩=some (.bool qm)/\wx.cell? ⟨gq,oq+j*4+3,none⟩=some (.slice qB qj qd)/\wx.cell? ⟨gx,1,none⟩=some (.slice (some ⟨gd,O,none⟩) i c2)/\wx.cell? ⟨gd,O+j*4,none⟩=some (.bool dn)/\wx.cell? ⟨gd,O+j*4+1,none⟩=some (.slice dA dk dc)/\wx.cell? ⟨gd,O+j*4+2,none⟩=some (.bool dm)/\wx.cell? ⟨gd,O+j*4+3,none⟩=some (.slice dB dj dd)):=Za (λwx f=>⟨Zb f s0,Zb f s1,Zb f s2,Zb f s3,Zb f o0,Zb f o1,Zb f o2,Zb f o3,Zb f G1,Zb f ck,Zb f q0,Zb f q1,Zb f q2,Zb f q3,Zb f y7,Zb f d0,Zb f d1,Zb f d2,Zb f d3⟩);refine wp_heldS [21] hmx u (by rw[a2];exact a1) (λhxs=>?_);rw[a2];refine Zje 18 [0,1,2,3,4,5,6,7,8,9,10,11,12,13,14,15,16,17] rfl (by kernel_rfl) (u.out _ a1) ?_
       iterate 18 (refine tk1 (v:=?_) rfl (Qf ⟨by kernel_rfl,?_⟩) ?_;rotate_left;(· intro W2 hSw;(try dsimp only at hSw);go_simp;try with_reducible rfl);try simp only[Qa,Zgy,Zge,Zgs,putG_a,putG_s,putG_z])
       refine tk0 ?_;obtain⟨Y1,a0⟩:∃ Y,X0.alloc (.cells #[.bool qn,.slice qA qk qc,.bool qm,.slice qB qj qd,.bool dn,.slice dA dk dc,.bool dm,.slice dB dj dd] 73)=Y:=⟨_,rfl⟩;obtain⟨g4,a3⟩:∃ g,X0.heap.size=g:=⟨_,rfl⟩;have g0:Below X0.heap.size X0 Y1:=by rw[<- a0];exact(Qb _ _).alloc (Qd _) _
       have g8:Blk Y1 g4 73 #[.bool qn,.slice qA qk qc,.bool qm,.slice qB qj qd,.bool dn,.slice dA dk dc,.bool dm,.slice dB dj dd]:=by rw[<- a0,<- a3];exact Qh _ _ _
       have V:Below wj.heap.size wj Y1:=a1.trans (g0.mono a1.size);refine Ze (i:=18) rfl (by kernel_rfl) (λK hK=>?_);go_simp;(try rw[a0]);(try rw[a3]);refine hK.out _ _ (λ_=>u.out _ V) ?_;clear hK K a0 a3
       try simp only[Qa,Zgy,Zge,Zgs]
       refine Ze (i:=19) rfl (by kernel_rfl) (λK hK=>?_);go_simp;refine(Zjz on_ oA ok oc om oB oj od (lQ AQ i j) (some ⟨g4,0,none⟩) 2 2 [lQ AQ k j,dQ AQ j] Y1 (hO.out.below V) (FL.pair2 g8 (hQ.out.below V) (hD.out.below V)) (by omega) (Zn7 hF.out a5 U h6 J.out).1 (Zn7 hF.out a5 U h6 J.out).2).mono ?_;rintro e w5 ⟨b5,an,aA,ak,ac,am,aB,aj,ad,rfl,hT⟩;have a6:=V.trans (b5.mono V.size);refine hK.out _ _ (λ_=>u.out _ a6) ?_;clear hK K
       try simp only[Qa,Zgy,Zge,Zgs]
       refine Ze (i:=20) rfl (by kernel_rfl) (λK hK=>?_);go_simp;refine(Znv sn sm an am sA sB aA aB sk sc sj sd ak ac aj ad _ _ w5 (hs.out.below a6) hT (Zwn hF.out a5 U h6 J.out).1 (Zwn hF.out a5 U h6 J.out).2).mono ?_;rintro e w6 ⟨z6,bn,bA,bk,bc,bm,bB,bj,bd,rfl,hU⟩;have j4:=a6.trans (z6.mono a6.size);refine hK.out _ _ (λ_=>u.out _ j4) ?_;clear hK K
       try simp only[Qa,Zgy,Zge,Zgs]
       have c0:Below wj.heap.size wj w6:=j4;have e0:=Zd c0 D5;obtain⟨f0,f1,f2,f3,E8,y8,C7,E7⟩:=e0.four;obtain⟨W7,s6,p7,i0,s7⟩:=Zbs bn bA bk bc bm bB bj bd e0;have o6:=Za (hU.keptN i0 e0 (Zcf _ _ _ _ _ _ _ _));have B7:Hid (Kept (λg=>g=gs) W4 W7):=Za ((z3.below c0).trans i0);replace p7:=Za p7;clear i0 hU hT;refine Zm (i:=21) rfl (by kernel_rfl) (by kernel_rfl) (λK hK=>?_);go_simp;(try rw[s6]);refine hK.out _ _ ?_;clear hK K
       try simp only[Qa,Zgy,Zge,Zgs]
       refine Zj (by kernel_rfl) ?_ _;refine Qc ?_;clear s6 f0 f1 f2 f3 E8 y8 C7 E7 e0 u hxs a1 V a6 j4 c0 g8 g0 a2
       have A8:Hid (Fr W7 bn bA bk bc bm bB bj bd (Zai AQ (j+1) i k)):=Za (by
        rw[Zp6 hF.out.sym h6 (by omega) a5 (J.out.ne (by omega))];exact o6.out)
       clear o6;go_wp2_with fail
       go_roundg (k-(j+1))
       case measure=>omega
       case rel=>exact⟨j+1,_,_,_,_,_,_,_,_,by omega,by go_num,p7.out,A8,B7.out⟩
def LookPost(rs:List RX)(w:World)(e:Ending)(w':World):Prop:=
 Below w.heap.size w w'/\((Zco rs=0/\∃ v1 v2 L,e=.returned (.agg #[v1,v2])/\FacM 97 73 w' w.heap.size v1 v2 L (Zhb (Zl (qM rs)) rs.length) (dsL (Zl (qM rs)) rs.length)) \/
  (Zco rs≠0/\e=.panicked [{ v:=.iface 117 (.agg #[.int .i64 (Zco rs)]),recovered:=false }]))
theorem LookPost.fall{rs:List RX}{w w':World}{E:Int}(hb:Below w.heap.size w w')(h:Zco rs=E)(h0:E≠0):LookPost rs w (.panicked [{ v:=.iface 117 (.agg #[.int .i64 E]),recovered:=false }]) w':=by
 subst h;exact⟨hb,.inr ⟨h0,rfl⟩⟩
theorem Zv4(A:Option Addr)(n c:Nat)(rs:List RX)(w:World)(h:MXL w A n c rs)(hF:Zoq rs) :
    Calls Tryz.prog 64 #[.slice A n c] w (LookPost rs w):=by
 have hmx:Tryz.prog.follows .mixedOrders=true:=by kernel_rfl
 have hl:=Za h.1;have f3:=h.2.1;have d6:=h.2.2.1;unfold maxLen at d6;obtain⟨W0,a1,u,q0,s0⟩:=Zax w 99 #[.slice none 0 0,.slice none 0 0];obtain⟨gx,a4⟩:∃ g,w.heap.size=g:=⟨_,rfl⟩;by_cases h6:6<n
 ·have t1:decide ((n:Int)<=6)=false:=decide_eq_false (by omega)
  have hE:Hid (Zco rs=4):=Za (Zhx (by unfold long6;rw[hl.out,decide_eq_true h6];rfl));clear h;go_enter Tryz.func64,Tryz.ntmps64;go_wp2_with fail;(try rw[a1]);refine(Zbx 4 W0).mono ?_;rintro e w6 ⟨rfl,rfl⟩;go_wp2_with fail;exact⟨rfl,LookPost.fall u hE.out (by decide)⟩
 have t1:decide ((n:Int)<=6)=true:=decide_eq_true (by omega);obtain⟨x,hx⟩:∃ x,rs.any RX.long6=x:=⟨_,rfl⟩;have V:long6 rs=x:=by unfold long6;rw[hl.out,decide_eq_false h6,hx];rfl
 have hC:=Za (λW1 (hb:Below w.heap.size w W1)=>Ztk A n c rs W1 (h.below hb) x hx);replace hx:=Za hx;replace V:=Za V;cases x
 case true =>
  have hE:Hid (Zco rs=4):=Za (Zhx V.out);clear h;go_enter Tryz.func64,Tryz.ntmps64;go_wp2_with fail;(try rw[a1]);refine(hC.out _ u).mono ?_;rintro e w1 ⟨rfl,O⟩;go_wp2_with fail;refine(Zbx 4 w1).mono ?_;rintro e w6 ⟨rfl,rfl⟩;go_wp2_with fail;exact⟨rfl,LookPost.fall (u.trans (O.mono u.size)) hE.out (by decide)⟩
 by_cases a5:n=0
 ·subst a5
  have hE:Hid (Zco rs=8):=Za (Zp8 V.out hl.out);clear h;go_enter Tryz.func64,Tryz.ntmps64;go_wp2_with fail;(try rw[a1]);refine(hC.out _ u).mono ?_;rintro e w1 ⟨rfl,O⟩;go_wp2_with fail;refine(Zcq 4 w1).mono ?_;rintro e w1 ⟨rfl,rfl⟩;go_wp2_with fail;refine(Zbx 8 w1).mono ?_;rintro e w6 ⟨rfl,rfl⟩;go_wp2_with fail;exact⟨rfl,LookPost.fall (u.trans (O.mono u.size)) hE.out (by decide)⟩
 have t2:decide ((0:Int)<(n:Int))=true:=decide_eq_true (by omega);have f6:decide (0<n)=true:=decide_eq_true (by omega);have hH:=Za h;have c3:=Za q0;replace a5:=Za a5;clear h q0;go_enter Tryz.func64,Tryz.ntmps64;go_wp2_with fail;(try rw[a1]);refine(hC.out _ u).mono ?_;rintro e w1 ⟨rfl,O⟩;have c6:=u.trans (O.mono u.size);have d3:=Za (Zd O c3.out);clear c3 hC O u a1 s0;go_wp2_with fail;refine(Zcq 4 w1).mono ?_;rintro e w1 ⟨rfl,rfl⟩;go_wp2_with fail;refine(Zcq 8 w1).mono ?_;rintro e w1 ⟨rfl,rfl⟩;go_wp2_with fail
 go_loopg [27] n (λt iv wr=>∃ i:Nat,i+t=n/\iv=.int .i64 i/\Hid (∀ j r,j<i->rs[j]?=some r->Zda rs.length r=true)/\Below w1.heap.size w1 wr)
 case atStart=>exact⟨0,by omega,rfl,Za (λj r hj=>by omega),Qb _ _⟩
 case round =>
  obtain⟨wi,rfl⟩:∃ x:World,x=wr:=⟨_,rfl⟩;obtain⟨i,f0,rfl,b4,a7⟩:=hrel;have U:=c6.trans (a7.mono c6.size);cases gk with
  | succ t =>
   obtain rfl:t=n-(i+1):=by omega
   have e3:i<n:=by omega
   have t3:decide ((i:Int)<(n:Int))=true:=decide_eq_true (by omega);have bi:(i:Int)<(n:Int):=by omega
   obtain⟨g,o,r,rfl,he,c0,hL⟩:=(hH.out.below U).at_ e3;have d8:=hL.nlenC;unfold maxLen at d8;have bad:Hid (Zda rs.length r=false->Zco rs=8):=Za (λhf=>Zpu V.out (by rw[hl.out];exact a5.out) (List.mem_of_getElem? he) hf)
   have good:Hid (Zda rs.length r=true->∀ j r',j<i+1->rs[j]?=some r'->Zda rs.length r'=true):=Za (λhf j r' hj he'=>by
    rcases Qk j i with h'|h';exact b4.out j r' h' he'
    ·obtain rfl:j=i:=by omega
     rw[he]at he';cases he';exact hf)
   replace he:=Za he;by_cases hq:r.n=n
   case neg =>
    have t4:((r.n:Int) == (n:Int))=false:=beq_eq_false_iff_ne.2 (by omega);have d5:decide (r.n=n)=false:=by simpa using hq
    have hE:Hid (Zco rs=8):=Za (bad.out (by unfold Zda;rw[hl.out,decide_eq_false hq];rfl));replace hq:=Za hq;clear hL;go_wp2_with fail;refine(Zbx 8 wi).mono ?_;rintro e w6 ⟨rfl,rfl⟩;go_wp2_with fail;exact⟨rfl,LookPost.fall U hE.out (by decide)⟩
   have t4:((r.n:Int) == (n:Int))=true:=beq_iff_eq.2 (by omega);have d5:decide (r.n=n)=true:=by simpa using hq
   obtain⟨y,hy⟩:∃ y,Zep r.es=y:=⟨_,rfl⟩;have hV:=Za (λW1 (hb:Below wi.heap.size wi W1)=>Zp1 r.A r.n r.c r.es W1 (hL.below hb) y hy);have e0:=Za hq;replace hq:=Za hq;clear hL;cases y
   ·have hE:Hid (Zco rs=8):=Za (bad.out (by unfold Zda;rw[hy];simp))
    clear hy;go_wp2_with fail;refine(hV.out _ (by first|exact Qb _ _|exact Zf (Qb _ _) _)).mono ?_;rintro e' w2 ⟨rfl,b7⟩;go_wp2_with fail;refine(Zbx 8 w2).mono ?_;rintro e w6 ⟨rfl,rfl⟩;go_wp2_with fail;exact⟨rfl,LookPost.fall (U.trans (b7.mono U.size)) hE.out (by decide)⟩
   ·have b5:=Za (good.out (by unfold Zda;rw[hy,hl.out,e0.out,decide_eq_true rfl];rfl))
    clear hy;go_wp2_with fail;refine(hV.out _ (by first|exact Qb _ _|exact Zf (Qb _ _) _)).mono ?_;rintro e' w2 ⟨rfl,b7⟩;go_wp2_with fail;refine(Zcq 8 w2).mono ?_;rintro e w2 ⟨rfl,rfl⟩;go_wp2_with fail
    go_roundg (n-(i+1))
    case measure=>omega
    case rel=>exact⟨i+1,by omega,by go_num,b5,a7.trans (b7.mono a7.size)⟩
  | zero =>
   obtain rfl:i=n:=by omega
   have t3:decide ((i:Int)<(i:Int))=false:=by simp
   have hV:Hid (covV rs):=Za ⟨V.out,by rw[hl.out];exact a5.out,by
    rw[List.all_eq_true];intro r hr;obtain⟨j,hj,e⟩:=List.getElem_of_mem hr;exact b4.out j r (by rw[hl.out]at hj;exact hj) (by rw[List.getElem?_eq_getElem hj,e])⟩
   have d0:=Za (Zd a7 d3.out);have hM:=Za (hV.out.good (hH.out.below U));have c9:Hid (∀ a b,Sm (Zl (qM rs) a b)):=Za (λa b=>(hV.out.small64 hH.out).smC (by decide) a b);have a3:Hid (∀ a,a<i->((qM rs)[a]?.getD []).length=i):=Za (λa ha=>hV.out.row hH.out a ha);clear d3;go_wp2_with fail
   go_loopg [44] i (λt jv wr=>∃ j:Nat,j+t=i/\jv=.int .i64 j/\Hid (∀ a b,a<j->b<a->Zl (qM rs) a b=Zl (qM rs) b a)/\Below wi.heap.size wi wr)
   case atStart=>exact⟨0,by omega,rfl,Za (λa b ha=>by omega),Qb _ _⟩
   case round =>
    obtain⟨wj,rfl⟩:∃ x:World,x=wr:=⟨_,rfl⟩;obtain⟨j,f5,rfl,c5,C⟩:=hrel;have f:=U.trans (C.mono U.size);cases gk with
    | zero =>
     obtain rfl:j=i:=by omega
     have t4:decide ((j:Int)<(j:Int))=false:=by simp
     have hs:Hid (Zjg (qM rs)=true):=Za (by
      unfold Zjg;rw[decide_eq_true_eq];intro a ha b hb;rw[show (qM rs).length=j by unfold qM;rw[Qm,hl.out]]at ha;exact c5.out a b ha hb)
     have e2:Hid (FacP (Zl (qM rs)) j):=Za (by have:=hF hV.out hs.out;rw[hl.out]at this;exact this);go_wp2_with fail;refine(Zr7 A j c (qM rs) wj (hM.out.below C) (by omega) a3.out e2.out).mono ?_;rintro e w5 ⟨Y,⟨hp,v1,v2,L,rfl,a2⟩|⟨hn,rfl⟩⟩
     ·have I:=Zd (C.trans (Y.mono C.size)) d0.out
      rw[a4]at I;obtain⟨A1,c1,rfl,-⟩:=a2.1.mflA;obtain⟨A2,c2,rfl,-⟩:=a2.2.1.fl;rw[Zc5,Zes]at a2 ⊢;have y0:w5.cell? ⟨gx,0,none⟩=some (.slice none 0 0):=by rw[I.cell];rfl
      have y1:w5.cell? ⟨gx,1,none⟩=some (.slice none 0 0):=by rw[I.cell];rfl
      have z0:=I.frozen 0;have z1:=I.frozen 1;obtain⟨X,hX⟩:∃ X,(w5.setCell ⟨gx,0,none⟩ (.slice A1 j c1)).setCell ⟨gx,1,none⟩ (.slice A2 j c2)=X:=⟨_,rfl⟩;have b8:Kept (λk=>k=gx) w5 X:=by rw[<- hX];exact Kept.set_ (G:=λk=>k=gx) (Kept.set_ (G:=λk=>k=gx) (Qg _ _) (p:=⟨gx,0,none⟩) (.inl rfl) _) (p:=⟨gx,1,none⟩) (.inl rfl) _
      have b6:Blk X gx 99 #[.slice A1 j c1,.slice A2 j c2]:=by rw[<- hX];exact(I.set_ 0 (.slice A1 j c1)).set_ 1 (.slice A2 j c2)
      have x0:X.cell? ⟨gx,0,none⟩=some (.slice A1 j c1):=by rw[b6.cell];rfl
      have x1:X.cell? ⟨gx,1,none⟩=some (.slice A2 j c2):=by rw[b6.cell];rfl
      have e4:gx<wj.heap.size:=by have:=d0.out.lt;rw[a4]at this;have:=C.size;omega
      have e1:=Za (a2.box I (Zdq _ _ _ _ _ _) e4 b8);have e7:Hid (Zco rs=0):=Za (hV.out.pos hs.out (by rw[hl.out];exact hp));have a6:Hid (Below w.heap.size w w5):=Za (f.trans (Y.mono f.size));have d7:Hid (Below w.heap.size w X):=Za (a6.out.trans (b8.to_below (λk e=>by omega) (by have:=a6.out.size;exact this)));have e5:Hid (w.heap.size<=wj.heap.size):=Za f.size;clear a2 b8 b6 I hp;(try rw[a4]);go_wp2_with fail;(try rw[a4]);(try rw[hX]);refine bodyPost_ret (v:=.agg #[.slice A1 j c1,.slice A2 j c2]) (by simp[results,Tryz.results64,go_sem,x0,x1,a4]) rfl ?_;refine⟨d7.out,.inl ⟨e7.out,_,_,L,rfl,?_⟩⟩;rw[hl.out];exact e1.out.lower e5.out
     ·have hE:Hid (Zco rs=8):=Za (hV.out.neg hs.out (by rw[hl.out];exact hn))
      go_wp2_with fail;exact⟨rfl,LookPost.fall (f.trans (Y.mono f.size)) hE.out (by decide)⟩
    | succ t =>
     obtain rfl:t=i-(j+1):=by omega
     have a9:j<i:=by omega
     have t4:decide ((j:Int)<(i:Int))=true:=decide_eq_true (by omega);have bj:(j:Int)<(i:Int):=by omega
     obtain⟨g,o,A',n',c',rfl,c0,hR⟩:=(hM.out.below C).at_ a9;have e6:i=n':=by rw[<- hR.len];exact(a3.out j a9).symm
     subst e6;have b9:=hR.cap;unfold maxLen at b9;replace hR:=Za hR;go_wp2_with fail
     go_loopg [50] j (λt kv wr=>∃ k:Nat,k+t=j/\kv=.int .i64 k/\Hid (∀ b,b<k->Zl (qM rs) j b=Zl (qM rs) b j)/\Below wj.heap.size wj wr)
     case atStart=>exact⟨0,by omega,rfl,Za (λb hb=>by omega),Qb _ _⟩
     case round =>
      obtain⟨wk,rfl⟩:∃ x:World,x=wr:=⟨_,rfl⟩;obtain⟨k,e8,rfl,c8,a0⟩:=hrel;cases gk with
      | zero =>
       obtain rfl:k=j:=by omega
       have t5:decide ((k:Int)<(k:Int))=false:=by simp
       have d4:Hid (∀ a b,a<k+1->b<a->Zl (qM rs) a b=Zl (qM rs) b a):=Za (λa b ha hb=>by
        rcases Qk a k with h'|h';exact c5.out a b h' hb
        ·obtain rfl:a=k:=by omega
         exact c8.out b hb)
       go_wp2_with fail
       go_roundg (i-(k+1))
       case measure=>omega
       case rel=>exact⟨k+1,by omega,by go_num,d4,C.trans (a0.mono C.size)⟩
      | succ t' =>
       obtain rfl:t'=j-(k+1):=by omega
       have e9:k<j:=by omega
       have t5:decide ((k:Int)<(j:Int))=true:=decide_eq_true (by omega);have bk:(k:Int)<(j:Int):=by omega
       have bki:(k:Int)<(i:Int):=by omega
       have c7:=C.trans (a0.mono C.size);obtain⟨ga,oa,xn,xA,xk,xc,xm,xB,xj,xd,rfl,⟨r0,r1,r2,r3⟩,hX⟩:=(hR.out.below a0).at_ (show k<i by omega);obtain⟨A2,n2,c2,ck,b3⟩:=(hM.out.below c7).atS (show k<i by omega);have d9:i=n2:=by rw[<- b3.len];exact(a3.out k (by omega)).symm
       subst d9;have b2:=b3.cap;unfold maxLen at b2;obtain⟨gb,ob,yn,yA,yk,yc,ym,yB,yj,yd,rfl,⟨s0,s1,s2,s3⟩,hY⟩:=b3.at_ a9;have eX:((qM rs)[j]?.getD [])[k]?.getD 0=Zl (qM rs) j k:=rfl;have eY:((qM rs)[k]?.getD [])[j]?.getD 0=Zl (qM rs) k j:=rfl;rw[eX]at hX;rw[eY]at hY;replace hX:=Za hX;replace hY:=Za hY;clear eX eY b3;go_wp2_with fail;obtain⟨X0,b1⟩:∃ X,wk.drew=X:=⟨_,rfl⟩;have T:Below wk.heap.size wk X0:=by rw[<- b1];exact Zf (Qb _ _) 1
       have J:Hid (∀ wx,Below wk.heap.size wk wx->wx.cell? ⟨ga,oa+k*4,none⟩=some (.bool xn)/\wx.cell? ⟨ga,oa+k*4+1,none⟩=some (.slice xA xk xc)/\wx.cell? ⟨ga,oa+k*4+2,none⟩=some (.bool xm)/\wx.cell? ⟨ga,oa+k*4+3,none⟩=some (.slice xB xj xd)/\wx.cell? ⟨g,o+k,none⟩=some (.slice (some ⟨gb,ob,none⟩) i c2)/\wx.cell? ⟨gb,ob+j*4,none⟩=some (.bool yn)/\wx.cell? ⟨gb,ob+j*4+1,none⟩=some (.slice yA yk yc)/\wx.cell? ⟨gb,ob+j*4+2,none⟩=some (.bool ym)/\wx.cell? ⟨gb,ob+j*4+3,none⟩=some (.slice yB yj yd)):=Za (λwx hbx=>⟨Zb hbx r0,Zb hbx r1,Zb hbx r2,Zb hbx r3,Zb hbx ck,Zb hbx s0,Zb hbx s1,Zb hbx s2,Zb hbx s3⟩);refine wp_heldS [] hmx J (by rw[b1];exact T) (λhxs=>?_);rw[b1];refine Zje 11 [0,1,2,3,4,5,6,7,8,9,10] rfl (by kernel_rfl) (J.out _ T) ?_
       iterate 11 (refine tk1 (v:=?_) rfl (Qf ⟨by kernel_rfl,?_⟩) ?_;rotate_left;(· intro W2 hSw;(try dsimp only at hSw);go_simp;try with_reducible rfl);try simp only[Qa,Zgy,Zge,Zgs,putG_a,putG_s,putG_z])
       refine tk0 ?_;refine Ze (i:=11) rfl (by kernel_rfl) (λK hK=>?_);go_simp;refine(fCmp_ok xn xm yn ym xA xB yA yB xk xc xj xd yk yc yj yd _ _ X0 (hX.out.below T) (hY.out.below T) (c9.out _ _) (c9.out _ _)).mono ?_;rintro e w5 ⟨rfl,Y⟩;have a8:=T.trans (Y.mono T.size);refine hK.out _ _ (λ_=>J.out _ a8) ?_;clear hK K
       try simp only[Qa,Zgy,Zge,Zgs]
       refine Zgf 5 [12,13,14,15,16] rfl (by kernel_rfl) (J.out _ a8) ?_
       iterate 5 (refine tk1 (v:=?_) rfl (Qf ⟨by kernel_rfl,?_⟩) ?_;rotate_left;(· intro W2 _;go_simp;try with_reducible rfl);try simp only[Qa,Zgy,Zge,Zgs,putG_a,putG_s,putG_z])
       refine tk0 ?_;refine Zj (by kernel_rfl) ?_ _;refine Qc ?_;have a6:Hid (Below wj.heap.size wj w5):=Za (a0.trans (a8.mono a0.size));clear J hxs T a8 Y b1 r0 r1 r2 r3 s0 s1 s2 s3 ck hX hY;by_cases hq:Zl (qM rs) j k=Zl (qM rs) k j
       ·have hz:cmpQ (Zl (qM rs) j k) (Zl (qM rs) k j)=0:=cmpQ_zero.2 hq
        rw[hz]
        have c4:Hid (∀ b,b<k+1->Zl (qM rs) j b=Zl (qM rs) b j):=Za (λb hb=>by
         rcases Qk b k with h'|h';exact c8.out b h'
         ·obtain rfl:b=k:=by omega
          exact hq)
        replace hq:=Za hq;replace hz:=Za hz;go_wp2_with fail;refine(Zcq 8 w5).mono ?_;rintro e w5 ⟨rfl,rfl⟩;go_wp2_with fail
        go_roundg (j-(k+1))
        case measure=>omega
        case rel=>exact⟨k+1,by omega,by go_num,c4,a6.out⟩
       ·obtain⟨z,hz⟩:∃ z,cmpQ (Zl (qM rs) j k) (Zl (qM rs) k j)=z:=⟨_,rfl⟩
        have b0:z≠0:=λe=>hq (cmpQ_zero.1 (by rw[hz];exact e));rw[hz];have t6:(z == 0)=false:=by simpa using b0
        have f4:decide (z=0)=false:=by simpa using b0
        have hE:Hid (Zco rs=8):=Za (hV.out.asym (by
         cases hb:Zjg (qM rs)with
         | false=>rfl
         | true=>exact absurd (symB_iff.1 hb j k (by unfold qM;rw[Qm,hl.out];exact a9) (by unfold qM;rw[Qm,hl.out];omega)) hq))
        replace hq:=Za hq;replace hz:=Za hz;replace b0:=Za b0;go_wp2_with fail;refine(Zbx 8 w5).mono ?_;rintro e w6 ⟨rfl,rfl⟩;go_wp2_with fail;exact⟨rfl,LookPost.fall (f.trans (a6.out.mono f.size)) hE.out (by decide)⟩
theorem Zsv(A:Option Addr)(n c:Nat)(rs:List RX)(w:World)(h:MXL w A n c rs)(hF:Zoq rs)(E:Int)(hE:Zco rs=E) :
    Calls Tryz.prog 35 #[.slice A n c] w λe w'=>e=.returned (.int .i64 E)/\Below w.heap.size w w':=by
 obtain⟨W0,I,o,q0,s0⟩:=Zax w 26 #[.int .i64 0];have hC:=Za (Zv4 A n c rs W0 (h.below o) hF);replace q0:=Za q0;clear h
 go_enter_defers Tryz.func35,Tryz.ntmps35
 go_wp2_with fail;(try rw[I]);refine hC.out.mono ?_;rintro e w1 ⟨u,⟨h0,v1,v2,L,rfl,J⟩|⟨h0,rfl⟩⟩
 ·have y:=o.trans (u.mono o.size)
  have q1:=Zd u q0.out;have e0:=q1.cell 0;have z0:=q1.frozen 0;simp at e0;obtain⟨U,hU,C,q3,-⟩:=Zbr 0 y (Qd _) q1;have r4:=q3.cell 0;simp at r4;obtain rfl:E=0:=by rw[<- hE];exact h0
  clear J;go_wp2_with fail;(try rw[hU]);refine leaves_cons (f:=39) (args:=#[.pointer (some ⟨w.heap.size,0,none⟩)]) (by simp) (by simp[go_sem]) ?_;refine(Zkv _ _).mono ?_;rintro e u' w'' ⟨rfl,rfl,rfl⟩;exact⟨.int .i64 0,by simp[results,Tryz.results35,go_sem,r4],rfl,C⟩
 ·have y:=o.trans (u.mono o.size)
  have q2:=Zd u q0.out;rw[hE];go_wp2_with fail;refine leaves_cons (f:=39) (args:=#[.pointer (some ⟨w.heap.size,0,none⟩)]) (by simp) (by simp[go_sem]) ?_;have e0:=q2.cell 0;simp at e0;refine(Zeg ⟨w.heap.size,0,none⟩ E 0 _ e0 (q2.frozen 0)).mono ?_;rintro e u' w'' ⟨rfl,rfl,hw⟩;obtain⟨V,hV,O,-,-,hk,sV⟩:=Zt 117 #[.int .i64 E] y (y.size);obtain⟨U,hU,C,q3,-⟩:=Zbr E O (Qd _) (hk _ _ _ q2);rw[hV,hU]at hw;subst hw;have r4:=q3.cell 0;simp at r4;exact⟨.int .i64 E,by simp[results,Tryz.results35,go_sem,r4],rfl,C⟩
theorem Zvm(A:Option Addr)(n c:Nat)(rs:List RX)(w:World)(h:MXL w A n c rs)(hF:Zoq rs) :
    Calls Tryz.prog 46 #[.slice A n c] w λe w'=>Below w.heap.size w w'/\((Zco rs=0/\e=.returned (.slice A n c)) \/ (Zco rs≠0/\e=.panicked [{ v:=.iface 117 (.agg #[.int .i64 16]),recovered:=false }])):=by
 obtain⟨E,hE⟩:∃ E,Zco rs=E:=⟨_,rfl⟩;have hC:=Za (Zsv A n c rs w h hF E hE);clear h hF;replace hE:=Za hE;go_enter Tryz.func46,Tryz.ntmps46;go_wp2_with fail;refine hC.out.mono ?_;rintro e w1 ⟨rfl,f⟩;by_cases h0:E=0
 ·subst h0
  go_wp2_with fail;refine(Zcq 16 w1).mono ?_;rintro e w1 ⟨rfl,rfl⟩;go_wp2_with fail;go_returns;exact⟨f,.inl ⟨hE.out,rfl⟩⟩
 ·have t1:(E == 0)=false:=by simpa using h0
  have o:decide (E=0)=false:=by simpa using h0
  replace h0:=Za h0;go_wp2_with fail;refine(Zbx 16 w1).mono ?_;rintro e w6 ⟨rfl,rfl⟩;go_wp2_with fail;exact⟨rfl,f,.inr ⟨by rw[hE.out];exact h0.out,rfl⟩⟩
section
variable{A:Nat->Nat->Rat}{n c:Nat}
end
section
variable{A:Nat->Nat->Rat}{n:Nat}
end
section
variable{A:Nat->Nat->Rat}{n i k:Nat}{x:Nat->Rat}
end
theorem Zxu{a b:Rat}(h:Sm a):∀ j,j<1->Sm (Zih a [b] j):=λj hj=>by
 obtain rfl:j=0:=by omega
 exact h
theorem sm_sing{b:Rat}(h:Sm b):∀ j:Nat,j<1->Sm ([b][j]?.getD 0):=λj hj=>by
 obtain rfl:j=0:=by omega
 exact h
theorem prodF1(a b:Rat):Zih a [b] 1=a*b:=rfl
