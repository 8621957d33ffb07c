/- Solving a triangular system; the reference's solved. -/
import Derived.ScopeJumps
import Derived.WalkMore
import Derived.Test.YthappeninglakaaGreatZd12
set_option maxRecDepth 100000
set_option maxHeartbeats 16000000
set_option linter.unusedSimpArgs false
set_option linter.unusedVariables false
namespace Go.Proofs.YthappeninglakaaGreat
open Go.RowKit
open Nat renaming le_refl→Qa,le_trans→Qj,lt_of_lt_of_le→Qk,add_sub_cancel'→Qr,zero_le→Qz
open Act renaming put→Qb
open Below renaming refl→Qc
open List renaming getElem?_map→Qd,length_map→Qe,getElem?_set→Qf,getElem?_eq_getElem→Qg,mem_of_getElem?→Qh,length_append→Qo,getElem?_eq_none→Qp,replicate→Qq,length_set→Qs,ext_getElem?→Qt,nil_append→Qx,map_cons→QA,getElem?_range→QB,getElem_of_mem→QC,getElem?_drop→QD,map_nil→QE,append_assoc→QF,length_drop→QG,map_append→QI
open Ne renaming symm→Qi
open OnlyNormal renaming normal→Ql
open Kept renaming refl→Qm
open Or renaming inl→Qn
open Builtin renaming zeroCells→Qu,append_→Qy
open _root_.Array renaming toList_append→Qv
open Option renaming getD_some→Qw,map_some→QH
attribute [local go_sem] Zh
def partX(E X:Nat->Nat->Rat)(n m r kk:Nat)(Q:List (List Rat)):Prop:=∀ a b,a<n->b<m->Zl Q a b=if n<=b/\(r<=a \/ a+1=r/\b<kk)then X a b else E a b
theorem partX.start{E X:Nat->Nat->Rat}{n m:Nat}{Q:List (List Rat)}(h:∀ a b,Zl Q a b=E a b):partX E X n m n n Q:=λa b ha hb=>by
 rw[h,if_neg (by omega)]
theorem partX.down{E X:Nat->Nat->Rat}{n m r:Nat}{Q:List (List Rat)}(h:partX E X n m (r+1) m Q):partX E X n m r n Q:=λa b ha hb=>by
 rw[h a b ha hb];by_cases h1:n<=b/\(r+1<=a \/ a+1=r+1/\b<m);rw[if_pos h1,if_pos (by omega)];rw[if_neg h1,if_neg (by omega)]
theorem Zyl{Q:List (List Rat)}{i k:Nat}{row:List Rat}{x:Rat}(hi:i<Q.length)(hk:k<row.length)(hr:Q[i]?.getD []=row)(a b:Nat):Zl (Q.set i (row.set k x)) a b=if a=i/\b=k then x else Zl Q a b:=by
 unfold Zl;rw[Qf];by_cases ha:i=a
 ·subst ha
  rw[if_pos rfl,if_pos hi,Qw,Qf];by_cases hb:k=b;subst hb;rw[if_pos rfl,if_pos hk,if_pos ⟨rfl,rfl⟩];rfl;rw[if_neg hb,if_neg (by omega),hr]
 rw[if_neg ha,if_neg (by omega)]
theorem partX.step{E X:Nat->Nat->Rat}{n m r kk:Nat}{Q Q2:List (List Rat)}(h:partX E X n m (r+1) kk Q)(hn:n<=kk)(hs:∀ a b,Zl Q2 a b=if a=r/\b=kk then X r kk else Zl Q a b):partX E X n m (r+1) (kk+1) Q2:=λa b ha hb=>by
 rw[hs];by_cases h1:a=r/\b=kk;rw[if_pos h1,if_pos (by omega),h1.1,h1.2]
 ·rw[if_neg h1,h a b ha hb]
  by_cases h2:n<=b/\(r+1<=a \/ a+1=r+1/\b<kk);rw[if_pos h2,if_pos (by omega)];rw[if_neg h2,if_neg (by omega)]
theorem partX.done{E X:Nat->Nat->Rat}{n m:Nat}{Q:List (List Rat)}(h:partX E X n m 0 n Q)(hl:Q.length=n)(hrow:∀ i,i<n->(Q[i]?.getD []).length=m)(hm:n<=m):Q.map (List.drop n)=Zdz X n m:=by
 unfold Zdz;apply Qt;intro i;by_cases hi:i<n
 ·have hq:=Qg (l:=Q) (i:=i) (by omega)
  have hr:=hrow i hi;rw[Qd,Qd,hq,QB hi];rw[hq]at hr;simp only[QH,Qw]at hr ⊢;congr 1;apply Qt;intro c;rw[QD,Qd];by_cases hc:c<m-n
  ·have:=h i (n+c) hi (by omega)
   rw[if_pos (by omega)]at this;unfold Zl at this;rw[hq,Qw]at this;rw[QB hc,QH,<- this,Qg (by omega)];rfl
  rw[Qp (by omega),Qp (l:=List.range (m-n)) (by simp;omega)];rfl
 rw[Qd,Qd,Qp (l:=Q) (by omega),Qp (l:=List.range n) (by simp;omega)];rfl
theorem FL.drop{w:World}{A:Option Addr}{n c:Nat}{qs:List Rat}(h:FL w A n c qs){g o:Nat}(hA:A=some ⟨g,o,none⟩){k:Nat}(hk:k<=n):FL w (some ⟨g,o+k*4,none⟩) (n-k) (c-k) (qs.drop k):=by
 obtain⟨es,h1,h2,h3,h4,rfl,h5⟩:=h;refine⟨es.drop k,by rw[QG];omega,by omega,by omega,λe he=>h4 e (List.mem_of_mem_drop he),by rw[List.map_drop],λhn=>?_⟩;obtain⟨g',o',e1,hc⟩:=h5 (by omega);rw[hA]at e1;obtain⟨rfl,rfl⟩:g=g'/\o=o':=by cases e1;exact⟨rfl,rfl⟩
 refine⟨g,o+k*4,rfl,λj e he=>?_⟩;rw[QD]at he;have:=hc (k+j) e he;simp only[Nat.add_assoc]at this ⊢;rw[show (k+j)*4=k*4+j*4 by omega]at this;simp only[Nat.add_assoc]at this;exact this
theorem Kept.andU{G H:Nat->Prop}{w W V:World}(h1:Kept G w W)(h2:Kept H W V)(hG:∀ k,k<w.heap.size->H k->G k):Kept G w V:=
 ⟨h2.os.trans h1.os,h2.tape.trans h1.tape,h2.output.trans h1.output,Qj h1.size h2.size,λk hk hg=>(h2.block k (Qk hk h1.size) (λh=>hg (hG k hk h))).trans (h1.block k hk hg)⟩
theorem Zfq(a:Bool)(A:Option Addr)(n c:Nat)(b:Bool)(B:Option Addr)(m d:Nat):NoLimb #[.bool a,.slice A n c,.bool b,.slice B m d]:=λi x=>by
 match i with
 | 0=>simp
 | 1=>simp
 | 2=>simp
 | 3=>simp
 | i+4=>simp
theorem MatO.base{tS tF:TypeId}{w:World}{b b':Nat}{v:Value}{L:List RF}(h:MatO tS tF w b v L)(hb:b'<=b):MatO tS tF w b' v L:=by
 refine⟨?_,λr hr=>⟨(h.2.1 r hr).1,Qj hb (h.2.1 r hr).2⟩,h.2.2⟩;rcases h.1 with h1|⟨g,sp,h1,h2,h3,h4⟩;exact .inl h1;exact .inr ⟨g,sp,h1,Qj hb h2,h3,h4⟩
theorem Ztl(A:Option Addr)(n c m:Nat)(Q:List (List Rat))(w:World)(h:MFL w A n c Q)(hn0:0<n)(hn9:n<=900)(hnm:n<=m)(hm9:m<=900)(hm:∀ i,i<n->(Q[i]?.getD []).length=m)(hok:okR (pw 200) (pw 200) m n 0 0 Q)(u:(Z7 n 0 0 Q false).2.1<n) :
    Calls Tryz.prog 88 #[.slice A n c,.int .i64 n] w λe w'=>e=.returned (.tuple #[.slice none 0 0,.bool false])/\Below w.heap.size w w':=by
 have hmx:Tryz.prog.follows .mixedOrders=true:=by kernel_rfl
 have Y:(35:TypeId)≠41:=by decide
 have V:=Za h.1;go_enter Tryz.func88,Tryz.ntmps88;go_wp2_with fail;refine(Zlc A n c m Q w h (by omega) hm (by omega) (by omega)).mono ?_;rintro e w1 ⟨v,L,rfl,y,U,C⟩;have f:L.length=n:=by rw[<- V.out,<- C,Qe]
 obtain⟨go,cap,rfl,I,O,a3,hM,a1⟩:=U.mat Y (λe=>by rw[e]at f;simp at f;omega);rw[f]at I ⊢;replace f:=Za f;clear U h;unfold maxLen at O;go_wp2_with fail;refine(Zkp go n cap L m n w1 hM f.out hn0 (by omega) I (by unfold maxLen;exact O) hnm (by omega) (by rw[C];exact hok)).mono ?_;rw[C];rintro e w2 ⟨L2,rfl,a4,a5,a6,a2,J⟩
 have T:∀ k,(k=go \/ k ∈ L.map RF.g)->w.heap.size<=k:=λk hk=>by
  rcases hk with rfl|hk;exact a3
  ·obtain⟨r,hr,rfl⟩:=List.mem_map.1 hk
   exact a1 r hr
 have a0:Below w.heap.size w w2:=y.trans (J.to_below T y.size);obtain⟨rk,o⟩:∃ x,(Z7 n 0 0 Q false).2.1=x:=⟨_,rfl⟩;rw[o]at u ⊢;have t1:decide ((rk:Int)<(n:Int))=true:=decide_eq_true (by omega);have a7:decide (rk<n)=true:=decide_eq_true u;replace u:=Za u;replace o:=Za o;clear hM a2 J T y;go_wp2_with fail;go_returns;exact⟨rfl,a0⟩
theorem Zsj(A:Option Addr)(n c m:Nat)(Q:List (List Rat))(w:World)(h:MFL w A n c Q)(hn0:0<n)(hn9:n<=900)(hnm:n<m)(hm9:m<=900)(hm:∀ i,i<n->(Q[i]?.getD []).length=m)(hok:okR (pw 200) (pw 200) m n 0 0 Q)(hrk:(Z7 n 0 0 Q false).2.1=n)
    (X:Nat->Nat->Rat) (hX:Ze1 (Zl (Z7 n 0 0 Q false).1) X n m) :
    Calls Tryz.prog 88 #[.slice A n c,.int .i64 n] w λe w'=>∃ v L,e=.returned (.tuple #[v,.bool true])/\Below w.heap.size w w'/\MatO 35 41 w' w.heap.size v L/\L.map RF.q=Zdz X n m:=by
 obtain⟨iF,hi,x4,x2,r5⟩:=info_parts Zdg;obtain⟨iS,ki,t7,u7,r9⟩:=info_parts Zeu;have hmx:Tryz.prog.follows .mixedOrders=true:=by kernel_rfl
 have o0:(35:TypeId)≠41:=by decide
 have x3:=Za h.1;go_enter Tryz.func88,Tryz.ntmps88;go_wp2_with fail;refine(Zlc A n c m Q w h (by omega) hm (by omega) (by omega)).mono ?_;rintro e w1 ⟨v,L,rfl,i6,q8,i2⟩;have b2:L.length=n:=by rw[<- x3.out,<- i2,Qe]
 obtain⟨go,cap,rfl,m0,o1,o7,hM,b1⟩:=q8.mat o0 (λe=>by rw[e]at b2;simp at b2;omega);rw[b2]at m0 ⊢;replace b2:=Za b2;clear q8 h;unfold maxLen at o1;go_wp2_with fail;refine(Zkp go n cap L m n w1 hM b2.out hn0 (by omega) m0 (by unfold maxLen;exact o1) (by omega) (by omega) (by rw[i2];exact hok)).mono ?_;rw[i2];rintro e w2 ⟨L2,rfl,p5,l6,g5,c8,n4⟩
 have k9:∀ k,(k=go \/ k ∈ L.map RF.g)->w.heap.size<=k:=λk hk=>by
  rcases hk with rfl|hk;exact o7
  ·obtain⟨r,hr,rfl⟩:=List.mem_map.1 hk
   exact b1 r hr
 have e5:Below w.heap.size w w2:=i6.trans (n4.to_below k9 i6.size);rw[hrk];have hfin:BdR (pw 200) (pw 200) m (Z7 n 0 0 Q false).1:=Zkl n 0 0 Q false hok;have i8:Hid (partX (Zl (Z7 n 0 0 Q false).1) X n m n n (L2.map RF.q)):=Za (partX.start (λa b=>by rw[g5]));obtain⟨E,hE⟩:∃ E,Zl (Z7 n 0 0 Q false).1=E:=⟨_,rfl⟩;rw[hE]at hX i8
 have h7:Hid (∀ x ∈ L2,x.q.length=m):=Za (λx hx=>by
  obtain⟨i,hi,e⟩:=QC hx;have:=hfin.1 i (by rw[<- g5,Qe];exact hi);rw[<- g5,Qd,Qg hi,e]at this;exact this)
 have o4:Hid (∀ k,(k=go \/ k ∈ L2.map RF.g)->w.heap.size<=k):=Za (λk hk=>by
  rcases hk with rfl|hk;exact o7
  ·exact k9 k (.inr (l6 k hk)))
 have n8:Hid (∀ k,(k=go \/ k ∈ L2.map RF.g)->k<w2.heap.size):=Za (λk hk=>by
  obtain⟨t,cs,hb,-⟩:=c8.boxes k hk;exact hb.lt)
 have t1:decide ((n:Int)<(n:Int))=false:=by simp
 obtain⟨d1,d2,d3,d4,d5⟩:=hX;replace d1:=Za d1;replace d2:=Za d2;replace d3:=Za d3;replace d4:=Za d4;replace d5:=Za d5;have l8:=Za p5;replace e5:=Za e5;clear hM n4 k9 i6 l6 hfin hE g5 p5 b1 hrk hok;replace c8:=Za c8;go_wp2_with fail
 go_loopg [9] n (λk iv wr=>∃ L3:List RF,iv=.int .i64 ((k:Int)-1)/\k<=n/\MatB 35 41 wr go L3/\Hid (L3.length=n)/\Hid (L3.map RF.g=L2.map RF.g)/\Hid (∀ x ∈ L3,x.q.length=m)/\Hid (partX E X n m k n (L3.map RF.q))/\Kept (λk=>k=go \/ k ∈ L2.map RF.g) w2 wr)
 case atStart=>exact⟨L2,by go_num,Qa _,c8.out,l8,Za rfl,h7,i8,Qm _ _⟩
 case round =>
  clear c8 h7 i8;obtain⟨L3,rfl,A4,b4,d7,m4,f4,f5,c7⟩:=hrel;cases gk with
  | zero =>
   have t2:decide ((0:Int)<=((0:Nat):Int)-1)=false:=by decide
   have x7:decide ((0:Int) <= -1)=false:=by decide
   have j7:=Za (f5.out.done (by rw[Qe];exact d7.out) (λi hi=>by
    obtain⟨x,hx⟩:=Zal (L:=L3) (i:=i) (by rw[d7.out];exact hi);rw[Qd,hx];exact f4.out x (Qh hx)) (by omega))
   have i1:=Za (e5.out.trans (c7.to_below o4.out e5.out.size));replace b4:=Za b4;clear c7 f5;obtain⟨w3,s9⟩:∃ x:World,x=wr:=⟨_,rfl⟩;subst s9;go_wp2_with fail
   go_loopg [16,15] n (λk iv ov wr=>∃ (i:Nat) (L4:List RF),i+k=n/\iv=.int .i64 i/\MatO 35 41 wr w3.heap.size ov L4/\Hid (L4.map RF.q=(Zdz X n m).take i)/\Below w3.heap.size w3 wr)
   case atStart=>exact⟨0,[],by omega,rfl,MatO.nil _ _ _ _,Za (by simp),Qc _ _⟩
   case round =>
    obtain⟨i,L4,A8,rfl,hM,hQ,hB⟩:=hrel
    have b2:L4.length=i:=by
     have h1:(L4.map RF.q).length=((Zdz X n m).take i).length:=by rw[hQ.out]
     unfold Zdz at h1;rw[Qe,List.length_take,Qe,List.length_range]at h1;omega
    cases gk with
    | zero =>
     obtain rfl:i=n:=by omega
     have t3:decide ((i:Int)<(i:Int))=false:=by simp
     replace hM:=Za hM;go_wp2_with fail;go_returns;refine⟨_,L4,rfl,i1.out.trans (hB.mono i1.out.size),hM.out.base i1.out.size,?_⟩;rw[hQ.out];exact List.take_of_length_le (by unfold Zdz;simp)
    | succ j =>
     obtain rfl:j=n-(i+1):=by omega
     have O:i<n:=by omega
     have t3:decide ((i:Int)<(n:Int))=true:=decide_eq_true (by omega);have bi:(i:Int)<(n:Int):=by omega
     have bn:(n:Int)<=(m:Int):=by omega
     obtain⟨x,hx⟩:=Zal (L:=L3) (i:=i) (by rw[d7.out];exact O);have C:=f4.out x (Qh hx);have i5:=b4.out.below hB;have k8:Below wr.heap.size wr (wr.alloc (.cells #[] 41)):=(Qc wr.heap.size wr).alloc (Qa _) _;have k7:=i5.below k8;have k0:=(i5.cell hx).1;have k1:=(k7.cell hx).1;obtain⟨fx,g6,f7⟩:=k7.row hx;have e4:=(fx.fl g6 f7).drop rfl (k:=n) (by omega);rw[C]at k0 k1 g6 e4;rw[Nat.zero_add]at e4;unfold maxLen at f7;have bxc:(m:Int)<=(x.c:Int):=by omega
     have r6:Hid ((Zdz X n m)[i]?.getD []=x.q.drop n):=Za (by
      rw[<- j7.out,Qd,Qd,hx];rfl)
     have b8:Hid ((x.q.drop n).length=m-n):=Za (by rw[QG,C]);have g9:OwnF 41 (wr.alloc (.cells #[] 41)) wr.heap.size (.slice (some ⟨wr.heap.size,0,none⟩) 0 0) []:=⟨[],.inr ⟨wr.heap.size,0,rfl,Qa _,Qz _,Blk.new _ _ _⟩,λe he=>(by cases he),rfl⟩;obtain⟨fs,hR,m8,o9,l9⟩:=e4.reads;have l1:∀ s ∈ L4,s.g<wr.heap.size:=λs hs=>(hM.2.1 s hs).1.1.lt;replace l1:=Za l1;replace hM:=Za hM;clear e4 fx i5 k7
     go_wp2_with (first
      | (at_builtin;refine Zby _ rfl (.tmp 106) (.tmp 112) 35 rfl wr.heap.size 41 iF Tryz.underlying35 hi x4 x2 r5 _ [] rfl g9 _ _ _ _ fs rfl hR m8 o9 (by simp;omega) (by simp) ?_
         intro v2 w5 i7 d9 l5;have b7:Below wr.heap.size wr w5:=k8.grown d9 k8.size (λk hk=>by cases hk;exact Qa _);rw[Qx,l9]at i7;rcases i7.fown with ⟨-,j4⟩|⟨g2,c2,rfl,m7,h6,o5,i3⟩
         ·exfalso
          have h1:=b8.out;rw[j4]at h1;simp at h1;omega
         have o6:=hM.out.kept b7;rw[b8.out]at h6 ⊢;have e6:Below w5.heap.size w5 (w5.alloc (.cells #[.slice (some ⟨g2,0,none⟩) (m-n) c2] 35)):=(Qc _ _).alloc (Qa _) _;have f9:=o6.kept e6;have x1:=hB.trans ((b7.mono hB.size).trans (e6.mono (Qj hB.size b7.size)));have r8:=i3.below e6
         have w8:Hid (L4.map RF.q ++ [x.q.drop n]=(Zdz X n m).take (i+1)):=Za (by
          rw[hQ.out,List.take_add_one,<- r6.out,Qg (by unfold Zdz;simp;exact O)];rfl)
         have u4:=Zh0 w5 (some ⟨g2,0,none⟩) (m-n) c2 35;have h8:=f9.1;have v6:(L4.map RF.rs).length+1<=1000:=by rw[Qe];omega
         have p4:w3.heap.size<=(w5.alloc (.cells #[.slice (some ⟨g2,0,none⟩) (m-n) c2] 35)).heap.size:=Qj hB.size (Qj b7.size e6.size);replace f9:=Za f9;replace i3:=Za i3;clear l5 d9 g9 hR o9 l9 m8 o6 i7)
      | (at_builtin;refine Zcw _ rfl (.tmp 105) (.tmp 114) 25 rfl w3.heap.size 35 iS Tryz.underlying25 ki t7 u7 r9 _ _ rfl h8 _ _ 1 1 [⟨some ⟨g2,0,none⟩,m-n,c2⟩] rfl u4 rfl v6 p4 ?_;intro v5 w6 v4 d9 l5))
     have o2:∀ s ∈ L4,s.g≠g2:=λs hs=>by have:=l1.out s hs;omega
     have u:=f9.out.snoc o0 (r:=⟨g2,c2,x.q.drop n⟩) ⟨r8,by rw[b8.out];exact h6,o5⟩ (Qj hB.size m7) o2 (by simp only[RF.rs,b8.out];exact v4) d9 l5;have w0:=x1.grown d9 p4 (λk hk=>h8.row_ge k hk);replace u:=Za u
     go_roundg (n-(i+1))
     case measure=>omega
     case rel=>exact⟨i+1,_,by omega,by go_num,u.out,Za (by rw[QI];exact w8.out),w0⟩
  | succ i =>
   have e9:((i+1:Nat):Int)-1=(i:Int):=by omega
   rw[e9];have O:i<n:=by omega
   have t2:decide ((0:Int)<=(i:Int))=true:=decide_eq_true (by omega);have bi:(i:Int)<(n:Int):=by omega
   replace b4:=Za b4;replace c7:=Za c7;go_wp2_with fail
   go_loopg [10] (m-n) (λk kv wr=>∃ (t:Nat) (L4:List RF),t+k=m/\kv=.int .i64 t/\n<=t/\MatB 35 41 wr go L4/\Hid (L4.length=n)/\Hid (L4.map RF.g=L2.map RF.g)/\Hid (∀ x ∈ L4,x.q.length=m)/\Hid (partX E X n m (i+1) t (L4.map RF.q))/\Kept (λk=>k=go \/ k ∈ L2.map RF.g) w2 wr)
   case atStart=>exact⟨n,L3,by omega,rfl,Qa _,b4.out,d7,m4,f4,f5,c7.out⟩
   case round =>
    clear b4 d7 m4 f4 f5 c7;obtain⟨t,L4,A7,rfl,l7,hM,c9,l0,f6,c4,b3⟩:=hrel;obtain⟨x,hx⟩:=Zal (L:=L4) (i:=i) (by rw[c9.out];exact O);have C:=f6.out x (Qh hx);obtain⟨cx,zx⟩:=hM.cell hx;obtain⟨fx,g6,f7⟩:=hM.row hx;rw[C]at cx g6;unfold maxLen at f7;cases gk with
    | zero =>
     obtain rfl:t=m:=by omega
     have t3:decide ((t:Int)<(t:Int))=false:=by simp
     have t8:=Za c4.out.down;replace hM:=Za hM;replace b3:=Za b3;clear fx;go_wp2_with fail
     go_roundg i
     case measure=>omega
     case rel=>exact⟨L4,by go_num,by omega,hM.out,c9,l0,f6,t8,b3.out⟩
    | succ gk' =>
     obtain rfl:gk'=m-(t+1):=by omega
     have I:t<m:=by omega
     have t3:decide ((t:Int)<(m:Int))=true:=decide_eq_true (by omega);have bt:(t:Int)<(m:Int):=by omega
     have i0:Hid (∀ (a:Nat) (y:RF),L4[a]?=some y->y.g ∈ L2.map RF.g):=Za (λa y hy=>by rw[<- l0.out];exact List.mem_map.2 ⟨y,Qh hy,rfl⟩);have u5:Hid (x.g ∈ L2.map RF.g):=Za (i0.out i x hx);obtain⟨n1,A1,k1,c1,m1,B1,j1,l3,p0,p1,p2,p3,e2⟩:=fx.at_ (i:=t) (by rw[C];exact I);have i9:Hid (∀ b,b<m->x.q[b]?.getD 0=Zl (L4.map RF.q) i b):=Za (λb _=>by rw[Zdf,Zcl hx]);have q4:x.q[t]?.getD 0=E i t:=by rw[i9.out t I,c4.out i t O I,if_neg (by omega)]
     rw[q4]at e2;have e2:Fr wr n1 A1 k1 c1 m1 B1 j1 l3 (upS E X i t (i+1)):=by rw[Zmx _ _ _ _ _ (Qa _)];exact e2
     obtain⟨gs,b1⟩:∃ g,wr.heap.size=g:=⟨_,rfl⟩;obtain⟨V,hV,j9,qv,kW,kB,sV⟩:=Zt 41 #[.bool n1,.slice A1 k1 c1,.bool m1,.slice B1 j1 l3] (Qc wr.heap.size wr) (Qa _);rw[b1]at qv;have J:=Za (Fr.keep e2 kW);have t6:=Za (hM.below j9);have r4:=Za (b3.below j9)
     have h5:Hid (∀ k,(k=go \/ k ∈ L2.map RF.g)->k≠gs):=Za (λk hk e=>by
      have h1:=n8.out k hk;have h2:=b3.size;omega)
     have n9:Hid (w2.heap.size<=gs):=Za (by rw[<- b1];exact b3.size);have n5:Hid (∀ k,k=gs->∃ t cs,Blk V k t cs/\NoLimb cs):=Za (λk hk=>⟨_,_,hk▸qv,Zfq _ _ _ _ _ _ _ _⟩)
     have m9:Hid (∀ W,Kept (λk=>k=gs) V W->MatB 35 41 W go L4):=Za (λW hk=>t6.out.keptG hk (λe=>h5.out go (.inl rfl) e) (λr hr e=>by
      obtain⟨a,ha,t0⟩:=QC hr;exact h5.out r.g (.inr (i0.out a r (by rw[Qg ha,t0]))) e) n5.out)
     have t9:Hid (∀ W,Kept (λk=>k=gs) V W->Kept (λk=>k=go \/ k ∈ L2.map RF.g) w2 W):=Za (λW hk=>r4.out.andU hk (λk h1 h2=>absurd h1 (by have:=n9.out;omega)));replace qv:=Za qv;clear e2 kW kB fx hM b3 q4;go_wp2_with fail;(try rw[b1]);(try rw[hV]);replace b1:=Za b1;clear p0 p1 p2 p3 hV j9 sV cx zx
     go_loopg [12] (n-(i+1)) (λk jv wx=>∃ (j:Nat) (sn:Bool) (sA:Option Addr) (sk sc:Nat) (sm:Bool) (sB:Option Addr) (sj sd:Nat),j+k=n/\jv=.int .i64 j/\i+1<=j/\Blk wx gs 41 #[.bool sn,.slice sA sk sc,.bool sm,.slice sB sj sd]/\Fr wx sn sA sk sc sm sB sj sd (upS E X i t j)/\Kept (λk=>k=gs) V wx)
     case atStart=>exact⟨i+1,n1,A1,k1,c1,m1,B1,j1,l3,by omega,by go_num,Qa _,qv.out,J.out,Qm _ _⟩
     case round =>
      obtain⟨j,sn,sA,sk,sc,sm,sB,sj,sd,A9,rfl,z9,qs,b9,a9⟩:=hrel;clear qv J;have u:=m9.out _ a9;obtain⟨s0,s1,s2,s3,s4,s5,s6,s7⟩:=qs.four;obtain⟨cx,zx⟩:=u.cell hx;rw[C]at cx;obtain⟨fx,-,-⟩:=u.row hx;cases gk with
      | zero =>
       obtain rfl:j=n:=by omega
       have t4:decide ((j:Int)<(j:Int))=false:=by simp
       have bim:(i:Int)<(m:Int):=by omega
       obtain⟨n2,A2,k2,c2,m2,B2,j2,d8,q0,q1,q2,q3,J⟩:=fx.at_ (i:=i) (by rw[C];omega);have e3:x.q[i]?.getD 0=E i i:=by rw[i9.out i (by omega),c4.out i i O (by omega),if_neg (by omega)]
       rw[e3]at J;have e8:=(d5.out i t j).sm (by decide) (by decide);have g4:=(d3.out i i).sm (by decide) (by decide);have k4:=d1.out i O;obtain⟨y0,y1,y2,y3,y4,y5,y6,y7,-,-,-,-,-⟩:=fx.at_ (i:=t) (by rw[C];exact I);have v0:=fx.frozen (t*4);have v1:=fx.frozen (t*4+1);have v2:=fx.frozen (t*4+2);have v3:=fx.frozen (t*4+3);obtain⟨z0,z1,z2,z3,z4,z5,z6,z7,u0,u1,u2,u3,-⟩:=fx.at_ (i:=t) (by rw[C];exact I);clear y0 y1 y2 y3 y4 y5 y6 y7 e3;replace u:=Za u;replace a9:=Za a9;go_wp2_with fail;have b0:Hid (∀ wx,Below wr.heap.size wr wx->wx.cell? ⟨go,i,none⟩=some (.slice (some ⟨x.g,0,none⟩) m x.c)/\wx.cell? ⟨gs,0,none⟩=some (.bool sn)/\wx.cell? ⟨gs,1,none⟩=some (.slice sA sk sc)/\wx.cell? ⟨gs,2,none⟩=some (.bool sm)/\wx.cell? ⟨gs,3,none⟩=some (.slice sB sj sd)/\wx.cell? ⟨x.g,i*4,none⟩=some (.bool n2)/\wx.cell? ⟨x.g,i*4+1,none⟩=some (.slice A2 k2 c2)/\wx.cell? ⟨x.g,i*4+2,none⟩=some (.bool m2)/\wx.cell? ⟨x.g,i*4+3,none⟩=some (.slice B2 j2 d8)):=Za (λwx f=>⟨Zb f cx,Zb f s0,Zb f s1,Zb f s2,Zb f s3,Zb f q0,Zb f q1,Zb f q2,Zb f q3⟩);have b5:Below wr.heap.size wr wr.drew:=Zf (Qc _ _) 1;refine wp_heldS [18] hmx b0 b5 (λhxs9=>?_);refine Zje 13 [0,1,2,3,4,5,6,7,8,9,10,11,12] rfl (by kernel_rfl) (b0.out _ b5) ?_
       iterate 13 (refine tk1 (v:=?_) rfl (Qn ⟨by kernel_rfl,?_⟩) ?_;rotate_left;(· intro W2 hSw;(try dsimp only at hSw);go_simp;try with_reducible rfl);try simp only[Qb,Zgy,Zge,Zgs,putG_a,putG_s,putG_z])
       refine tk0 ?_;refine Ze (i:=13) rfl (by kernel_rfl) (λK hK=>?_);go_simp;refine(Zmh sn sm n2 m2 sA sB A2 B2 sk sc sj sd k2 c2 j2 d8 _ _ wr.drew (b9.below b5) (J.below b5) e8 g4 k4).mono ?_;rintro e w5 ⟨a8,n6,A6,k6,c6,m6,B6,j6,d6,rfl,b6⟩;have e1:=b5.trans (a8.mono b5.size);refine hK.out _ _ (λ_=>b0.out _ e1) ?_;clear hK K
       try simp only[Qb,Zgy,Zge,Zgs]
       refine Zgf 4 [14,15,16,17] rfl (by kernel_rfl) (b0.out _ e1) ?_
       iterate 4 (refine tk1 (v:=?_) rfl (Qn ⟨by kernel_rfl,?_⟩) ?_;rotate_left;(· intro W2 _;go_simp;try with_reducible rfl);try simp only[Qb,Zgy,Zge,Zgs,putG_a,putG_s,putG_z])
       refine tk0 ?_;have o:Below wr.heap.size wr w5:=Zr a8;have o8:=u.out.below o;obtain⟨Z9,f8⟩:∃ W,Zel w5 x.g t n6 A6 k6 c6 m6 B6 j6 d6=W:=⟨_,rfl⟩;have d0:=f8;unfold Zel at d0;have g8:upS E X i t j/E i i=X i t:=(d2.out i t O l7 I).symm
       have x5:Hid (Kept (λk=>k=go \/ k ∈ L2.map RF.g) w2 Z9):=Za (by
        have h1:=t9.out _ (a9.out.below o);rw[<- f8];exact Zh6 h1 (.inl (.inr u5.out)))
       have w4:Hid (MatB 35 41 Z9 go (L4.set i ⟨x.g,x.c,x.q.set t (X i t)⟩)):=Za (by
        rw[g8]at b6;have h1:=o8.set_ hx (k:=t) (by rw[C];exact I) b6;rw[<- f8];exact h1)
       have x6:Hid (partX E X j m (i+1) (t+1) ((L4.set i ⟨x.g,x.c,x.q.set t (X i t)⟩).map RF.q)):=Za (c4.out.step l7 (λa b=>by
        rw[List.map_set];exact Zyl (Q:=L4.map RF.q) (row:=x.q) (by rw[Qe,c9.out];exact O) (by rw[C];exact I) (by rw[Qd,hx];rfl) a b))
       have t5:Hid ((L4.set i ⟨x.g,x.c,x.q.set t (X i t)⟩).length=j):=Za (by rw[Qs];exact c9.out);have v7:Hid ((L4.set i ⟨x.g,x.c,x.q.set t (X i t)⟩).map RF.g=L2.map RF.g):=Za (by rw[Zcm (s:=⟨x.g,x.c,x.q.set t (X i t)⟩) hx rfl];exact l0.out)
       have p6:Hid (∀ y ∈ L4.set i ⟨x.g,x.c,x.q.set t (X i t)⟩,y.q.length=m):=Za (λy hy=>by
        rcases List.mem_or_eq_of_mem_set hy with h|h;exact f6.out y h
        ·rw[h];simp only[Qs];exact C)
       have f0:=Zk o u0 v0;have f1:=Zk o u1 v1;have f2:=Zk o u2 v2;have f3:=Zk o u3 v3;have g0:=Zb o u0;have g1:=Zb o u1;have g2:=Zb o u2;have g3:=Zb o u3;clear o8 f8;refine Zm (i:=18) rfl (by kernel_rfl) (by kernel_rfl) (λK hK=>?_);go_simp;(try rw[d0]);refine hK.out _ _ ?_;clear hK K
       try simp only[Qb,Zgy,Zge,Zgs]
       refine Zj (by kernel_rfl) ?_ _;refine Ql ?_;clear d0 f0 f1 f2 f3 g0 g1 g2 g3 a8 o b5 e1 b0 hxs9 u0 u1 u2 u3 q0 q1 q2 q3 s0 s1 s2 s3 s4 s5 s6 s7 v0 v1 v2 v3 b6 J b9 u a9 cx g8 qs;go_wp2_with fail
       go_roundg (m-(t+1))
       case measure=>omega
       case rel=>exact⟨t+1,_,by omega,by go_num,by omega,w4.out,t5,v7,p6,x6,x5.out⟩
      | succ gk' =>
       obtain rfl:gk'=n-(j+1):=by omega
       have p8:j<n:=by omega
       have t4:decide ((j:Int)<(n:Int))=true:=decide_eq_true (by omega);have bj:(j:Int)<(n:Int):=by omega
       have bjm:(j:Int)<(m:Int):=by omega
       obtain⟨n2,A2,k2,c2,m2,B2,j2,d8,q0,q1,q2,q3,J⟩:=fx.at_ (i:=j) (by rw[C];omega);have e3:x.q[j]?.getD 0=E i j:=by rw[i9.out j (by omega),c4.out i j O (by omega),if_neg (by omega)]
       rw[e3]at J;obtain⟨y,hy⟩:=Zal (L:=L4) (i:=j) (by rw[c9.out];exact p8);have i4:=f6.out y (Qh hy);obtain⟨cy,zy⟩:=u.cell hy;rw[i4]at cy;obtain⟨fy,x0,r7⟩:=u.row hy;rw[i4]at x0;unfold maxLen at r7;obtain⟨n3,A3,k3,c3,m3,B3,j3,n0,r0,r1,r2,r3,j5⟩:=fy.at_ (i:=t) (by rw[i4];exact I)
       have n7:y.q[t]?.getD 0=X j t:=by
        have h1:=c4.out j t p8 I;rw[if_pos (by omega),Zdf,Zcl hy]at h1;exact h1
       rw[n7]at j5;have e8:=(d3.out i j).sm (by decide) (by decide);have g4:=(d4.out j t).sm (by decide) (by decide);have v9:Hid (SmN 600 600 (E i j*X j t)):=Za ((d3.out i j).mulN (d4.out j t));replace u:=Za u;replace a9:=Za a9;replace qs:=Za qs;replace b9:=Za b9;clear fx fy e3 n7 s0 s1 s2 s3 s4 s5 s6 s7;go_wp2_with fail;have T:Hid (∀ wx,Below wr.heap.size wr wx->wx.cell? ⟨go,i,none⟩=some (.slice (some ⟨x.g,0,none⟩) m x.c)/\wx.cell? ⟨go,j,none⟩=some (.slice (some ⟨y.g,0,none⟩) m y.c)/\wx.cell? ⟨x.g,j*4,none⟩=some (.bool n2)/\wx.cell? ⟨x.g,j*4+1,none⟩=some (.slice A2 k2 c2)/\wx.cell? ⟨x.g,j*4+2,none⟩=some (.bool m2)/\wx.cell? ⟨x.g,j*4+3,none⟩=some (.slice B2 j2 d8)/\wx.cell? ⟨y.g,t*4,none⟩=some (.bool n3)/\wx.cell? ⟨y.g,t*4+1,none⟩=some (.slice A3 k3 c3)/\wx.cell? ⟨y.g,t*4+2,none⟩=some (.bool m3)/\wx.cell? ⟨y.g,t*4+3,none⟩=some (.slice B3 j3 n0)):=Za (λwx f=>⟨Zb f cx,Zb f cy,Zb f q0,Zb f q1,Zb f q2,Zb f q3,Zb f r0,Zb f r1,Zb f r2,Zb f r3⟩);have U:Below wr.heap.size wr wr.drew:=Zf (Qc _ _) 1;refine wp_heldS [] hmx T U (λhxs1=>?_);refine Zje 14 [0,1,2,3,4,5,6,7,8,9,10,11,12,13] rfl (by kernel_rfl) (T.out _ U) ?_
       iterate 14 (refine tk1 (v:=?_) rfl (Qn ⟨by kernel_rfl,?_⟩) ?_;rotate_left;(· intro W2 hSw;(try dsimp only at hSw);go_simp;try with_reducible rfl);try simp only[Qb,Zgy,Zge,Zgs,putG_a,putG_s,putG_z])
       refine tk0 ?_;refine Za1 [(14,73),(15,58),(16,74),(18,13)] (λi=>match i with|15=>[17]|_=>[]) [(14,73),(15,58),(17,75),(16,74),(18,13)] (Zu wr.heap.size (E i j*X j t) 14 15 16 17 18 17) 2 (by kernel_rfl) (λ_ _ _ _ _ hb h=>Zdl hb h) (λwx h=>T.out _ (U.trans (h.mono U.size))) ?hop1 ?hfin1
       case hop1 =>
        intro p hp;simp only[List.mem_cons,List.not_mem_nil,or_false]at hp;simp only[QA,QE,Zam,Qb,Zgy,Zge,Zgs];rcases hp with rfl|rfl|rfl|rfl
        ·intro ν wx hb hP
         have f:=U.trans (hb.mono U.size);refine Zn (i:=14) rfl (λK hK=>?_);go_simp;refine(Zjx n2 m2 n3 m3 A2 B2 A3 B3 k2 c2 j2 d8 k3 c3 j3 n0 _ _ wx (J.below f) (j5.below f) e8 g4).mono ?_;rintro e w5 ⟨a8,p7,A5,k5,c5,q7,B5,m5,d5,rfl,e0⟩;exact hK.out _ _ ⟨_,rfl,(by simp only[Zu];exact⟨_,_,_,_,_,_,_,_,rfl,e0⟩),a8,trivial⟩
        ·intro ν wx hb hP
         have h0:=hP (14,73) (by simp) (by kernel_rfl);simp only[Zu]at h0;obtain⟨p7,A5,k5,c5,q7,B5,m5,d5,hν,e0⟩:=h0;rw[hν];refine Zn (i:=15) rfl (λK hK=>?_);go_simp;refine hK.out _ _ ⟨_,rfl,(by simp only[Zu];exact⟨_,_,_,_,_,_,_,_,rfl,e0⟩),Qc _ _,?_⟩;exact⟨_,.int .i64 0,rfl,Qn ⟨by kernel_rfl,λW2 _=>by go_simp⟩,by simp[Zu],trivial⟩
        ·intro ν wx hb hP
         have h0:=hP (15,58) (by simp) (by kernel_rfl);simp only[Zu]at h0;obtain⟨p7,A5,k5,c5,q7,B5,m5,d5,hν,e0⟩:=h0;rw[hν];refine Zn (i:=16) rfl (λK hK=>?_);go_simp;exact hK.out _ _ ⟨_,rfl,(by simp only[Zu];exact⟨_,_,_,_,_,_,_,_,rfl,e0⟩),Qc _ _,trivial⟩
        ·intro ν wx hb hP
         refine Zn (i:=18) rfl (λK hK=>?_);go_simp;exact hK.out _ _ ⟨_,rfl,(by simp only[Zu];exact⟨_,rfl,hb.size,Blk.new _ _ _⟩),(Qc _ _).alloc (Qa _) _,trivial⟩
       case hfin1 =>
        intro ν wx hb hP;have h0:=hP (14,73) (by simp);have h1:=hP (15,58) (by simp);have h2:=hP (16,74) (by simp);have h3:=hP (17,75) (by simp);have h4:=hP (18,13) (by simp);simp only[Zu]at h0 h1 h2 h4;obtain⟨a0,a1,a2,a3,a4,a5,a6,a7,h0,-⟩:=h0;obtain⟨B7,x8,A0,y8,y9,B8,B4,x9,h1,-⟩:=h1;obtain⟨wwn,q5,wwk,wwc,wwm,o3,wwj,wwd,h2,wwf⟩:=h2;obtain⟨gww,h4,kv,qv⟩:=h4;simp only[QA,QE,Zam,Qb,Zgy,Zge,Zgs];rw[h0,h1,h2,(show ν 75=Value.int .i64 0 by simpa [Zu]using h3),h4];clear h0 h1 h2 h3 h4 hP ν;have f:=U.trans (hb.mono U.size);have Y:=qv.four;have u8:wr.heap.size<=gww:=kv;refine(Zaa wwn q5 wwk wwc wwm o3 wwj wwd f u8 qv).elim (λZww hq=>?_);have c0:=Y.1;have u9:=Y.2.1;have w7:=Y.2.2.1;have c3:=Y.2.2.2.1;have f0:=Y.2.2.2.2.1;have f1:=Y.2.2.2.2.2.1;have f2:=Y.2.2.2.2.2.2.1;have f3:=Y.2.2.2.2.2.2.2;have hZ:=hq.1;refine Ze (i:=19) rfl (by kernel_rfl) (λK hK=>?_);go_simp;(try rw[hZ]);refine hK.out _ _ (λ_=>T.out _ hq.2.1) ?_;clear hK K
        try simp only[Qb,Zgy,Zge,Zgs]
        refine Zgf 1 [20] rfl (by kernel_rfl) (T.out _ hq.2.1) ?_
        (refine tk1 (v:=?_) rfl (Qn ⟨by kernel_rfl,?_⟩) ?_;rotate_left;(· intro W2 _;go_simp;try with_reducible rfl);try simp only[Qb,Zgy,Zge,Zgs,putG_a,putG_s,putG_z])
        refine tk0 ?_;refine Zj (by kernel_rfl) ?_ _;refine Ql ?_;have l4:=hq.2.1;have wwb:=Za hq.2.2.1;replace wwf:=Za (Fr.keep wwf hq.2.2.2.1);clear hq hZ c0 u9 w7 c3 f0 f1 f2 f3 Y qv kv f hb U T hxs1;have g7:=l4;have l2:Kept (λk=>k=gs) V Zww:=a9.out.below g7;have e7:=Zd g7 qs.out;have h9:Fr Zww sn sA sk sc sm sB sj sd (upS E X i t j):=b9.out.below g7;have k4:=(d5.out i t j).sm (by decide) (by decide);have v8:=v9.out.sm (by decide) (by decide);obtain⟨s0,s1,s2,s3,-⟩:=e7.four;obtain⟨y0,y1,y2,y3,-⟩:=wwb.out.four;replace l2:=Za l2;replace e7:=Za e7;clear q0 q1 q2 q3 r0 r1 r2 r3 J j5 e8 g4 u a9 qs b9 cx cy zx zy g7;go_wp2_with fail;refine(Zj9 sn sm wwn wwm sA sB q5 o3 sk sc sj sd wwk wwc wwj wwd _ _ Zww h9 wwf.out k4 v8).mono ?_;rintro e w5 ⟨a8,n6,A6,k6,c6,m6,B6,j6,d6,rfl,b6⟩;rw[<- Zlh E X (i:=i) (k:=t) (t:=j) (by omega)]at b6;have j0:=Zd a8 e7.out;have q9:=l2.out.below a8;obtain⟨W6,j8,z8,q6,p9,-,s6⟩:=Zaa (B:=gs) n6 A6 k6 c6 m6 B6 j6 d6 (Qc gs w5) (Qa _) j0;have s8:=Za (Fr.keep b6 p9)
        have u6:Hid (Kept (λk=>k=gs) V W6):=Za (by
         rw[<- j8];exact((((q9.set_ (p:=⟨gs,0,none⟩) (.inl rfl) _).set_ (p:=⟨gs,1,none⟩) (.inl rfl) _).set_ (p:=⟨gs,2,none⟩) (.inl rfl) _).set_ (p:=⟨gs,3,none⟩) (.inl rfl) _))
        replace q6:=Za q6;clear s0 s1 s2 s3 y0 y1 y2 y3 h9 b6 a8 p9 q9;obtain⟨s0,s1,s2,s3,s4,s5,w9,s7⟩:=j0.four;go_wp2_with fail;(try rw[j8]);clear s0 s1 s2 s3 s4 s5 w9 s7 j8 j0
        go_roundg (n-(j+1))
        case measure=>omega
        case rel=>exact⟨j+1,n6,A6,k6,c6,m6,B6,j6,d6,by omega,by go_num,by omega,q6.out,s8.out,u6.out⟩
theorem Zfp{v:Value}(h:∀ x,v≠limb x):NoLimb #[v]:=λi x=>by
 match i with
 | 0=>simpa using h x
 | i+1=>simp
theorem Zyp(gg gr ga gn go n cap q r:Nat)(ng:Bool)(vby:Value)(L:List RZ)(w:World)(h1:Blk w gg 152 #[.slice (some ⟨go,0,none⟩) n cap,vby])(h2:Blk w gr 3 #[.int .i64 r])(h3:Blk w ga 3 #[.int .i64 q])(h4:Blk w gn 4 #[.bool ng])
    (hM:MatZ 150 39 w go L) (hn:L.length=n) (hq:q<n) (hr:r<n) (hqr:q≠r) (hd:gg≠go/\gr≠go/\ga≠go/\gn≠go) :
    Calls Tryz.prog 175 #[.pointer (some ⟨gg,0,none⟩),.pointer (some ⟨gr,0,none⟩),.pointer (some ⟨ga,0,none⟩),.pointer (some ⟨gn,0,none⟩)] w λe w'=>e=.returned (.tuple #[]) /\
     MatZ 150 39 w' go (Zy L q r)/\Blk w' gn 4 #[.bool (!ng)]/\Kept (λk=>k=go \/ k=gn) w w':=by
 have hmx:Tryz.prog.follows .mixedOrders=true:=by kernel_rfl
 obtain⟨x,hx⟩:=Zal (L:=L) (i:=q) (by omega);obtain⟨y,hy⟩:=Zal (L:=L) (i:=r) (by omega);obtain⟨cx,zx⟩:=hM.cell hx;obtain⟨cy,zy⟩:=hM.cell hy;have c1:w.cell? ⟨gg,0,none⟩=some (.slice (some ⟨go,0,none⟩) n cap):=by rw[h1.cell];rfl
 have c2:w.cell? ⟨gr,0,none⟩=some (.int .i64 r):=by rw[h2.cell];rfl
 have c3:w.cell? ⟨ga,0,none⟩=some (.int .i64 q):=by rw[h3.cell];rfl
 have bq:(q:Int)<(n:Int):=by omega
 have br:(r:Int)<(n:Int):=by omega
 obtain⟨zs,C⟩:=hM.1;have h:Blk (w.setCell ⟨go,q,none⟩ (.slice (some ⟨y.g,0,none⟩) y.q.length y.q.length)) go 150 _:=C.set_ q (.slice (some ⟨y.g,0,none⟩) y.q.length y.q.length);have g1:(w.setCell ⟨go,q,none⟩ (.slice (some ⟨y.g,0,none⟩) y.q.length y.q.length)).cell? ⟨gg,0,none⟩=some (.slice (some ⟨go,0,none⟩) n cap):=by rw[(h1.far hd.1 _).cell];rfl
 have g2:(w.setCell ⟨go,q,none⟩ (.slice (some ⟨y.g,0,none⟩) y.q.length y.q.length)).cell? ⟨gr,0,none⟩=some (.int .i64 r):=by rw[(h2.far hd.2.1 _).cell];rfl
 have g3:(w.setCell ⟨go,q,none⟩ (.slice (some ⟨y.g,0,none⟩) y.q.length y.q.length)).cell? ⟨ga,0,none⟩=some (.int .i64 q):=by rw[(h3.far hd.2.2.1 _).cell];rfl
 have g4:(w.setCell ⟨go,q,none⟩ (.slice (some ⟨y.g,0,none⟩) y.q.length y.q.length)).cell? ⟨go,r,none⟩=some (.slice (some ⟨y.g,0,none⟩) y.q.length y.q.length):=by
  rw[h.cell,Array.getElem?_setIfInBounds,if_neg hqr,<- C.cell];exact cy
 have z4:=h.frozen r;obtain⟨V,hV⟩:∃ V,((w.setCell ⟨go,q,none⟩ (.slice (some ⟨y.g,0,none⟩) y.q.length y.q.length)).setCell ⟨go,r,none⟩ (.slice (some ⟨x.g,0,none⟩) x.q.length x.q.length)).drew=V:=⟨_,rfl⟩;have J:Hid (MatZ 150 39 V go (Zy L q r)):=Za (by rw[<- hV];exact(hM.swap hx hy).below (Zf (Qc _ _) 1));have f:Blk V gn 4 #[.bool ng]:=by rw[<- hV];exact(h4.far hd.2.2.2 _).far hd.2.2.2 _
 have O:Hid (Kept (λk=>k=go \/ k=gn) w V):=Za (by
  rw[<- hV];exact(((Qm _ w).set_ (p:=⟨go,q,none⟩) (.inl (.inl rfl)) _).set_ (p:=⟨go,r,none⟩) (.inl (.inl rfl)) _).drewN 1)
 have c5:V.cell? ⟨gn,0,none⟩=some (.bool ng):=by rw[f.cell];rfl
 have z5:=f.frozen 0;replace f:=Za f;replace C:=Za C;replace h:=Za h;clear hM h1 h2 h3 h4;go_enter Tryz.func175,Tryz.ntmps175;go_wp2_with fail;have o:w.drew.cell? ⟨gg,0,none⟩=some (.slice (some ⟨go,0,none⟩) n cap)/\w.drew.cell? ⟨gr,0,none⟩=some (.int .i64 r)/\w.drew.cell? ⟨ga,0,none⟩=some (.int .i64 q)/\w.drew.cell? ⟨go,r,none⟩=some (.slice (some ⟨y.g,0,none⟩) y.q.length y.q.length):=⟨c1,c2,c3,cy⟩;have I:(w.setCell ⟨go,q,none⟩ (.slice (some ⟨y.g,0,none⟩) y.q.length y.q.length)).drew.cell? ⟨gg,0,none⟩=some (.slice (some ⟨go,0,none⟩) n cap)/\(w.setCell ⟨go,q,none⟩ (.slice (some ⟨y.g,0,none⟩) y.q.length y.q.length)).drew.cell? ⟨gr,0,none⟩=some (.int .i64 r)/\(w.setCell ⟨go,q,none⟩ (.slice (some ⟨y.g,0,none⟩) y.q.length y.q.length)).drew.cell? ⟨ga,0,none⟩=some (.int .i64 q)/\(w.setCell ⟨go,q,none⟩ (.slice (some ⟨y.g,0,none⟩) y.q.length y.q.length)).drew.cell? ⟨go,r,none⟩=some (.slice (some ⟨y.g,0,none⟩) y.q.length y.q.length):=⟨g1,g2,g3,g4⟩;refine Z0 [19] (λwx=>wx.cell? ⟨gg,0,none⟩=some (.slice (some ⟨go,0,none⟩) n cap)/\wx.cell? ⟨gr,0,none⟩=some (.int .i64 r)/\wx.cell? ⟨ga,0,none⟩=some (.int .i64 q)/\wx.cell? ⟨go,r,none⟩=some (.slice (some ⟨y.g,0,none⟩) y.q.length y.q.length)) hmx o (λhxs=>?_);refine Zje 15 [0,1,2,3,4,5,6,7,8,9,10,11,12,13,14] rfl (by kernel_rfl) o ?_
 iterate 15 (refine tk1 (v:=?_) rfl (Qn ⟨by kernel_rfl,?_⟩) ?_;rotate_left;(· intro W2 hSw;(try dsimp only at hSw);go_simp;try with_reducible rfl);try simp only[Qb,Zgy,Zge,Zgs,putG_a,putG_s,putG_z])
 refine tk0 ?_;have a0:w.drew.cell? ⟨go,q,none⟩=some (.slice (some ⟨x.g,0,none⟩) x.q.length x.q.length):=cx;have a1:w.drew.frozen? ⟨go,q,none⟩=false:=zx;refine Ze (i:=15) rfl (by kernel_rfl) (λK hK=>?_);go_simp;refine hK.out _ _ (λ_=>o) ?_;clear hK K
 try simp only[Qb,Zgy,Zge,Zgs]
 refine Zgf 1 [16] rfl (by kernel_rfl) o ?_
 (refine tk1 (v:=?_) rfl (Qn ⟨by kernel_rfl,?_⟩) ?_;rotate_left;(· intro W2 _;go_simp;try with_reducible rfl);try simp only[Qb,Zgy,Zge,Zgs,putG_a,putG_s,putG_z])
 refine tk0 ?_;refine Ze (i:=17) rfl (by kernel_rfl) (λK hK=>?_);go_simp;refine hK.out _ _ (λ_=>I) ?_;clear hK K
 try simp only[Qb,Zgy,Zge,Zgs]
 refine Zgf 1 [18] rfl (by kernel_rfl) I ?_
 (refine tk1 (v:=?_) rfl (Qn ⟨by kernel_rfl,?_⟩) ?_;rotate_left;(· intro W2 _;go_simp;try with_reducible rfl);try simp only[Qb,Zgy,Zge,Zgs,putG_a,putG_s,putG_z])
 refine tk0 ?_;refine Zm (i:=19) rfl (by kernel_rfl) (by kernel_rfl) (λK hK=>?_);go_simp;(try rw[hV]);refine hK.out _ _ ?_;clear hK K
 try simp only[Qb,Zgy,Zge,Zgs]
 refine Zj (by kernel_rfl) ?_ _;refine Ql ?_;clear hV o I hxs a0 a1 g1 g2 g3 g4 z4 c1 c2 c3 cx cy zx zy;obtain⟨V2,u⟩:∃ V2,V.setCell ⟨gn,0,none⟩ (.bool (!ng))=V2:=⟨_,rfl⟩;have a2:Hid (Blk V2 gn 4 #[.bool (!ng)]):=Za (by rw[<- u];exact f.out.set_ 0 (.bool (!ng)))
 have U:Hid (MatZ 150 39 V2 go (Zy L q r)):=Za (by
  rw[<- u];have T:Kept (λk=>k=gn) V (V.setCell ⟨gn,0,none⟩ (.bool (!ng))):=(Qm (λk=>k=gn) V).set_ (p:=⟨gn,0,none⟩) (.inl rfl) _;refine J.out.keptG T (λe=>hd.2.2.2 e.symm) (λs hs e=>?_) (λk hk=>⟨_,_,(hk▸f.out:Blk V k 4 #[.bool ng]),Zfp (λx=>by simp)⟩);obtain⟨es,q1,-,-⟩:=(J.out.2.1 s hs).1;rw[e]at q1;have:=q1.type f.out
  revert this;decide)
 have Y:Hid (Kept (λk=>k=go \/ k=gn) w V2):=Za (by rw[<- u];exact O.out.set_ (p:=⟨gn,0,none⟩) (.inl (.inr rfl)) _);go_wp2_with fail;(try rw[u]);go_returns;exact⟨rfl,U.out,a2.out,Y.out⟩
theorem Zmv{f c r:Nat}{Z:List (List Int)}{ng:Bool}{last:Int}(h:r=Z.length):Zan f c r Z ng last=(Z,r,ng,last):=by
 cases f with
 | zero=>rfl
 | succ f=>unfold Zan;rw[if_pos h]
theorem Zlu{f c r q:Nat}{Z:List (List Int)}{ng:Bool}{last:Int}(h:r≠Z.length)(hq:Za0 (λi=>Zae Z i c == 0) Z.length Z.length r=q)(hn:q=Z.length):Zan (f+1) c r Z ng last=Zan f (c+1) r Z ng last:=by
 show (if r=Z.length then _ else _)=_;rw[if_neg h,hq,if_pos hn]
theorem Zl9{f c r q:Nat}{Z:List (List Int)}{ng:Bool}{last:Int}(h:r≠Z.length)(hq:Za0 (λi=>Zae Z i c == 0) Z.length Z.length r=q)(hn:q≠Z.length):Zan (f+1) c r Z ng last=Zan f (c+1) (r+1) (Zdk (Zy Z q r) r c last) (ng != decide (q≠r)) (Zae Z q c):=by
 show (if r=Z.length then _ else _)=_;rw[if_neg h,hq,if_neg hn]
theorem Zwt{C m f c r:Nat}{Z:List (List Int)}{last:Int}(h:okZ C m f c r Z last):BdZ C m Z/\last≠0/\last.natAbs<C:=by
 cases f with
 | zero=>exact h
 | succ f=>exact⟨h.1,h.2.1⟩
theorem Zq7{C m f c r q:Nat}{Z:List (List Int)}{last:Int}(h:okZ C m (f+1) c r Z last)(h0:r≠Z.length)(hq:Za0 (λi=>Zae Z i c == 0) Z.length Z.length r=q)(hn:q=Z.length):okZ C m f (c+1) r Z last:=by
 rcases h.2.2 with h1|h1;exact absurd h1 h0;exact h1.1 (by rw[hq];exact hn)
theorem Zq4{C m f c r q:Nat}{Z:List (List Int)}{last:Int}(h:okZ C m (f+1) c r Z last)(h0:r≠Z.length)(hq:Za0 (λi=>Zae Z i c == 0) Z.length Z.length r=q)(hn:q≠Z.length):okZ C m f (c+1) (r+1) (Zdk (Zy Z q r) r c last) (Zae Z q c):=by
 rcases h.2.2 with h1|h1;exact absurd h1 h0
 ·have:=h1.2 (by rw[hq];exact hn)
  rw[hq]at this;exact this
def ClzTo(L L2:List RZ)(r col:Nat)(last:Int)(i:Nat):Prop:=∀ j,j<L.length->Zat L2 j=if j<=r \/ i<=j then Zat L j else Zp3 (Zat L r) (Zat L j) col ((Zat L r)[col]?.getD 0) last
theorem ClzTo.step{L L2:List RZ}{r col i:Nat}{last:Int}{x:RZ}(h:ClzTo L L2 r col last i)(hl:L2.length=L.length)(hi:i<L.length)(hri:r<i)(hx:x.q=Zp3 (Zat L r) (Zat L i) col ((Zat L r)[col]?.getD 0) last):ClzTo L (L2.set i x) r col last (i+1):=by
 intro j hj;rw[Zut (by omega),h j hj];by_cases hji:j=i;subst hji;rw[if_pos rfl,hx,if_neg (by omega)]
 ·rw[if_neg hji]
  by_cases h1:j<=r \/ i<=j;rw[if_pos h1,if_pos (by omega)];rw[if_neg h1,if_neg (by omega)]
theorem ClzTo.pass{L L2:List RZ}{r col i:Nat}{last:Int}(h:ClzTo L L2 r col last i)(hri:i<=r):ClzTo L L2 r col last (i+1):=by
 intro j hj;rw[h j hj];by_cases h1:j<=r \/ i<=j;rw[if_pos h1,if_pos (by omega)];rw[if_neg h1,if_neg (by omega)]
theorem ClzTo.done{L L2:List RZ}{r col:Nat}{last:Int}(h:ClzTo L L2 r col last L.length)(hl:L2.length=L.length):L2.map RZ.q=Zdk (L.map RZ.q) r col last:=by
 refine Zxp (by rw[Zil];simpa using hl) (λi hi=>?_);rw[Zil,Qe]at hi;rw[h i hi,Zrw (by simpa using hi),<- Zj2,<- Zj2,Zjt];by_cases h1:i<=r;rw[if_pos (Qn h1),if_pos h1];rw[if_neg (by omega),if_neg h1]
theorem Exit.jump_mono{l:Nat}{J J':Act->World->Prop}{Q:Exit->Act->World->Prop}(h:∀ a w,J a w->J' a w):∀ e a w,Exit.jump l J Q e a w->Exit.jump l J' Q e a w:=λe a w he=>by
 cases e <;> first|exact he|exact⟨he.1,h _ _ he.2⟩
theorem Zm2{P:Program}{a:Act}{w:World}{Q:Exit->Act->World->Prop}{c rest:Code}(l:Nat)(J:Act->World->Prop)(μ:Act->World->Nat)(hf:findLabel c l=some (Code.skip.seq rest))
    (pass:∀ a w,J a w->rest.wp P (Exit.jump l (λa' w'=>J a' w'/\μ a' w'<μ a w) Q) a w)
    (first:(∀ a w,J a w->rest.wp P (Exit.jump l J Q) a w)->c.wp P (Exit.jump l J Q) a w):(Code.scope c).wp P Q a w:=
 wp_scope_jumps l J μ hf (first λa w h=>wp_mono (pass a w h) (Exit.jump_mono λ_ _ h=>h.1)) (λa w h=>wp_seq (wp_skip (pass a w h)))
theorem Zr4(k r:Nat):swI k r r=k:=by unfold swI;split;assumption;rw[if_pos rfl]
theorem Zro{α:Type}(l:List α)(i:Nat):Zy l i i=l:=by
 apply Qt;intro j;unfold Zy;cases h:l[i]? with
 | none=>rfl
 | some x =>
  have hi:=(List.getElem?_eq_some_iff.1 h).1;simp only;rw[Qf,Qf,Qs];by_cases hij:i=j;subst hij;rw[if_pos rfl,if_pos hi,h];rw[if_neg hij,if_neg hij]
theorem Kept.and{G H:Nat->Prop}{w W V:World}(h1:Kept G w W)(h2:Kept H W V)(hG:∀ k,k<w.heap.size->H k->G k):Kept G w V:=
 ⟨h2.os.trans h1.os,h2.tape.trans h1.tape,h2.output.trans h1.output,Qj h1.size h2.size,λk hk hg=>(h2.block k (Qk hk h1.size) (λh=>hg (hG k hk h))).trans (h1.block k hk hg)⟩
theorem Ziv{a b:Int}{i j:Nat}(h:a.natAbs<pw i)(g:b.natAbs<pw j):(a*b).natAbs<pw (i+j):=by rw[Int.natAbs_mul];exact Zev h g
theorem Zr0{a b:Int}{i:Nat}(h:a.natAbs<pw i)(g:b.natAbs<pw i):(a-b).natAbs<pw (i+1):=by
 have:=Zsd i;omega
theorem Kept.shrink{G G':Nat->Prop}{w W V:World}(h1:Below w.heap.size w W)(h2:Kept G W V)(hG:∀ k,k<w.heap.size->G k->G' k):Kept G' w V:=
 ⟨h2.os.trans h1.os,h2.tape.trans h1.tape,h2.output.trans h1.output,Qj h1.size h2.size,λk hk hg=>(h2.block k (Qk hk h1.size) (λh=>hg (hG k hk h))).trans (h1.block k hk)⟩
theorem Zvl(T:Array Value):∀ i,i<118->∀ h:i<(#[T.getD 0 undef,T.getD 1 undef,T.getD 2 undef,T.getD 3 undef,T.getD 4 undef,T.getD 5 undef,T.getD 6 undef,T.getD 7 undef,T.getD 8 undef,T.getD 9 undef,T.getD 10 undef,T.getD 11 undef,T.getD 12 undef,T.getD 13 undef,T.getD 14 undef,T.getD 15 undef,T.getD 16 undef,T.getD 17 undef,T.getD 18 undef,T.getD 19 undef,T.getD 20 undef,T.getD 21 undef,T.getD 22 undef,T.getD 23 undef,T.getD 24 undef,T.getD 25 undef,T.getD 26 undef,T.getD 27 undef,T.getD 28 undef,T.getD 29 undef,T.getD 30 undef,T.getD 31 undef,T.getD 32 undef,T.getD 33 undef,T.getD 34 undef,T.getD 35 undef,T.getD 36 undef,T.getD 37 undef,T.getD 38 undef,T.getD 39 undef,T.getD 40 undef,T.getD 41 undef,T.getD 42 undef,T.getD 43 undef,T.getD 44 undef,T.getD 45 undef,T.getD 46 undef,T.getD 47 undef,T.getD 48 undef,T.getD 49 undef,T.getD 50 undef,T.getD 51 undef,T.getD 52 undef,T.getD 53 undef,T.getD 54 undef,T.getD 55 undef,T.getD 56 undef,T.getD 57 undef,T.getD 58 undef,T.getD 59 undef,T.getD 60 undef,T.getD 61 undef,T.getD 62 undef,T.getD 63 undef,T.getD 64 undef,T.getD 65 undef,T.getD 66 undef,T.getD 67 undef,T.getD 68 undef,T.getD 69 undef,T.getD 70 undef,T.getD 71 undef,T.getD 72 undef,T.getD 73 undef,T.getD 74 undef,T.getD 75 undef,T.getD 76 undef,T.getD 77 undef,T.getD 78 undef,T.getD 79 undef,T.getD 80 undef,T.getD 81 undef,T.getD 82 undef,T.getD 83 undef,T.getD 84 undef,T.getD 85 undef,T.getD 86 undef,T.getD 87 undef,T.getD 88 undef,T.getD 89 undef,T.getD 90 undef,T.getD 91 undef,T.getD 92 undef,T.getD 93 undef,T.getD 94 undef,T.getD 95 undef,T.getD 96 undef,T.getD 97 undef,T.getD 98 undef,T.getD 99 undef,T.getD 100 undef,T.getD 101 undef,T.getD 102 undef,T.getD 103 undef,T.getD 104 undef,T.getD 105 undef,T.getD 106 undef,T.getD 107 undef,T.getD 108 undef,T.getD 109 undef,T.getD 110 undef,T.getD 111 undef,T.getD 112 undef,T.getD 113 undef,T.getD 114 undef,T.getD 115 undef,T.getD 116 undef,T.getD 117 undef]:Array Value).size,T.getD i undef=(#[T.getD 0 undef,T.getD 1 undef,T.getD 2 undef,T.getD 3 undef,T.getD 4 undef,T.getD 5 undef,T.getD 6 undef,T.getD 7 undef,T.getD 8 undef,T.getD 9 undef,T.getD 10 undef,T.getD 11 undef,T.getD 12 undef,T.getD 13 undef,T.getD 14 undef,T.getD 15 undef,T.getD 16 undef,T.getD 17 undef,T.getD 18 undef,T.getD 19 undef,T.getD 20 undef,T.getD 21 undef,T.getD 22 undef,T.getD 23 undef,T.getD 24 undef,T.getD 25 undef,T.getD 26 undef,T.getD 27 undef,T.getD 28 undef,T.getD 29 undef,T.getD 30 undef,T.getD 31 undef,T.getD 32 undef,T.getD 33 undef,T.getD 34 undef,T.getD 35 undef,T.getD 36 undef,T.getD 37 undef,T.getD 38 undef,T.getD 39 undef,T.getD 40 undef,T.getD 41 undef,T.getD 42 undef,T.getD 43 undef,T.getD 44 undef,T.getD 45 undef,T.getD 46 undef,T.getD 47 undef,T.getD 48 undef,T.getD 49 undef,T.getD 50 undef,T.getD 51 undef,T.getD 52 undef,T.getD 53 undef,T.getD 54 undef,T.getD 55 undef,T.getD 56 undef,T.getD 57 undef,T.getD 58 undef,T.getD 59 undef,T.getD 60 undef,T.getD 61 undef,T.getD 62 undef,T.getD 63 undef,T.getD 64 undef,T.getD 65 undef,T.getD 66 undef,T.getD 67 undef,T.getD 68 undef,T.getD 69 undef,T.getD 70 undef,T.getD 71 undef,T.getD 72 undef,T.getD 73 undef,T.getD 74 undef,T.getD 75 undef,T.getD 76 undef,T.getD 77 undef,T.getD 78 undef,T.getD 79 undef,T.getD 80 undef,T.getD 81 undef,T.getD 82 undef,T.getD 83 undef,T.getD 84 undef,T.getD 85 undef,T.getD 86 undef,T.getD 87 undef,T.getD 88 undef,T.getD 89 undef,T.getD 90 undef,T.getD 91 undef,T.getD 92 undef,T.getD 93 undef,T.getD 94 undef,T.getD 95 undef,T.getD 96 undef,T.getD 97 undef,T.getD 98 undef,T.getD 99 undef,T.getD 100 undef,T.getD 101 undef,T.getD 102 undef,T.getD 103 undef,T.getD 104 undef,T.getD 105 undef,T.getD 106 undef,T.getD 107 undef,T.getD 108 undef,T.getD 109 undef,T.getD 110 undef,T.getD 111 undef,T.getD 112 undef,T.getD 113 undef,T.getD 114 undef,T.getD 115 undef,T.getD 116 undef,T.getD 117 undef]:Array Value)[i]
 | 0,_,_=>rfl
 | 1,_,_=>rfl
 | 2,_,_=>rfl
 | 3,_,_=>rfl
 | 4,_,_=>rfl
 | 5,_,_=>rfl
 | 6,_,_=>rfl
 | 7,_,_=>rfl
 | 8,_,_=>rfl
 | 9,_,_=>rfl
 | 10,_,_=>rfl
 | 11,_,_=>rfl
 | 12,_,_=>rfl
 | 13,_,_=>rfl
 | 14,_,_=>rfl
 | 15,_,_=>rfl
 | 16,_,_=>rfl
 | 17,_,_=>rfl
 | 18,_,_=>rfl
 | 19,_,_=>rfl
 | 20,_,_=>rfl
 | 21,_,_=>rfl
 | 22,_,_=>rfl
 | 23,_,_=>rfl
 | 24,_,_=>rfl
 | 25,_,_=>rfl
 | 26,_,_=>rfl
 | 27,_,_=>rfl
 | 28,_,_=>rfl
 | 29,_,_=>rfl
 | 30,_,_=>rfl
 | 31,_,_=>rfl
 | 32,_,_=>rfl
 | 33,_,_=>rfl
 | 34,_,_=>rfl
 | 35,_,_=>rfl
 | 36,_,_=>rfl
 | 37,_,_=>rfl
 | 38,_,_=>rfl
 | 39,_,_=>rfl
 | 40,_,_=>rfl
 | 41,_,_=>rfl
 | 42,_,_=>rfl
 | 43,_,_=>rfl
 | 44,_,_=>rfl
 | 45,_,_=>rfl
 | 46,_,_=>rfl
 | 47,_,_=>rfl
 | 48,_,_=>rfl
 | 49,_,_=>rfl
 | 50,_,_=>rfl
 | 51,_,_=>rfl
 | 52,_,_=>rfl
 | 53,_,_=>rfl
 | 54,_,_=>rfl
 | 55,_,_=>rfl
 | 56,_,_=>rfl
 | 57,_,_=>rfl
 | 58,_,_=>rfl
 | 59,_,_=>rfl
 | 60,_,_=>rfl
 | 61,_,_=>rfl
 | 62,_,_=>rfl
 | 63,_,_=>rfl
 | 64,_,_=>rfl
 | 65,_,_=>rfl
 | 66,_,_=>rfl
 | 67,_,_=>rfl
 | 68,_,_=>rfl
 | 69,_,_=>rfl
 | 70,_,_=>rfl
 | 71,_,_=>rfl
 | 72,_,_=>rfl
 | 73,_,_=>rfl
 | 74,_,_=>rfl
 | 75,_,_=>rfl
 | 76,_,_=>rfl
 | 77,_,_=>rfl
 | 78,_,_=>rfl
 | 79,_,_=>rfl
 | 80,_,_=>rfl
 | 81,_,_=>rfl
 | 82,_,_=>rfl
 | 83,_,_=>rfl
 | 84,_,_=>rfl
 | 85,_,_=>rfl
 | 86,_,_=>rfl
 | 87,_,_=>rfl
 | 88,_,_=>rfl
 | 89,_,_=>rfl
 | 90,_,_=>rfl
 | 91,_,_=>rfl
 | 92,_,_=>rfl
 | 93,_,_=>rfl
 | 94,_,_=>rfl
 | 95,_,_=>rfl
 | 96,_,_=>rfl
 | 97,_,_=>rfl
 | 98,_,_=>rfl
 | 99,_,_=>rfl
 | 100,_,_=>rfl
 | 101,_,_=>rfl
 | 102,_,_=>rfl
 | 103,_,_=>rfl
 | 104,_,_=>rfl
 | 105,_,_=>rfl
 | 106,_,_=>rfl
 | 107,_,_=>rfl
 | 108,_,_=>rfl
 | 109,_,_=>rfl
 | 110,_,_=>rfl
 | 111,_,_=>rfl
 | 112,_,_=>rfl
 | 113,_,_=>rfl
 | 114,_,_=>rfl
 | 115,_,_=>rfl
 | 116,_,_=>rfl
 | 117,_,_=>rfl
 | n+118,h,_=>absurd h (by omega)
theorem Zln{T:Array Value}{v0 v1 v2 v4 v5 v6 v7:Value}{p:Prop}(hs:T.size=118)(h0:T.getD 0 undef=v0)(h1:T.getD 1 undef=v1)(h2:T.getD 2 undef=v2)(h4:T.getD 4 undef=v4)(h5:T.getD 5 undef=v5)(h6:T.getD 6 undef=v6)(h7:T.getD 7 undef=v7)(hp:p) :
    ∃ u:Nat->Value,({ tmps:=T,defers:=[] }:Act)={ tmps:=#[v0,v1,v2,u 3,v4,v5,v6,v7,u 8,u 9,u 10,u 11,u 12,u 13,u 14,u 15,u 16,u 17,u 18,u 19,u 20,u 21,u 22,u 23,u 24,u 25,u 26,u 27,u 28,u 29,u 30,u 31,u 32,u 33,u 34,u 35,u 36,u 37,u 38,u 39,u 40,u 41,u 42,u 43,u 44,u 45,u 46,u 47,u 48,u 49,u 50,u 51,u 52,u 53,u 54,u 55,u 56,u 57,u 58,u 59,u 60,u 61,u 62,u 63,u 64,u 65,u 66,u 67,u 68,u 69,u 70,u 71,u 72,u 73,u 74,u 75,u 76,u 77,u 78,u 79,u 80,u 81,u 82,u 83,u 84,u 85,u 86,u 87,u 88,u 89,u 90,u 91,u 92,u 93,u 94,u 95,u 96,u 97,u 98,u 99,u 100,u 101,u 102,u 103,u 104,u 105,u 106,u 107,u 108,u 109,u 110,u 111,u 112,u 113,u 114,u 115,u 116,u 117],defers:=[] }/\p:=by
 refine⟨λk=>T.getD k undef,?_,hp⟩;subst h0 h1 h2 h4 h5 h6 h7;congr 1;apply Array.ext;rw[hs];rfl
 ·intro i e f
  have hi:i<118:=by omega
  have hT:T[i]=T.getD i undef:=by rw[Array.getD_eq_getD_getElem?,Array.getElem?_eq_getElem e];rfl
  rw[hT];clear hT e;exact Zvl T i hi f
def colOf:Value->Int | .int _ q=>q|_=>0
theorem Zid(go n cap:Nat)(L0:List RZ)(vby:Value)(m cols:Nat)(w:World)(hM:MatZ 150 39 w go L0)(hn:L0.length=n)(hn0:0<n)(hn9:n<=900)(hcap:n<=cap)(hcm:cap<=maxLen)(hcs:cols<=m)(hm9:m<=900)
    (p7:okZ (pw 200) m cols 0 0 (L0.map RZ.q) 1) :
    Calls Tryz.prog 128 #[.agg #[.slice (some ⟨go,0,none⟩) n cap,vby],.int .i64 cols] w λe w'=>∃ L2 ln lA lk lc,
     e=.returned (.tuple #[.int .i64 ((Zan cols 0 0 (L0.map RZ.q) false 1).2.1:Nat),.bool (Zan cols 0 0 (L0.map RZ.q) false 1).2.2.1,.agg #[.bool ln,.slice lA lk lc]])/\Wd w' ln lA lk lc (Zan cols 0 0 (L0.map RZ.q) false 1).2.2.2 /\
     L2.length=n/\(∀ g ∈ L2.map RZ.g,g ∈ L0.map RZ.g)/\L2.map RZ.q=(Zan cols 0 0 (L0.map RZ.q) false 1).1/\MatZ 150 39 w' go L2/\Kept (λg=>g=go \/ g ∈ L0.map RZ.g) w w':=by
 have hmx:Tryz.prog.follows .mixedOrders=true:=by kernel_rfl
 have E7:=hcm;unfold maxLen at hcm;obtain⟨FIN,i4⟩:∃ X,Zan cols 0 0 (L0.map RZ.q) false 1=X:=⟨_,rfl⟩;rw[i4];replace i4:=Za i4;replace p7:=Za p7;replace hn:=Za hn;obtain⟨W0,u5,i0,⟨q0,q1,q2,q3⟩,s0⟩:=Zg2 w 152 #[.slice (some ⟨go,0,none⟩) n cap,vby] 3 #[.int .i64 0] 4 #[.bool false] 39 #[.bool false,.slice none 0 0];obtain⟨gg,a8⟩:∃ g,w.heap.size=g:=⟨_,rfl⟩;rw[a8]at q0 q1 q2 q3 s0 i0;go_enter Tryz.func128,Tryz.ntmps128;go_wp2_with fail;(try rw[u5]);(try rw[a8]);obtain⟨gr,v7⟩:∃ g,gg+1=g:=⟨_,rfl⟩;rw[v7]at q1 q2 q3 ⊢;obtain⟨gn,v8⟩:∃ g,gr+1=g:=⟨_,rfl⟩;rw[v8]at q2 q3 ⊢;obtain⟨gl,w3⟩:∃ g,gn+1=g:=⟨_,rfl⟩;rw[w3]at q3 ⊢;have F1:W0.heap.size=gl+1:=by rw[s0];omega
 have A8:=hM.below (by rw[a8];exact i0:Below w.heap.size w W0)
 have D2:∀ k,(k=go \/ k ∈ L0.map RZ.g)->k<gg:=λk hk=>by
  obtain⟨t,cs,hb,-⟩:=hM.boxes k hk;rw[<- a8];exact hb.lt
 have hD:Hid (gg<gr/\gr<gn/\gn<gl/\(∀ k,(k=go \/ k ∈ L0.map RZ.g)->k<gg)):=Za ⟨by omega,by omega,by omega,D2⟩;have C9:=Za hM;clear v7 v8 w3 s0 hM A8 u5;replace a8:=Za a8;replace i0:=Za i0
 refine Zm2 0 (λa' w'=>∃ (c r:Nat) (ng:Bool) (last:Int) (ln:Bool) (lA:Option Addr) (lk lc:Nat) (L2:List RZ) (u:Nat->Value),a'={ tmps:=#[.agg #[.slice (some ⟨go,0,none⟩) n cap,vby],.int .i64 cols,.pointer (some ⟨gg,0,none⟩),u 3,.pointer (some ⟨gr,0,none⟩),.pointer (some ⟨gn,0,none⟩),.pointer (some ⟨gl,0,none⟩),.int .i64 c,u 8,u 9,u 10,u 11,u 12,u 13,u 14,u 15,u 16,u 17,u 18,u 19,u 20,u 21,u 22,u 23,u 24,u 25,u 26,u 27,u 28,u 29,u 30,u 31,u 32,u 33,u 34,u 35,u 36,u 37,u 38,u 39,u 40,u 41,u 42,u 43,u 44,u 45,u 46,u 47,u 48,u 49,u 50,u 51,u 52,u 53,u 54,u 55,u 56,u 57,u 58,u 59,u 60,u 61,u 62,u 63,u 64,u 65,u 66,u 67,u 68,u 69,u 70,u 71,u 72,u 73,u 74,u 75,u 76,u 77,u 78,u 79,u 80,u 81,u 82,u 83,u 84,u 85,u 86,u 87,u 88,u 89,u 90,u 91,u 92,u 93,u 94,u 95,u 96,u 97,u 98,u 99,u 100,u 101,u 102,u 103,u 104,u 105,u 106,u 107,u 108,u 109,u 110,u 111,u 112,u 113,u 114,u 115,u 116,u 117],defers:=[] }/\c<=cols/\r<=n /\
     Blk w' gr 3 #[.int .i64 r]/\Blk w' gn 4 #[.bool ng]/\Blk w' gl 39 #[.bool ln,.slice lA lk lc]/\Wd w' ln lA lk lc last/\MatZ 150 39 w' go L2/\L2.length=n/\(∀ g ∈ L2.map RZ.g,g ∈ L0.map RZ.g) /\
     Zan (cols-c) c r (L2.map RZ.q) ng last=FIN/\okZ (pw 200) m (cols-c) c r (L2.map RZ.q) last/\Kept (λk=>k=go \/ k ∈ L0.map RZ.g \/ k=gr \/ k=gn \/ k=gl) W0 w') (λa' _=>cols-(colOf (a'.tmps.getD 7 undef)).toNat) rfl ?pass ?first
 case first =>
  intro s2;go_wp2_with fail;refine(Zbq 1 W0 (by decide) (by decide)).mono ?_;rintro e w1 ⟨p9,ln,lA,lk,lc,rfl,hN⟩;obtain⟨e1,e2,e3,e4⟩:=hD.out;have k3:=Zd p9 q3;obtain⟨y0,y1,y2,y3⟩:=k3.two;obtain⟨X,hX,d7,q4,st⟩:=Zbe ln lA lk lc (p9.mono (by omega:gl<=W0.heap.size)) (Qa gl) k3;have k1:=q1.below d7 (by omega);have k2:=q2.below d7 (by omega);have g4:=C9.out.below (by rw[a8.out];exact i0.out.trans (d7.mono (by omega)):Below w.heap.size w X)
  have b8:Kept (λk=>k=go \/ k ∈ L0.map RZ.g \/ k=gr \/ k=gn \/ k=gl) W0 X:=by
   rw[<- hX];exact((Kept.of_below p9).set_ (p:=⟨gl,0,none⟩) (.inl (.inr (.inr (.inr (.inr rfl))))) _).set_ (p:=⟨gl,1,none⟩) (.inl (.inr (.inr (.inr (.inr rfl))))) _
  have g9:=st.1 _ _ _ _ _ hN;go_wp2_with fail;(try rw[hX]);refine wp_label ?_;refine(by assumption:∀ a w,Code.wp _ _ _ a w->_) _ _ ?_;exact s2 _ _ ⟨0,0,false,1,ln,lA,lk,lc,L0,Zln rfl rfl rfl rfl rfl rfl rfl rfl ⟨Qz _,Qz _,k1,k2,q4,g9,g4,hn.out,λg h=>h,i4.out,p7.out,b8⟩⟩
 case pass =>
  rintro a' wA ⟨c,r,ng,last,ln,lA,lk,lc,L2,u,rfl,F2,G2,b1,b2,b3,U,i6,d6,c9,hE,a4,hK⟩;obtain⟨e1,e2,e3,e4⟩:=hD.out;have d1:gr≠gn:=by omega
  have d3:gr≠gl:=by omega
  have d4:gn≠gl:=by omega
  have b0:Blk wA gg 152 #[.slice (some ⟨go,0,none⟩) n cap,vby]:=hK.blk q0 (λh=>by
   rcases h with h|h|h|h|h;have:=e4 gg (.inl h);omega;have:=e4 gg (.inr h);omega;omega;omega
   ·omega)
  obtain⟨x0,-,-,-⟩:=b0.two;have o1:=Za (Zwt a4);have I:Hid ((L2.map RZ.q).length=n):=Za (by rw[Qe];exact d6);by_cases hc:c=cols
  case pos =>
   have t1:((c:Int) == (cols:Int))=true:=beq_iff_eq.2 (by omega);have A3:decide (c=cols)=true:=decide_eq_true hc;replace hc:=Za hc;have g8:Hid ((L2.map RZ.q,r,ng,last)=FIN):=Za (by rw[<- hE];exact(by have h:=hc.out;subst h;rw[Nat.sub_self];rfl));obtain⟨X,hX,d7,q4,st⟩:=Zbe (B:=gl) ln lA lk lc (Qc gl ((wA.setCell ⟨gr,0,none⟩ (.int .i64 r)).setCell ⟨gn,0,none⟩ (.bool ng))) (Qa gl) ((b3.far (Qi d3) _).far (Qi d4) _);have x1:Blk X gr 3 #[.int .i64 r]:=by rw[<- hX];exact((((b1.set_ 0 (.int .i64 r)).far d1 _).far d3 _).far d3 _)
   have x2:Blk X gn 4 #[.bool ng]:=by rw[<- hX];exact(((b2.far (Qi d1) _).set_ 0 (.bool ng)).far d4 _).far d4 _
   have Y:Kept (λk=>k=gr \/ k=gn \/ k=gl) wA X:=by
    rw[<- hX];exact((((Qm _ wA).set_ (p:=⟨gr,0,none⟩) (.inl (.inl rfl)) _).set_ (p:=⟨gn,0,none⟩) (.inl (.inr (.inl rfl))) _).set_ (p:=⟨gl,0,none⟩) (.inl (.inr (.inr rfl))) _).set_ (p:=⟨gl,1,none⟩) (.inl (.inr (.inr rfl))) _
   have a7:∀ k,(k=gr \/ k=gn \/ k=gl)->∃ t cs,Blk wA k t cs/\NoLimb cs:=λk hk=>by
    rcases hk with rfl|rfl|rfl;exact⟨_,_,b1,Zfp (λx=>by simp)⟩;exact⟨_,_,b2,Zfp (λx=>by simp)⟩;exact⟨_,_,b3,Zgd _ _ _ _⟩
   have g4:Hid (MatZ 150 39 X go L2):=Za (i6.keptG Y (λh=>by have:=e4 go (.inl rfl);omega) (λs hs h=>by have:=e4 s.g (.inr (c9 _ (List.mem_map.2 ⟨s,hs,rfl⟩)));omega) a7);have g9:Hid (Wd X ln lA lk lc last):=Za (Y.wd U a7)
   have b8:Hid (Kept (λg=>g=go \/ g ∈ L0.map RZ.g) w X):=Za (Kept.shrink (by rw[a8.out];exact i0.out) (hK.trans (Y.mono (λk _ h=>by rcases h with h|h|h <;> simp[h]))) (λk hk h=>by
    rw[a8.out]at hk;rcases h with h|h|h|h|h;exact .inl h;exact .inr h;omega;omega
    ·omega))
   have c1:wA.cell? ⟨gr,0,none⟩=some (.int .i64 r):=by rw[b1.cell];rfl
   have z1:=b1.frozen 0;have c2:wA.cell? ⟨gn,0,none⟩=some (.bool ng):=by rw[b2.cell];rfl
   have z2:=b2.frozen 0;obtain⟨c3,c4,z3,z4⟩:=b3.two;have a9:=b2.far (p:=⟨gr,0,none⟩) (Qi d1) (Value.int .i64 r);have k6:(wA.setCell ⟨gr,0,none⟩ (.int .i64 r)).cell? ⟨gn,0,none⟩=some (.bool ng):=by rw[a9.cell];rfl
   have q7:=a9.frozen 0;obtain⟨m0,l3,p8,r0⟩:=(b3.far (p:=⟨gr,0,none⟩) (Qi d3) (Value.int .i64 r)).two;have j7:(wA.setCell ⟨gr,0,none⟩ (.int .i64 r)).cell? ⟨gr,0,none⟩=some (.int .i64 r):=by rw[(b1.set_ 0 (.int .i64 r)).cell];rfl
   have d9:((wA.setCell ⟨gr,0,none⟩ (.int .i64 r)).setCell ⟨gn,0,none⟩ (.bool ng)).cell? ⟨gr,0,none⟩=some (.int .i64 r):=by rw[((b1.set_ 0 (.int .i64 r)).far (p:=⟨gn,0,none⟩) d1 _).cell];rfl
   have d8:((wA.setCell ⟨gr,0,none⟩ (.int .i64 r)).setCell ⟨gn,0,none⟩ (.bool ng)).cell? ⟨gn,0,none⟩=some (.bool ng):=by rw[(a9.set_ 0 (.bool ng)).cell];rfl
   have k7:=(a9.set_ 0 (.bool ng)).frozen 0;obtain⟨f5,f7,m4,l6⟩:=((b3.far (p:=⟨gr,0,none⟩) (Qi d3) (Value.int .i64 r)).far (p:=⟨gn,0,none⟩) (Qi d4) (Value.bool ng)).two;obtain⟨y3,y4,-,-⟩:=q4.two;have y1:X.cell? ⟨gr,0,none⟩=some (.int .i64 r):=by rw[x1.cell];rfl
   have y2:X.cell? ⟨gn,0,none⟩=some (.bool ng):=by rw[x2.cell];rfl
   clear b1 b2 b3 a9 i6 U hK hE a4 st d7 Y a7;go_wp2_with fail;have i1:wA.drew.cell? ⟨gr,0,none⟩=some (.int .i64 r)/\wA.drew.cell? ⟨gn,0,none⟩=some (.bool ng)/\wA.drew.cell? ⟨gl,0,none⟩=some (.bool ln)/\wA.drew.cell? ⟨gl,1,none⟩=some (.slice lA lk lc):=⟨c1,c2,c3,c4⟩;have j8:(wA.setCell ⟨gr,0,none⟩ (.int .i64 r)).drew.cell? ⟨gr,0,none⟩=some (.int .i64 r)/\(wA.setCell ⟨gr,0,none⟩ (.int .i64 r)).drew.cell? ⟨gn,0,none⟩=some (.bool ng)/\(wA.setCell ⟨gr,0,none⟩ (.int .i64 r)).drew.cell? ⟨gl,0,none⟩=some (.bool ln)/\(wA.setCell ⟨gr,0,none⟩ (.int .i64 r)).drew.cell? ⟨gl,1,none⟩=some (.slice lA lk lc):=⟨j7,k6,m0,l3⟩;have j5:((wA.setCell ⟨gr,0,none⟩ (.int .i64 r)).setCell ⟨gn,0,none⟩ (.bool ng)).drew.cell? ⟨gr,0,none⟩=some (.int .i64 r)/\((wA.setCell ⟨gr,0,none⟩ (.int .i64 r)).setCell ⟨gn,0,none⟩ (.bool ng)).drew.cell? ⟨gn,0,none⟩=some (.bool ng)/\((wA.setCell ⟨gr,0,none⟩ (.int .i64 r)).setCell ⟨gn,0,none⟩ (.bool ng)).drew.cell? ⟨gl,0,none⟩=some (.bool ln)/\((wA.setCell ⟨gr,0,none⟩ (.int .i64 r)).setCell ⟨gn,0,none⟩ (.bool ng)).drew.cell? ⟨gl,1,none⟩=some (.slice lA lk lc):=⟨d9,d8,f5,f7⟩;have l5:X.drew.cell? ⟨gr,0,none⟩=some (.int .i64 r)/\X.drew.cell? ⟨gn,0,none⟩=some (.bool ng)/\X.drew.cell? ⟨gl,0,none⟩=some (.bool ln)/\X.drew.cell? ⟨gl,1,none⟩=some (.slice lA lk lc):=⟨y1,y2,y3,y4⟩
   refine Z0 [] (λwx=>wx.cell? ⟨gr,0,none⟩=some (.int .i64 r)/\wx.cell? ⟨gn,0,none⟩=some (.bool ng)/\wx.cell? ⟨gl,0,none⟩=some (.bool ln)/\wx.cell? ⟨gl,1,none⟩=some (.slice lA lk lc)) hmx i1 (λhxs=>?_);refine Zje 3 [0,1,2] rfl (by kernel_rfl) i1 ?_
   iterate 3 (refine tk1 (v:=?_) rfl (Qn ⟨by kernel_rfl,?_⟩) ?_;rotate_left;(· intro W2 hSw;(try dsimp only at hSw);go_simp;try with_reducible rfl);try simp only[Qb,Zgy,Zge,Zgs,putG_a,putG_s,putG_z])
   refine tk0 ?_;refine Ze (i:=3) rfl (by kernel_rfl) (λK hK=>?_);go_simp;(try rw[hX]);refine hK.out _ _ (λ_=>j8) ?_;clear hK K
   try simp only[Qb,Zgy,Zge,Zgs]
   refine Ze (i:=4) rfl (by kernel_rfl) (λK hK=>?_);go_simp;(try rw[hX]);refine hK.out _ _ (λ_=>j5) ?_;clear hK K
   try simp only[Qb,Zgy,Zge,Zgs]
   refine Ze (i:=5) rfl (by kernel_rfl) (λK hK=>?_);go_simp;(try rw[hX]);refine hK.out _ _ (λ_=>l5) ?_;clear hK K
   try simp only[Qb,Zgy,Zge,Zgs]
   refine Zj (by kernel_rfl) ?_ _;refine Ql ?_;clear c1 c2 c3 c4 z1 z2 z3 z4 k6 q7 m0 l3 p8 r0 i1 j8 j5 l5 hxs j7 d9 d8 f5 f7 k7 m4 l6;go_wp2_with fail;simp only[Exit.jump];refine bodyPost_ret (v:=.tuple #[.int .i64 r,.bool ng,.agg #[.bool ln,.slice lA lk lc]]) (by simp[results,Tryz.results128,go_sem,y1,y2,y3,y4]) rfl ?_;have g2:=g8.out;exact⟨L2,ln,lA,lk,lc,by rw[<- g2],by rw[<- g2];exact g9.out,d6,c9,by rw[<- g2],g4.out.below (Zf (Qc _ _) 1),b8.out.drewN 1⟩
  have t1:((c:Int) == (cols:Int))=false:=beq_eq_false_iff_ne.2 (by omega);have A3:decide (c=cols)=false:=decide_eq_false hc;by_cases hr:r=n
  case pos =>
   have t2:((r:Int) == (n:Int))=true:=beq_iff_eq.2 (by omega);have y9:decide (r=n)=true:=decide_eq_true hr;replace hr:=Za hr;have g8:Hid ((L2.map RZ.q,r,ng,last)=FIN):=Za (by rw[<- hE];exact(Zmv (by rw[I.out];exact hr.out)).symm);obtain⟨X,hX,d7,q4,st⟩:=Zbe (B:=gl) ln lA lk lc (Qc gl ((wA.setCell ⟨gr,0,none⟩ (.int .i64 r)).setCell ⟨gn,0,none⟩ (.bool ng))) (Qa gl) ((b3.far (Qi d3) _).far (Qi d4) _);have x1:Blk X gr 3 #[.int .i64 r]:=by rw[<- hX];exact((((b1.set_ 0 (.int .i64 r)).far d1 _).far d3 _).far d3 _)
   have x2:Blk X gn 4 #[.bool ng]:=by rw[<- hX];exact(((b2.far (Qi d1) _).set_ 0 (.bool ng)).far d4 _).far d4 _
   have Y:Kept (λk=>k=gr \/ k=gn \/ k=gl) wA X:=by
    rw[<- hX];exact((((Qm _ wA).set_ (p:=⟨gr,0,none⟩) (.inl (.inl rfl)) _).set_ (p:=⟨gn,0,none⟩) (.inl (.inr (.inl rfl))) _).set_ (p:=⟨gl,0,none⟩) (.inl (.inr (.inr rfl))) _).set_ (p:=⟨gl,1,none⟩) (.inl (.inr (.inr rfl))) _
   have a7:∀ k,(k=gr \/ k=gn \/ k=gl)->∃ t cs,Blk wA k t cs/\NoLimb cs:=λk hk=>by
    rcases hk with rfl|rfl|rfl;exact⟨_,_,b1,Zfp (λx=>by simp)⟩;exact⟨_,_,b2,Zfp (λx=>by simp)⟩;exact⟨_,_,b3,Zgd _ _ _ _⟩
   have g4:Hid (MatZ 150 39 X go L2):=Za (i6.keptG Y (λh=>by have:=e4 go (.inl rfl);omega) (λs hs h=>by have:=e4 s.g (.inr (c9 _ (List.mem_map.2 ⟨s,hs,rfl⟩)));omega) a7);have g9:Hid (Wd X ln lA lk lc last):=Za (Y.wd U a7)
   have b8:Hid (Kept (λg=>g=go \/ g ∈ L0.map RZ.g) w X):=Za (Kept.shrink (by rw[a8.out];exact i0.out) (hK.trans (Y.mono (λk _ h=>by rcases h with h|h|h <;> simp[h]))) (λk hk h=>by
    rw[a8.out]at hk;rcases h with h|h|h|h|h;exact .inl h;exact .inr h;omega;omega
    ·omega))
   have c1:wA.cell? ⟨gr,0,none⟩=some (.int .i64 r):=by rw[b1.cell];rfl
   have z1:=b1.frozen 0;have c2:wA.cell? ⟨gn,0,none⟩=some (.bool ng):=by rw[b2.cell];rfl
   have z2:=b2.frozen 0;obtain⟨c3,c4,z3,z4⟩:=b3.two;have a9:=b2.far (p:=⟨gr,0,none⟩) (Qi d1) (Value.int .i64 r);have k6:(wA.setCell ⟨gr,0,none⟩ (.int .i64 r)).cell? ⟨gn,0,none⟩=some (.bool ng):=by rw[a9.cell];rfl
   have q7:=a9.frozen 0;obtain⟨m0,l3,p8,r0⟩:=(b3.far (p:=⟨gr,0,none⟩) (Qi d3) (Value.int .i64 r)).two;have j7:(wA.setCell ⟨gr,0,none⟩ (.int .i64 r)).cell? ⟨gr,0,none⟩=some (.int .i64 r):=by rw[(b1.set_ 0 (.int .i64 r)).cell];rfl
   have d9:((wA.setCell ⟨gr,0,none⟩ (.int .i64 r)).setCell ⟨gn,0,none⟩ (.bool ng)).cell? ⟨gr,0,none⟩=some (.int .i64 r):=by rw[((b1.set_ 0 (.int .i64 r)).far (p:=⟨gn,0,none⟩) d1 _).cell];rfl
   have d8:((wA.setCell ⟨gr,0,none⟩ (.int .i64 r)).setCell ⟨gn,0,none⟩ (.bool ng)).cell? ⟨gn,0,none⟩=some (.bool ng):=by rw[(a9.set_ 0 (.bool ng)).cell];rfl
   have k7:=(a9.set_ 0 (.bool ng)).frozen 0;obtain⟨f5,f7,m4,l6⟩:=((b3.far (p:=⟨gr,0,none⟩) (Qi d3) (Value.int .i64 r)).far (p:=⟨gn,0,none⟩) (Qi d4) (Value.bool ng)).two;obtain⟨y3,y4,-,-⟩:=q4.two;have y1:X.cell? ⟨gr,0,none⟩=some (.int .i64 r):=by rw[x1.cell];rfl
   have y2:X.cell? ⟨gn,0,none⟩=some (.bool ng):=by rw[x2.cell];rfl
   clear b1 b2 b3 a9 i6 U hK hE a4 st d7 Y a7;go_wp2_with fail;have i1:wA.drew.cell? ⟨gr,0,none⟩=some (.int .i64 r)/\wA.drew.cell? ⟨gn,0,none⟩=some (.bool ng)/\wA.drew.cell? ⟨gl,0,none⟩=some (.bool ln)/\wA.drew.cell? ⟨gl,1,none⟩=some (.slice lA lk lc):=⟨c1,c2,c3,c4⟩;have j8:(wA.setCell ⟨gr,0,none⟩ (.int .i64 r)).drew.cell? ⟨gr,0,none⟩=some (.int .i64 r)/\(wA.setCell ⟨gr,0,none⟩ (.int .i64 r)).drew.cell? ⟨gn,0,none⟩=some (.bool ng)/\(wA.setCell ⟨gr,0,none⟩ (.int .i64 r)).drew.cell? ⟨gl,0,none⟩=some (.bool ln)/\(wA.setCell ⟨gr,0,none⟩ (.int .i64 r)).drew.cell? ⟨gl,1,none⟩=some (.slice lA lk lc):=⟨j7,k6,m0,l3⟩;have j5:((wA.setCell ⟨gr,0,none⟩ (.int .i64 r)).setCell ⟨gn,0,none⟩ (.bool ng)).drew.cell? ⟨gr,0,none⟩=some (.int .i64 r)/\((wA.setCell ⟨gr,0,none⟩ (.int .i64 r)).setCell ⟨gn,0,none⟩ (.bool ng)).drew.cell? ⟨gn,0,none⟩=some (.bool ng)/\((wA.setCell ⟨gr,0,none⟩ (.int .i64 r)).setCell ⟨gn,0,none⟩ (.bool ng)).drew.cell? ⟨gl,0,none⟩=some (.bool ln)/\((wA.setCell ⟨gr,0,none⟩ (.int .i64 r)).setCell ⟨gn,0,none⟩ (.bool ng)).drew.cell? ⟨gl,1,none⟩=some (.slice lA lk lc):=⟨d9,d8,f5,f7⟩;have l5:X.drew.cell? ⟨gr,0,none⟩=some (.int .i64 r)/\X.drew.cell? ⟨gn,0,none⟩=some (.bool ng)/\X.drew.cell? ⟨gl,0,none⟩=some (.bool ln)/\X.drew.cell? ⟨gl,1,none⟩=some (.slice lA lk lc):=⟨y1,y2,y3,y4⟩
   refine Z0 [] (λwx=>wx.cell? ⟨gr,0,none⟩=some (.int .i64 r)/\wx.cell? ⟨gn,0,none⟩=some (.bool ng)/\wx.cell? ⟨gl,0,none⟩=some (.bool ln)/\wx.cell? ⟨gl,1,none⟩=some (.slice lA lk lc)) hmx i1 (λhxs=>?_);refine Zje 3 [0,1,2] rfl (by kernel_rfl) i1 ?_
   iterate 3 (refine tk1 (v:=?_) rfl (Qn ⟨by kernel_rfl,?_⟩) ?_;rotate_left;(· intro W2 hSw;(try dsimp only at hSw);go_simp;try with_reducible rfl);try simp only[Qb,Zgy,Zge,Zgs,putG_a,putG_s,putG_z])
   refine tk0 ?_;refine Ze (i:=3) rfl (by kernel_rfl) (λK hK=>?_);go_simp;(try rw[hX]);refine hK.out _ _ (λ_=>j8) ?_;clear hK K
   try simp only[Qb,Zgy,Zge,Zgs]
   refine Ze (i:=4) rfl (by kernel_rfl) (λK hK=>?_);go_simp;(try rw[hX]);refine hK.out _ _ (λ_=>j5) ?_;clear hK K
   try simp only[Qb,Zgy,Zge,Zgs]
   refine Ze (i:=5) rfl (by kernel_rfl) (λK hK=>?_);go_simp;(try rw[hX]);refine hK.out _ _ (λ_=>l5) ?_;clear hK K
   try simp only[Qb,Zgy,Zge,Zgs]
   refine Zj (by kernel_rfl) ?_ _;refine Ql ?_;clear c1 c2 c3 c4 z1 z2 z3 z4 k6 q7 m0 l3 p8 r0 i1 j8 j5 l5 hxs j7 d9 d8 f5 f7 k7 m4 l6;go_wp2_with fail;simp only[Exit.jump];refine bodyPost_ret (v:=.tuple #[.int .i64 r,.bool ng,.agg #[.bool ln,.slice lA lk lc]]) (by simp[results,Tryz.results128,go_sem,y1,y2,y3,y4]) rfl ?_;have g2:=g8.out;exact⟨L2,ln,lA,lk,lc,by rw[<- g2],by rw[<- g2];exact g9.out,d6,c9,by rw[<- g2],g4.out.below (Zf (Qc _ _) 1),b8.out.drewN 1⟩
  obtain⟨j,hj⟩:∃ j,cols-c=j+1:=⟨cols-c-1,by omega⟩;rw[hj]at hE a4;have x5:c<cols:=by omega
  have O:r<n:=by omega
  have t2:((r:Int) == (n:Int))=false:=beq_eq_false_iff_ne.2 (by omega);have y9:decide (r=n)=false:=decide_eq_false hr;have m9:Hid (r≠(L2.map RZ.q).length):=Za (by rw[I.out];exact hr);replace hr:=Za hr;replace hc:=Za hc;replace hj:=Za hj;have c1:wA.cell? ⟨gr,0,none⟩=some (.int .i64 r):=by rw[b1.cell];rfl
  obtain⟨ga,i5⟩:∃ g,wA.heap.size=g:=⟨_,rfl⟩;obtain⟨V,hV,e7,qa,kW,kB,sV⟩:=Zt 3 #[.int .i64 r] (Qc wA.heap.size wA) (Qa _);have z9:Hid (MatZ 150 39 V go L2):=Za (i6.below e7);have y5:Hid (Wd V ln lA lk lc last):=Za (U.below e7);have v0:=b0.below e7 b0.lt;have v1:=b1.below e7 b1.lt;have v2:=b2.below e7 b2.lt;have v3:=b3.below e7 b3.lt;have s5:Hid (gl<ga):=Za (by rw[<- i5];exact b3.lt);have x7:Hid (Kept (λk=>k=go \/ k ∈ L0.map RZ.g \/ k=gr \/ k=gn \/ k=gl) W0 V):=Za (hK.below e7);have F9:Hid (ga<V.heap.size):=Za (by rw[sV];omega);have w8:Hid (W0.heap.size<=ga):=Za (by rw[<- i5];exact hK.size);rw[i5]at qa;replace i5:=Za i5;replace v0:=Za v0;replace v1:=Za v1;replace v2:=Za v2;replace v3:=Za v3;replace hE:=Za hE;replace a4:=Za a4;replace d6:=Za d6;replace c9:=Za c9;clear i6 U hK b1 b2 b3 b0 kW kB sV e7;replace qa:=Za qa;go_wp2_with fail;rw[i5.out];(try rw[hV]);clear hV c1 x0
  go_loopg [45] (n-r) (λk _ wr=>∃ q:Nat,q+k=n/\r<=q/\Blk wr ga 3 #[.int .i64 q]/\Hid (∀ i,r<=i->i<q->Zae (L2.map RZ.q) i c=0)/\Kept (λk=>k=ga) V wr)
  case atStart=>exact⟨r,by omega,Qa _,qa.out,Za (λi h1 h2=>by omega),Qm _ _⟩
  case round =>
   obtain⟨q,F4,x4,e8,r1,b5⟩:=hrel;have E9:=s5.out;have b6:∀ k,k=ga->∃ t cs,Blk V k t cs/\NoLimb cs:=λk hk=>⟨_,_,(hk▸qa.out:Blk V k 3 #[.int .i64 r]),Zfp (λx=>by simp)⟩;have w0:=b5.blk v0.out (by omega);have e9:=b5.blk v1.out (by omega);have h9:=b5.blk v2.out (by omega);have g6:=b5.blk v3.out (by omega);have c8:MatZ 150 39 wr go L2:=z9.out.keptG b5 (λh=>by have:=e4 go (.inl rfl);omega) (λs hs h=>by have:=e4 s.g (.inr (c9.out _ (List.mem_map.2 ⟨s,hs,rfl⟩)));omega) b6;have h6:Wd wr ln lA lk lc last:=b5.wd y5.out b6;have q9:Hid (Kept (λk=>k=go \/ k ∈ L0.map RZ.g \/ k=gr \/ k=gn \/ k=gl) W0 wr):=Za (x7.out.and b5 (λk hk h=>by have:=w8.out;omega));obtain⟨x0,-,-,-⟩:=w0.two;have cq:wr.cell? ⟨ga,0,none⟩=some (.int .i64 q):=by rw[e8.cell];rfl
   have zq:=e8.frozen 0;have c1:wr.cell? ⟨gr,0,none⟩=some (.int .i64 r):=by rw[e9.cell];rfl
   cases gk with
   | zero =>
    obtain rfl:q=n:=by omega
    have t3:decide ((q:Int)<(q:Int))=false:=by simp
    have t4:((q:Int) == (q:Int))=true:=by simp
    have hp:Za0 (λi=>Zae (L2.map RZ.q) i c == 0) (L2.map RZ.q).length (L2.map RZ.q).length r=q:=by
     rw[I.out];exact Zg5 (by omega) x4 (Qa _) (λi h1 h2=>by rw[r1.out i h1 h2];rfl) (λh=>by omega)
    have g8:=Za ((Zlu (f:=j) (ng:=ng) (last:=last) m9.out hp I.out.symm).symm.trans hE.out);have k8:=Za (Zq7 a4.out m9.out hp I.out.symm);have k0:Hid (cols-(c+1)=j):=Za (by have:=hj.out;omega);replace hp:=Za hp;replace c8:=Za c8;replace h6:=Za h6;replace e9:=Za e9;replace h9:=Za h9;replace g6:=Za g6;clear b5 b6;go_wp2_with fail
    go_step3
    refine⟨rfl,?_⟩;refine⟨⟨c+1,r,ng,last,ln,lA,lk,lc,L2,Zln rfl rfl rfl rfl rfl rfl rfl (by first|rfl|(show Value.int .i64 _=_;congr 1)) ⟨by omega,by omega,e9.out,h9.out,g6.out,h6.out,c8.out,d6.out,c9.out,by rw[k0.out];exact g8.out,by rw[k0.out];exact k8.out,q9.out⟩⟩,?_⟩;simp[colOf];omega
   | succ gk' =>
    obtain rfl:gk'=n-(q+1):=by omega
    have h7:q<n:=by omega
    have t3:decide ((q:Int)<(n:Int))=true:=decide_eq_true (by omega);have bq:(q:Int)<(n:Int):=by omega
    obtain⟨x,hx⟩:=Zal (L:=L2) (i:=q) (by rw[d6.out];exact h7)
    have r2:x.q.length=m:=by
     have:=o1.out.1.1 q (by rw[I.out];exact h7);rw[Qd,hx]at this;exact this
    obtain⟨cx,zx⟩:=c8.cell hx;obtain⟨fx,-⟩:=c8.row hx;rw[r2]at cx;have bc:(c:Int)<(m:Int):=by omega
    obtain⟨n1,A1,k1,z8,p0,p1,l9⟩:=fx.at_ (i:=c) (by rw[r2];omega);have F6:k1<=4096:=l9.2.1;have m8:Zae (L2.map RZ.q) q c=x.q[c]?.getD 0:=by rw[Zjt,Zhf hx]
    rw[<- m8]at l9
    have m3:k1=0 ↔ Zae (L2.map RZ.q) q c=0:=by
     have h1:=l9.lim.len;have h2:=length_digits_pos (v:=(Zae (L2.map RZ.q) q c).natAbs);omega
    have hZ:=Za (λW1=>Zu5 n1 A1 k1 z8 W1 (by omega) ((k1:Int) == 0) rfl);by_cases hz:k1=0
    case pos =>
     have t4:((k1:Int) == 0)=true:=by simp[hz]
     rw[t4]at hZ;have m5:=m3.1 hz
     have t0:Hid (∀ i,r<=i->i<q+1->Zae (L2.map RZ.q) i c=0):=Za (λi h1 h2=>by
      by_cases hi:i=q;rw[hi];exact m5
      ·exact r1.out i h1 (by omega))
     replace hz:=Za hz;replace c8:=Za c8;replace h6:=Za h6;clear m5 l9 fx zx m8 r2 hx m3 e9 h9 g6;go_wp2_with fail;refine(hZ.out _).mono ?_;rintro e w5 ⟨rfl,C⟩;have n3:=Zb C cq;have F7:=Zk C cq zq;have k9:=(e8.below C e8.lt).set_ 0 (.int .i64 ((q:Int)+1));have j4:=(b5.below C).set_ (p:=⟨ga,0,none⟩) (.inl rfl) (.int .i64 ((q:Int)+1));replace k9:=Za k9;replace j4:=Za j4;clear b5 e8 b6;go_wp2_with fail
     go_roundg (n-(q+1))
     case measure=>omega
     case rel=>exact⟨q+1,by omega,by omega,k9.out,t0,j4.out⟩
    have t4:((k1:Int) == 0)=false:=by simp;omega
    rw[t4]at hZ;have r3:Zae (L2.map RZ.q) q c≠0:=λe=>hz (m3.2 e);have t5:((q:Int) == (n:Int))=false:=beq_eq_false_iff_ne.2 (by omega);have F3:decide (q=n)=false:=decide_eq_false (by omega)
    have hp:Za0 (λi=>Zae (L2.map RZ.q) i c == 0) (L2.map RZ.q).length (L2.map RZ.q).length r=q:=by
     rw[I.out];exact Zg5 (by omega) x4 (by omega) (λi h1 h2=>by rw[r1.out i h1 h2];rfl) (λ_=>by simpa using r3)
    have g8:=Za ((Zl9 (f:=j) (ng:=ng) (last:=last) m9.out hp (by rw[I.out];omega)).symm.trans hE.out);have k8:=Za (Zq4 a4.out m9.out hp (by rw[I.out];omega));obtain⟨L3,i2⟩:∃ X,Zy L2 q r=X:=⟨_,rfl⟩;have j1:L3.map RZ.q=Zy (L2.map RZ.q) q r:=by rw[<- i2];exact Ze0 _ _ _ _
    have e0:Hid (L3.length=n):=Za (by rw[<- i2,Zdm];exact d6.out);have o3:=Za j1
    have g7:Hid (∀ i,i<n->(Zat L3 i).length=m):=Za (λi hi=>by
     rw[Zj2,j1,Zdo (by rw[I.out];exact h7) (by rw[I.out];exact O)];exact o1.out.1.1 _ (by rw[I.out];exact Zhl h7 O hi))
    have m6:Hid (∀ (i t:Nat),((Zat L3 i)[t]?.getD 0).natAbs<pw 200):=Za (λi t=>by
     rw[<- Zjt,j1,Zht (by rw[I.out];exact h7) (by rw[I.out];exact O)];exact o1.out.1.2 _ _)
    have u8:Hid ((Zat L3 r)[c]?.getD 0=Zae (L2.map RZ.q) q c):=Za (by
     rw[<- Zjt,j1,Zht (by rw[I.out];exact h7) (by rw[I.out];exact O),Zr4])
    have n0:Hid (∀ g ∈ L3.map RZ.g,g ∈ L0.map RZ.g):=Za (λg hg=>by
     rw[<- i2,Ze0]at hg;exact c9.out g (Zdi _ _ _ _ hg))
    have n2:=Za (λ(W1:World) (h1:Blk W1 gg 152 #[.slice (some ⟨go,0,none⟩) n cap,vby]) (h2:Blk W1 gr 3 #[.int .i64 r]) (h3:Blk W1 ga 3 #[.int .i64 q]) (h4:Blk W1 gn 4 #[.bool ng]) (h5:MatZ 150 39 W1 go L2) (a5:q≠r) =>
     Zyp gg gr ga gn go n cap q r ng vby L2 W1 h1 h2 h3 h4 h5 d6.out h7 O a5 (by have:=e4 go (.inl rfl);omega))
    rw[i2]at n2;replace hz:=Za hz;replace r3:=Za r3;replace hp:=Za hp;replace m3:=Za m3;replace m8:=Za m8;have br:(r:Int)<(n:Int):=by omega
    clear j1 fx l9;go_wp2_with fail;refine(hZ.out _).mono ?_;rintro e w5 ⟨rfl,C⟩;clear p0 p1 cx zx;have y0:=w0.below C w0.lt;have y1:=e9.below C e9.lt;have y2:=h9.below C h9.lt;have y3:=g6.below C g6.lt;have ya:=e8.below C e8.lt;have a6:=c8.below C;have i8:=h6.below C;have m7:Hid (Kept (λk=>k=go \/ k ∈ L0.map RZ.g \/ k=gr \/ k=gn \/ k=gl) W0 w5):=Za (q9.out.below C);have s3:=Zb C x0;have n3:=Zb C cq;have q8:=Zb C c1;clear x0 cq c1 w0 e9 h9 g6 e8 c8 h6 b5 b6 q9 zq C;rcases Classical.em (q=r)with a5|a5
    all_goals
     first
     | have m5:q=r:=a5
       have t6:((q:Int) == (r:Int))=true:=beq_iff_eq.2 (by omega);have C6:((q:Int) != (r:Int))=false:=by rw[bne,t6];rfl
       have t7:decide (q=r)=true:=decide_eq_true a5;obtain⟨ngz,a0⟩:∃ b:Bool,b=ng:=⟨_,rfl⟩;rw[<- a0]at y2;have u4:Hid ((ng != decide (q≠r))=ngz):=Za (by rw[a0,decide_eq_false (by omega:¬ q≠r)];cases ng <;> rfl);replace a0:=Za a0;have v5:L2=L3:=by rw[<- i2,a5];exact(Zro _ _).symm
       rw[v5]at a6;clear v5 i2 n2 m5;replace a5:=Za a5;obtain⟨wz,r6⟩:∃ x:World,x=w5:=⟨_,rfl⟩;subst r6
     | have t6:((q:Int) == (r:Int))=false:=beq_eq_false_iff_ne.2 (by omega)
       have C6:((q:Int) != (r:Int))=true:=by rw[bne,t6];rfl
       have t7:decide (q=r)=false:=decide_eq_false a5;obtain⟨ngz,a0⟩:∃ b:Bool,b=!ng:=⟨_,rfl⟩;have u4:Hid ((ng != decide (q≠r))=ngz):=Za (by rw[a0,decide_eq_true (by omega:q≠r)];cases ng <;> rfl);have hC:=Za (n2.out w5 y0 y1 ya y2 a6 a5)
       have j6:∀ k,(k=go \/ k=gn)->∃ t cs,Blk w5 k t cs/\NoLimb cs:=λk hk=>by
        rcases hk with rfl|rfl;exact a6.boxes _ (.inl rfl);exact⟨_,_,y2,Zfp (λx=>by simp)⟩
       replace j6:=Za j6;replace y0:=Za y0;replace y1:=Za y1;replace y3:=Za y3;replace i8:=Za i8;clear a6 ya y2 i2 n2;replace a5:=Za a5;replace a0:=Za a0;go_wp2_with fail;refine hC.out.mono ?_;rintro e w6 ⟨rfl,w2,y2,f9⟩;have E8:=e4 go (.inl rfl);have a6:=w2;replace y0:=f9.blk y0.out (by omega);replace y1:=f9.blk y1.out (by omega);replace y3:=f9.blk y3.out (by omega);replace i8:=f9.wd i8.out j6.out;replace m7:Hid (Kept (λk=>k=go \/ k ∈ L0.map RZ.g \/ k=gr \/ k=gn \/ k=gl) W0 w6):=Za (m7.out.and f9 (λk _ h=>by rcases h with h|h <;> simp[h]));clear w2 f9 hC s3 q8 n3;have ya:True:=trivial;have n3:True:=trivial;obtain⟨s3,-,-,-⟩:=y0.two;have q8:w6.cell? ⟨gr,0,none⟩=some (.int .i64 r):=by rw[y1.cell];rfl
       rw[<- a0.out]at y2;obtain⟨wz,r6⟩:∃ x:World,x=w6:=⟨_,rfl⟩;subst r6
    all_goals
     obtain⟨y,hy⟩:=Zal (L:=L3) (i:=r) (by rw[e0.out];exact O);have v9:y.q.length=m:=by rw[<- Zhf hy];exact g7.out r O
     obtain⟨cy,-⟩:=a6.cell hy;obtain⟨fy,-⟩:=a6.row hy;rw[v9]at cy;obtain⟨pn,pA,pk,pc,p0,p1,r5⟩:=fy.at_ (i:=c) (by rw[v9];omega);rw[<- Zhf hy]at r5;obtain⟨gp,j3⟩:∃ g,wz.heap.size=g:=⟨_,rfl⟩;obtain⟨Wp,s6,d5,qp,kW,kB,sP⟩:=Zt 39 #[.bool pn,.slice pA pk pc] (Qc wz.heap.size wz) (Qa _);have q6:Hid (MatZ 150 39 Wp go L3):=Za (a6.below d5);have E2:Hid (Wd Wp ln lA lk lc last):=Za (i8.below d5);have B9:Hid (Wd Wp pn pA pk pc ((Zat L3 r)[c]?.getD 0)):=Za (r5.below d5);have u3:Hid (Blk Wp gg 152 #[.slice (some ⟨go,0,none⟩) n cap,vby]):=Za (y0.below d5 y0.lt);have D4:Hid (Blk Wp gr 3 #[.int .i64 r]):=Za (y1.below d5 y1.lt);have C3:Hid (Blk Wp gn 4 #[.bool ngz]):=Za (y2.below d5 y2.lt);have D7:Hid (Blk Wp gl 39 #[.bool ln,.slice lA lk lc]):=Za (y3.below d5 y3.lt);have z6:Hid (Kept (λk=>k=go \/ k ∈ L0.map RZ.g \/ k=gr \/ k=gn \/ k=gl) W0 Wp):=Za (m7.out.below d5);have o7:Hid (gl<gp):=Za (by rw[<- j3];exact y3.lt);rw[j3]at qp;have E4:=Za qp;replace j3:=Za j3;have J:Hid (∀ k,gg<=k->k ∉ L3.map RZ.g):=Za (λk hk hm=>by have:=e4 k (.inr (n0.out k hm));omega);obtain⟨z5,-,-,-⟩:=u3.out.two;clear a6 i8 y0 y1 y2 y3 ya fy r5 qp kW kB sP m7 d5;go_wp2_with fail;(try rw[j3.out]);(try rw[s6]);clear s6 cy p0 p1 s3 n3 q8 z5;have l8:Hid (∀ k,k ∈ L3.map RZ.g->∃ t cs,Blk Wp k t cs/\NoLimb cs):=Za (λk hk=>q6.out.boxes k (.inr hk));have F0:Hid (go ∉ L3.map RZ.g):=Za (List.nodup_cons.1 q6.out.2.2).1
     go_loopg [72] n (λk iv wr=>∃ (i:Nat) (L4:List RZ),i+k=n/\iv=.int .i64 i/\MatZ 150 39 wr go L4/\Hid (L4.length=n)/\Hid (L4.map RZ.g=L3.map RZ.g)/\Hid (ClzTo L3 L4 r c last i)/\Kept (λk=>k ∈ L3.map RZ.g) Wp wr)
     case atStart=>exact⟨0,L3,by omega,rfl,q6.out,e0,Za rfl,Za (λj hj=>by rw[if_pos (Or.inr (Qz j))]),Qm _ _⟩
     case round =>
      obtain⟨i,L4,G1,rfl,c0,b7,i7,l4,T⟩:=hrel;have b0:=T.blk u3.out (J.out gg (Qa _));have b1:=T.blk D4.out (J.out gr (by omega));have b2:=T.blk C3.out (J.out gn (by omega));have b3:=T.blk D7.out (J.out gl (by omega));have bp:=T.blk E4.out (J.out gp (by have:=o7.out;omega));have f8:Wd wr pn pA pk pc ((Zat L3 r)[c]?.getD 0):=T.wd B9.out l8.out;have U:Wd wr ln lA lk lc last:=T.wd E2.out l8.out;obtain⟨x0,-,-,-⟩:=b0.two;have c1:wr.cell? ⟨gr,0,none⟩=some (.int .i64 r):=by rw[b1.cell];rfl
      have z1:=b1.frozen 0;obtain⟨l0,l1,x8,D8⟩:=b3.two;obtain⟨s0,s1,B8,B1⟩:=bp.two;cases gk with
      | zero =>
       obtain rfl:i=n:=by omega
       have t8:decide ((i:Int)<(i:Int))=false:=by simp
       have s4:L4.map RZ.q=Zdk (L3.map RZ.q) r c last:=ClzTo.done (by rw[e0.out];exact l4.out) (by rw[b7.out,e0.out]);obtain⟨X,hX,d7,q4,st⟩:=Zbe (B:=gl) pn pA pk pc (Qc gl wr) (Qa gl) b3;have m1:Blk X gr 3 #[.int .i64 r]:=by rw[<- hX];exact(b1.far d3 _).far d3 _
       have m2:Blk X gn 4 #[.bool ngz]:=by rw[<- hX];exact(b2.far d4 _).far d4 _
       have F8:X.cell? ⟨gr,0,none⟩=some (.int .i64 r):=by rw[m1.cell];rfl
       have F5:=m1.frozen 0
       have b8:Kept (λk=>k=gl \/ k=gr) wr (X.setCell ⟨gr,0,none⟩ (.int .i64 ((r:Int)+1))):=by
        rw[<- hX];exact(((Qm _ wr).set_ (p:=⟨gl,0,none⟩) (.inl (.inl rfl)) _).set_ (p:=⟨gl,1,none⟩) (.inl (.inl rfl)) _).set_ (p:=⟨gr,0,none⟩) (.inl (.inr rfl)) _
       have o:∀ k,(k=gl \/ k=gr)->∃ t cs,Blk wr k t cs/\NoLimb cs:=λk hk=>by
        rcases hk with rfl|rfl;exact⟨_,_,b3,Zgd _ _ _ _⟩;exact⟨_,_,b1,Zfp (λx=>by simp)⟩
       have g4:Hid (MatZ 150 39 (X.setCell ⟨gr,0,none⟩ (.int .i64 ((r:Int)+1))) go L4):=Za (c0.keptG b8 (λh=>by have:=e4 go (.inl rfl);omega) (λs hs h=>by
        have h1:s.g ∈ L3.map RZ.g:=by rw[<- i7.out];exact List.mem_map.2 ⟨s,hs,rfl⟩
        have:=e4 s.g (.inr (n0.out _ h1));omega) o)
       have g9:Hid (Wd (X.setCell ⟨gr,0,none⟩ (.int .i64 ((r:Int)+1))) pn pA pk pc ((Zat L3 r)[c]?.getD 0)):=Za (b8.wd f8 o);have A7:Hid (Blk (X.setCell ⟨gr,0,none⟩ (.int .i64 ((r:Int)+1))) gr 3 #[.int .i64 ((r:Int)+1)]):=Za (m1.set_ 0 _);have D1:Hid (Blk (X.setCell ⟨gr,0,none⟩ (.int .i64 ((r:Int)+1))) gn 4 #[.bool ngz]):=Za (m2.far (p:=⟨gr,0,none⟩) (Qi d1) _);have y6:Hid (Blk (X.setCell ⟨gr,0,none⟩ (.int .i64 ((r:Int)+1))) gl 39 #[.bool pn,.slice pA pk pc]):=Za (q4.far (p:=⟨gr,0,none⟩) (Qi d3) _);have A2:Hid (Kept (λk=>k=go \/ k ∈ L0.map RZ.g \/ k=gr \/ k=gn \/ k=gl) W0 (X.setCell ⟨gr,0,none⟩ (.int .i64 ((r:Int)+1)))):=Za ((z6.out.and T (λk _ h=>.inr (.inl (n0.out k h)))).and b8 (λk _ h=>by rcases h with h|h <;> simp[h]));have C5:Hid (Zan j (c+1) (r+1) (L4.map RZ.q) ngz ((Zat L3 r)[c]?.getD 0)=FIN):=Za (by rw[s4,o3.out,u8.out,<- u4.out];exact g8.out);have w4:Hid (okZ (pw 200) m j (c+1) (r+1) (L4.map RZ.q) ((Zat L3 r)[c]?.getD 0)):=Za (by rw[s4,o3.out,u8.out];exact k8.out);have k0:Hid (cols-(c+1)=j):=Za (by have:=hj.out;omega);have C1:Hid (∀ g ∈ L4.map RZ.g,g ∈ L0.map RZ.g):=Za (λg hg=>n0.out g (by rw[<- i7.out];exact hg));clear c0 T b0 b1 b2 b3 bp f8 U q4 m1 m2 b8 o s4 st d7;go_wp2_with fail;(try rw[hX]);go_wp2_with fail
       go_step3
       refine⟨rfl,?_⟩;refine⟨⟨c+1,r+1,ngz,_,pn,pA,pk,pc,L4,Zln rfl rfl rfl rfl rfl rfl rfl (by first|rfl|(show Value.int .i64 _=_;congr 1)) ⟨by omega,by omega,A7.out,D1.out,y6.out,g9.out,g4.out,b7.out,C1.out,by rw[k0.out];exact C5.out,by rw[k0.out];exact w4.out,A2.out⟩⟩,?_⟩;simp[colOf];omega
      | succ gk' =>
       obtain rfl:gk'=n-(i+1):=by omega
       have b4:i<n:=by omega
       have t8:decide ((i:Int)<(n:Int))=true:=decide_eq_true (by omega);have bi:(i:Int)<(n:Int):=by omega
       obtain⟨ri,i9⟩:=Zal (L:=L4) (i:=i) (by rw[b7.out];exact b4);obtain⟨ci,zi⟩:=c0.cell i9;obtain⟨rr,o0⟩:=Zal (L:=L4) (i:=r) (by rw[b7.out];exact O);obtain⟨cr,zr⟩:=c0.cell o0
       have p4:rr.q=Zat L3 r:=by
        have:=l4.out r (by rw[e0.out];exact O);rw[Zhf o0,if_pos (Qn (Qa r))]at this;exact this
       have r8:rr.q.length=m:=by rw[p4];exact g7.out r O
       rw[r8]at cr;by_cases d0:i<=r
       case pos =>
        have t9:decide ((i:Int)<=(r:Int))=true:=decide_eq_true (by omega);have z7:decide (i<=r)=true:=decide_eq_true d0;have v4:Hid (ClzTo L3 L4 r c last (i+1)):=Za (l4.out.pass d0);replace c0:=Za c0;replace T:=Za T;replace d0:=Za d0;clear b0 b1 b2 b3 bp f8 U;go_wp2_with fail
        go_roundg (n-(i+1))
        case measure=>omega
        case rel=>exact⟨i+1,L4,by omega,by go_num,c0.out,b7,i7,v4,T.out⟩
       have t9:decide ((i:Int)<=(r:Int))=false:=decide_eq_false (by omega);have z7:decide (i<=r)=false:=decide_eq_false d0
       have q5:ri.q=Zat L3 i:=by
        have:=l4.out i (by rw[e0.out];exact b4);rw[Zhf i9,if_pos (Or.inr (Qa i))]at this;exact this
       have p6:ri.q.length=m:=by rw[q5];exact g7.out i b4
       rw[p6]at ci;obtain⟨fi,-⟩:=c0.row i9;obtain⟨l2,hA,hk,l7,p0,p1,j0⟩:=fi.at_ (i:=c) (by rw[p6];omega);rw[q5]at j0;obtain⟨gh,j9⟩:∃ g,wr.heap.size=g:=⟨_,rfl⟩;obtain⟨Wh,w7,c6,qh,kW,kB,sh⟩:=Zt 39 #[.bool l2,.slice hA hk l7] (Qc wr.heap.size wr) (Qa _);have s9:Hid (MatZ 150 39 Wh go L4):=Za (c0.below c6);have s8:Hid (Wd Wh l2 hA hk l7 ((Zat L3 i)[c]?.getD 0)):=Za (j0.below c6);have s7:Hid (Wd Wh pn pA pk pc ((Zat L3 r)[c]?.getD 0)):=Za (f8.below c6);have w9:Hid (Wd Wh ln lA lk lc last):=Za (U.below c6);have y8:Hid (Blk Wh gg 152 #[.slice (some ⟨go,0,none⟩) n cap,vby]):=Za (b0.below c6 b0.lt);have C2:Hid (Blk Wh gr 3 #[.int .i64 r]):=Za (b1.below c6 b1.lt);have D5:Hid (Blk Wh gl 39 #[.bool ln,.slice lA lk lc]):=Za (b3.below c6 b3.lt);have bph:Hid (Blk Wh gp 39 #[.bool pn,.slice pA pk pc]):=Za (bp.below c6 bp.lt);have y7:Hid (Kept (λk=>k ∈ L3.map RZ.g) Wp Wh):=Za (T.below c6);have u2:Hid (gl<gh):=Za (by rw[<- j9];exact b3.lt);rw[j9]at qh;replace qh:=Za qh;replace j9:=Za j9;have h8:Hid (∀ k,k ∈ L3.map RZ.g->∃ t cs,Blk Wh k t cs/\NoLimb cs):=Za (λk hk=>s9.out.boxes k (.inr (by rw[i7.out];exact hk)));replace d0:=Za d0;clear c0 T b0 b1 b2 b3 bp f8 U j0 fi kW kB sh c6 zi zr cr;go_wp2_with fail;(try rw[j9.out]);(try rw[w7]);clear w7 p0 p1 ci x0 c1 z1 l0 l1 x8 D8 s0 s1 B8 B1
       go_loopg [86] m (λk iv wr=>∃ (t:Nat) (q3:List Int),t+k=m/\iv=.int .i64 t/\MatZ 150 39 wr go (L4.set i ⟨ri.g,q3⟩)/\Hid (q3.length=m)/\Hid (∀ s,q3[s]?.getD 0=if s<t then Int.fdiv ((Zat L3 i)[s]?.getD 0*(Zat L3 r)[c]?.getD 0-(Zat L3 i)[c]?.getD 0*(Zat L3 r)[s]?.getD 0) last else (Zat L3 i)[s]?.getD 0)/\Kept (λk=>k ∈ L3.map RZ.g) Wh wr)
       case atStart =>
        refine⟨0,ri.q,by omega,rfl,?_,Za p6,Za (λs=>by rw[if_neg (Nat.not_lt_zero s),q5]),Qm _ _⟩
        have e:L4.set i ⟨ri.g,ri.q⟩=L4:=by
         apply Qt;intro t;rw[Qf]
         split
         rename_i h;subst h;rw[if_pos (by rw[b7.out];exact b4),i9];rfl
        rw[e];exact s9.out
       case round =>
        obtain⟨t,q3,G0,rfl,b9,e6,r7,a1⟩:=hrel;cases gk with
        | zero =>
         obtain rfl:t=m:=by omega
         have C0:decide ((t:Int)<(t:Int))=false:=by simp
         have g5:Hid ((L4.set i ⟨ri.g,q3⟩).length=n/\(L4.set i ⟨ri.g,q3⟩).map RZ.g=L3.map RZ.g/\ClzTo L3 (L4.set i ⟨ri.g,q3⟩) r c last (i+1)):=Za (by
          refine⟨by rw[Qs];exact b7.out,?_,?_⟩;rw[Zcm (s:=⟨ri.g,q3⟩) i9 rfl];exact i7.out
          ·have o8:=d0.out
           refine l4.out.step (by rw[b7.out,e0.out]) (by rw[e0.out];exact b4) (by omega) ?_;refine rowZ_eq (by rw[e6.out,g7.out i b4]) (λs=>?_);rw[r7.out s,g7.out i b4])
         have f9:Hid (Kept (λk=>k ∈ L3.map RZ.g) Wp wr):=Za (y7.out.trans a1);replace b9:=Za b9;clear a1;go_wp2_with fail
         go_roundg (n-(i+1))
         case measure=>omega
         case rel=>exact⟨i+1,_,by omega,by go_num,b9.out,Za g5.out.1,Za g5.out.2.1,Za g5.out.2.2,f9.out⟩
        | succ gk3 =>
         obtain rfl:gk3=m-(t+1):=by omega
         have n6:t<m:=by omega
         have C0:decide ((t:Int)<(m:Int))=true:=decide_eq_true (by omega);have bt:(t:Int)<(m:Int):=by omega
         have b0:=a1.blk y8.out (J.out gg (Qa _));have b1:=a1.blk C2.out (J.out gr (by omega));have b3:=a1.blk D5.out (J.out gl (by omega));have bp:=a1.blk bph.out (J.out gp (by have:=o7.out;omega));have bh:=a1.blk qh.out (J.out gh (by have:=u2.out;omega));have f8:Wd wr pn pA pk pc ((Zat L3 r)[c]?.getD 0):=a1.wd s7.out h8.out;have j0:Wd wr l2 hA hk l7 ((Zat L3 i)[c]?.getD 0):=a1.wd s8.out h8.out;have U:Wd wr ln lA lk lc last:=a1.wd w9.out h8.out;have o8:=d0.out;obtain⟨cr,-⟩:=b9.cell (i:=r) (r:=rr) (by rw[Qf,if_neg (by omega)];exact o0);rw[r8]at cr;obtain⟨f3,-⟩:=b9.row (i:=i) (r:=⟨ri.g,q3⟩) (by rw[Qf,if_pos rfl,if_pos (by rw[b7.out];exact b4)]);obtain⟨f4,-⟩:=b9.row (i:=r) (r:=rr) (by rw[Qf,if_neg (by omega)];exact o0);obtain⟨n4,A4,k4,c4,x3,u7,r9⟩:=f4.at_ (i:=t) (by rw[r8];exact n6);rw[p4]at r9;obtain⟨n5,A5,k5,c5,u0,u1,r4⟩:=f3.at_ (i:=t) (by rw[show RZ.q ⟨ri.g,q3⟩=q3 from rfl,e6.out];exact n6)
         have p5:q3[t]?.getD 0=(Zat L3 i)[t]?.getD 0:=by
          have h1:=r7.out t;rw[if_neg (by omega)]at h1;exact h1
         simp only[p5]at r4;have v6:=f3.frozen (t*2);have u9:=f3.frozen (t*2+1);obtain⟨x0,-,-,-⟩:=b0.two;have c1:wr.cell? ⟨gr,0,none⟩=some (.int .i64 r):=by rw[b1.cell];rfl
         obtain⟨l0,l1,-,-⟩:=b3.two;obtain⟨s0,s1,-,-⟩:=bp.two;obtain⟨h0,h1,-,-⟩:=bh.two;have n7:((Zat L3 i)[t]?.getD 0*(Zat L3 r)[c]?.getD 0).natAbs<pw 400:=Ziv (m6.out i t) (m6.out r c);have n9:((Zat L3 i)[c]?.getD 0*(Zat L3 r)[t]?.getD 0).natAbs<pw 400:=Ziv (m6.out i c) (m6.out r t);have A9:Hid (((Zat L3 i)[t]?.getD 0*(Zat L3 r)[c]?.getD 0-(Zat L3 i)[c]?.getD 0*(Zat L3 r)[t]?.getD 0).natAbs<pw 4096):=Za (Qk (Zr0 n7 n9) (Zcn (by decide)));replace n7:=Za (Qk n7 (Zcn (by decide:400<=4096)));replace n9:=Za (Qk n9 (Zcn (by decide:400<=4096)));have D9:Hid (last≠0):=Za o1.out.2.1;replace b9:=Za b9;replace a1:=Za a1;clear f4 f3 b0 b1 b3 bp bh p5 o8;go_wp2_with fail
         have a2:Hid (∀ wx,Below wr.heap.size wr wx->wx.cell? ⟨ri.g,t*2,none⟩=some (.bool n5)/\wx.cell? ⟨ri.g,t*2+1,none⟩=some (.slice A5 k5 c5)/\wx.cell? ⟨gp,0,none⟩=some (.bool pn)/\wx.cell? ⟨gp,1,none⟩=some (.slice pA pk pc)/\wx.cell? ⟨gh,0,none⟩=some (.bool l2)/\wx.cell? ⟨gh,1,none⟩=some (.slice hA hk l7)/\wx.cell? ⟨gg,0,none⟩=some (.slice (some ⟨go,0,none⟩) n cap)/\wx.cell? ⟨gr,0,none⟩=some (.int .i64 r)/\wx.cell? ⟨go,r,none⟩=some (.slice (some ⟨rr.g,0,none⟩) m m)/\wx.cell? ⟨rr.g,t*2,none⟩=some (.bool n4)/\wx.cell? ⟨rr.g,t*2+1,none⟩=some (.slice A4 k4 c4)/\wx.cell? ⟨gl,0,none⟩=some (.bool ln)/\wx.cell? ⟨gl,1,none⟩=some (.slice lA lk lc)):=Za (λwx o=>⟨Zb o u0,Zb o u1,Zb o s0,Zb o s1,Zb o h0,Zb o h1,Zb o x0,Zb o c1,Zb o cr,Zb o x3,Zb o u7,Zb o l0,Zb o l1⟩);have f6:Below wr.heap.size wr wr.drew:=Zf (Qc _ _) 1;refine wp_heldS [22] hmx a2 f6 (λhxs9=>?_);refine Zgf 2 [0,1] rfl (by kernel_rfl) (a2.out _ f6) ?_
         iterate 2 (refine tk1 (v:=?_) rfl (Qn ⟨by kernel_rfl,?_⟩) ?_;rotate_left;(· intro W2 _;go_simp;try with_reducible rfl);try simp only[Qb,Zgy,Zge,Zgs,putG_a,putG_s,putG_z])
         refine tk0 ?_;refine Zje 15 [2,3,4,5,6,8,9,10,11,12,13,14,15,16,19] rfl (by kernel_rfl) (a2.out _ f6) ?_
         iterate 15 (refine tk1 (v:=?_) rfl (Qn ⟨by kernel_rfl,?_⟩) ?_;rotate_left;(· intro W2 hSw;(try dsimp only at hSw);go_simp;try with_reducible rfl);try simp only[Qb,Zgy,Zge,Zgs,putG_a,putG_s,putG_z])
         refine tk0 ?_;refine Ze (i:=7) rfl (by kernel_rfl) (λK hK=>?_);go_simp;refine(Zfo n5 pn A5 pA k5 c5 pk pc _ _ wr.drew (r4.below f6) (f8.below f6) n7.out).mono ?_;rintro e D6 ⟨o9,C7,B2,C4,B7,rfl,p3⟩;have c7:=f6.trans (o9.mono f6.size);refine hK.out _ _ (λ_=>a2.out _ c7) ?_;clear hK K
         try simp only[Qb,Zgy,Zge,Zgs]
         refine Ze (i:=17) rfl (by kernel_rfl) (λK hK=>?_);go_simp;refine(Zfo l2 n4 hA A4 hk l7 k4 c4 _ _ D6 (j0.below c7) (r9.below c7) n9.out).mono ?_;rintro e x6 ⟨j2,E6,B6,B3,D3,rfl,o5⟩;have i3:=c7.trans (j2.mono c7.size);refine hK.out _ _ (λ_=>a2.out _ i3) ?_;clear hK K
         try simp only[Qb,Zgy,Zge,Zgs]
         refine Ze (i:=18) rfl (by kernel_rfl) (λK hK=>?_);go_simp;refine(lsub_ok C7 E6 B2 B6 C4 B7 B3 D3 _ _ x6 (p3.below j2) o5 A9.out).mono ?_;rintro e D0 ⟨o2,E1,E0,z0,B4,rfl,o4⟩;have e5:=i3.trans (o2.mono i3.size);refine hK.out _ _ (λ_=>a2.out _ e5) ?_;clear hK K
         try simp only[Qb,Zgy,Zge,Zgs]
         refine Ze (i:=20) rfl (by kernel_rfl) (λK hK=>?_);go_simp;refine(Zor E1 ln E0 lA z0 B4 lk lc _ _ D0 o4 (U.below e5) D9.out).mono ?_;rintro e x9 ⟨p2,E5,C8,A0,A6,rfl,o6⟩;have a3:=e5.trans (p2.mono e5.size);refine hK.out _ _ (λ_=>a2.out _ a3) ?_;clear hK K
         try simp only[Qb,Zgy,Zge,Zgs]
         refine Zgf 1 [21] rfl (by kernel_rfl) (a2.out _ a3) ?_
         (refine tk1 (v:=?_) rfl (Qn ⟨by kernel_rfl,?_⟩) ?_;rotate_left;(· intro W2 _;go_simp;try with_reducible rfl);try simp only[Qb,Zgy,Zge,Zgs,putG_a,putG_s,putG_z])
         refine tk0 ?_;have a6:=b9.out.below a3;obtain⟨Z9,n8⟩:∃ W,(x9.setCell ⟨ri.g,t*2,none⟩ (.bool E5)).setCell ⟨ri.g,t*2+1,none⟩ (.slice C8 A0 A6)=W:=⟨_,rfl⟩;have u6:ri.g ∈ L3.map RZ.g:=by rw[<- i7.out];exact List.mem_map.2 ⟨ri,Qh i9,rfl⟩
         have E3:Hid (Kept (λk=>k ∈ L3.map RZ.g) Wh Z9):=Za (by rw[<- n8];exact((a1.out.below a3).set_ (p:=⟨ri.g,t*2,none⟩) (.inl u6) _).set_ (p:=⟨ri.g,t*2+1,none⟩) (.inl u6) _)
         have B5:Hid (MatZ 150 39 Z9 go (L4.set i ⟨ri.g,q3.set t (Int.fdiv ((Zat L3 i)[t]?.getD 0*(Zat L3 r)[c]?.getD 0-(Zat L3 i)[c]?.getD 0*(Zat L3 r)[t]?.getD 0) last)⟩)):=Za (by
          have h1:=a6.set_ (i:=i) (r:=⟨ri.g,q3⟩) (by rw[Qf,if_pos rfl,if_pos (by rw[b7.out];exact b4)]) (k:=t) (by rw[show RZ.q ⟨ri.g,q3⟩=q3 from rfl,e6.out];exact n6) o6;rw[List.set_set]at h1;rw[<- n8];exact h1)
         have f0:=Zk a3 u0 v6;have f1:=Zk a3 u1 u9;have g0:=Zb a3 u0;have g1:=Zb a3 u1;clear a6;refine Zm (i:=22) rfl (by kernel_rfl) (by kernel_rfl) (λK hK=>?_);go_simp;(try rw[n8]);refine hK.out _ _ ?_;clear hK K
         try simp only[Qb,Zgy,Zge,Zgs]
         refine Zj (by kernel_rfl) ?_ _;refine Ql ?_;clear n8 f0 f1 g0 g1 o9 j2 o2 p2 f6 c7 i3 e5 a3 a2 hxs9 u0 u1 v6 u9 x3 u7 s0 s1 h0 h1 x0 c1 cr l0 l1 p3 o5 o4 o6 r4 r9 b9 a1 f8 j0 U;go_wp2_with fail
         go_roundg (m-(t+1))
         case measure=>omega
         case rel=>exact⟨t+1,_,by omega,by go_num,B5.out,Za (by rw[Qs];exact e6.out),Za (Zwi (by rw[e6.out,g7.out i b4]) (by rw[g7.out i b4];exact n6) rfl r7.out),E3.out⟩
theorem Ze9{P:Program}{ops:Array Oper}{Q:Exit->Act->World->Prop}{md:Region.Mode}{L:List Nat}{S:World->Prop}{i j:Nat}{oi oj:Oper}{fuel:Nat}{listed:Array Bool}{a:Act}{w:World}(hi:ops[i]?=some oi)(hj:ops[j]?=some oj)(hr:Region.ready md ops listed=[i,j])
    (h1:∀ K':Act->World->Prop,Shut (∀ a w,(Zcv L (listed.setIfInBounds i true)=true->S w)->Zab P md ops Q L S fuel (listed.setIfInBounds i true) a w->K' a w)->if Region.wanted oi (yielded ops a.tmps)=true then Oper.wp P oi a w K' Q else K' (a.put oi.dst undef) w)
    (h2:∀ K':Act->World->Prop,Shut (∀ a w,(Zcv L (listed.setIfInBounds j true)=true->S w)->Zab P md ops Q L S fuel (listed.setIfInBounds j true) a w->K' a w)->if Region.wanted oj (yielded ops a.tmps)=true then Oper.wp P oj a w K' Q else K' (a.put oj.dst undef) w) :
    Zab P md ops Q L S (fuel+1) listed a w:=
 ⟨(λh0=>by rw[h0]at hr;cases hr),λk hk=>by
  rw[hr]at hk;rcases List.mem_cons.1 hk with e|e;subst e;exact wpOp_step hi (λK' hK=>h1 K' (λa w hS hW=>hK a w ⟨hS,hW⟩))
  ·rw[List.mem_singleton]at e;subst e;exact wpOp_step hj (λK' hK=>h2 K' (λa w hS hW=>hK a w ⟨hS,hW⟩))⟩
section
variable{P:Program}(w:World)
theorem Zk4(base:Nat)(t ty e:TypeId)(i:TypeInfo)(ht:P.underlying t=some (.slice e))(hi:P.info? e=some i)(hz:i.zero=some (.agg #[.bool false,.slice none 0 0]))
    (hs:i.size=2) (hby:i.bytes=32) (v:Value) (es:List WE) (hown:RowW e w base v es)
    (B:Nat) (A:Option Addr) (m c:Nat) (fs:List WE) (hr:Reads w B 2 A m (Zah fs)) (hm:fs.length=m) (h63:es.length+m<=1000) (hbase:base<=w.heap.size) :
    ∃ v' w',(Qy #[t,t] ty #[v,.slice A m c]).run P w=.ok v' w'/\RowW e w' base v' (es++fs)/\w.grownBy w' v.ownBlock/\(v'.ownBlock=v.ownBlock \/ ∀ k,v'.ownBlock=some k->w.heap.size<=k):=by
 rcases Nat.eq_zero_or_pos m with h0|h0
 ·subst h0
  obtain rfl:fs=[]:=List.eq_nil_of_length_eq_zero hm;rw[List.append_nil];rcases A with _|ad;exact⟨v,w,Zb6 w base t ty e i 2 ht hi v _ _ hown.own c,hown,World.grownBy.refl w _,.inl rfl⟩
  ·have hf:=run_firstCells_some (P:=P) w i.size 0 ad 0 c [] (by simp) (by simp)
   rcases hown with ⟨rfl,rfl⟩|⟨g,sp,rfl,h2,h3,h4⟩
   ·refine⟨.slice none 0 0,w,?_,.inl ⟨rfl,rfl⟩,World.grownBy.refl w _,.inl rfl⟩
    simp[Qy,run_underlying ht,sizeOf,typeInfo,hi,Builtin.lenOf,Builtin.firstCells,loadCells,loadCellsFrom]
   ·refine⟨_,w,?_,.inr ⟨g,sp,rfl,h2,h3,h4⟩,World.grownBy.refl w _,.inl rfl⟩
    simp[Qy,run_underlying ht,sizeOf,typeInfo,hi,Builtin.lenOf,Builtin.firstCells,loadCells,loadCellsFrom,storeCells]
 ·obtain⟨ad,rfl,_,hc⟩:=hr.2 h0
  have hl:(Zah fs).length=m*i.size:=by rw[Za4,hm,hs]
  have C:es.length*i.size=(Zah es).length:=by rw[Za4,hs]
  rcases hown with ⟨rfl,rfl⟩|⟨g,sp,rfl,h2,h3,h4⟩
  ·have f:=run_append_nil (P:=P) w t ty e i _ ht hi hz ad m c (Zah fs) hl hc h0 (by omega) (by rw[hby];omega)
   have h:=grownCap_ge w m 0 e;have o:=grownCap_le_maxLen w m 0 e (by unfold maxLen;simp only[List.length_nil]at h63;omega);refine⟨_,_,f,.inr ⟨w.heap.size,grownCap w m 0 e-m,?_,hbase,?_,?_⟩,⟨rfl,rfl,rfl,by simp,λk hk _=>Below.heap_alloc w.drew _ k hk⟩,.inr (λk hk=>by first|(simp[Value.ownBlock]at hk;omega)|(cases hk;exact Qa _))⟩;rw[Qx,hm,Qr h];rw[Qx,hm,Qr h];exact o
   ·have:=heap_alloc_new w.drew (.cells ((Zah fs).toArray++Qu (Value.agg #[.bool false,.slice none 0 0]).cells (grownCap w m 0 e-m)) e)
    unfold Blk;refine this.trans ?_;congr 1
    have hx:(Zah fs).toArray++Qu (Value.agg #[.bool false,.slice none 0 0]).cells (grownCap w m 0 e-m)=Zbk ([]++fs++Qq (grownCap w m 0 e-m) Zcj):=by
     apply Array.toList_inj.1;rw[Qv,show (Value.agg #[.bool false,.slice none 0 0]).cells=#[.bool false,.slice none 0 0] from rfl,Zic];simp[Zbk,Zct]
    rw[hx]
  ·by_cases hroom:m<=sp
   ·have f:=run_append_room (P:=P) w t ty e i ht hi g es.length (es.length+sp) _ h4 ad m c (Zah fs) hl hc (Zso fs) (by omega) (by rw[C,Za4,Za4];simp[Zbk,Za4];omega)
    refine⟨_,_,f,.inr ⟨g,sp-m,?_,h2,?_,?_⟩,⟨rfl,rfl,rfl,by simp[World.setRow],λk _ hk=>setRow_other w g k _ (λe'=>hk (by simp[Value.ownBlock,e']))⟩,.inl rfl⟩;rw[Qo,hm,show es.length+m+(sp-m)=es.length+sp by omega];rw[Qo,hm];omega
    ·refine(setRow_heap w g _ _ e _ h4).trans ?_
     congr 2;unfold Zbk;congr 1;rw[C];have I:Qq sp Zcj=Qq m Zcj++Qq (sp-m) Zcj:=by rw[List.replicate_append_replicate];congr 1;omega
     have J:(Zah fs).length=(Zah (Qq m Zcj)).length:=by rw[Za4,Za4,hm,List.length_replicate]
     simp only[Zct];rw[List.take_left,J,<- Qo,I,Zct,<- QF (Zah es),List.drop_left,QF]
   ·have y:∀ j u,(Zah es)[j]?=some u->w.cell? ((⟨g,0,none⟩:Addr).add j)=some u:=λj u hu=>by
      rw[Zh,Nat.zero_add,h4.cell];simp only[Zbk,List.getElem?_toArray,Zct];rw[List.getElem?_append_left (by rw[List.getElem?_eq_some_iff]at hu;exact hu.1)];exact hu
    have f:=run_append_grow (P:=P) w t ty e i _ ht hi hz ⟨g,0,none⟩ es.length (es.length+sp) (Zah es) C.symm y ad m c (Zah fs) hl hc (by omega) (by omega) (growslice_fits (by omega) (by rw[hby];omega));have h:=grownCap_ge w (es.length+m) (es.length+sp) e;have o:=grownCap_le_maxLen w (es.length+m) (es.length+sp) e (by unfold maxLen;omega);refine⟨_,_,f,.inr ⟨w.heap.size,grownCap w (es.length+m) (es.length+sp) e-(es.length+m),?_,hbase,?_,?_⟩,⟨rfl,rfl,rfl,by simp,λk hk _=>Below.heap_alloc w.drew _ k hk⟩,.inr (λk hk=>by first|(simp[Value.ownBlock]at hk;omega)|(cases hk;exact Qa _))⟩;rw[Qo,hm,Qr h];rw[Qo,hm,Qr h];exact o
    ·have:=heap_alloc_new w.drew (.cells ((Zah es).toArray++(Zah fs).toArray++Qu (Value.agg #[.bool false,.slice none 0 0]).cells (grownCap w (es.length+m) (es.length+sp) e-(es.length+m))) e)
     unfold Blk;refine this.trans ?_;congr 1
     have hx:(Zah es).toArray++(Zah fs).toArray++Qu (Value.agg #[.bool false,.slice none 0 0]).cells (grownCap w (es.length+m) (es.length+sp) e-(es.length+m))=Zbk (es++fs++Qq (grownCap w (es.length+m) (es.length+sp) e-(es.length+m)) Zcj):=by
      apply Array.toList_inj.1;rw[Qv,Qv,show (Value.agg #[.bool false,.slice none 0 0]).cells=#[.bool false,.slice none 0 0] from rfl,Zic];simp[Zbk,Zct]
     rw[hx]
theorem Zcg{o:Oper}{a:Act}{K:Act->World->Prop}{Q:Exit->Act->World->Prop}(s x:Operand)(t:TypeId)
    (ho:o.op=.call { callee:=.builtin .append,args:=#[s,x],argTypes:=#[t,t] })
    (base:Nat) (e:TypeId) (i:TypeInfo) (ht:P.underlying t=some (.slice e)) (hi:P.info? e=some i) (hz:i.zero=some (.agg #[.bool false,.slice none 0 0])) (hsi:i.size=2) (hby:i.bytes=32)
    (v:Value) (xs:List Int) (hs:a.eval s=v) (hown:OwnP e w base v xs)
    (B:Nat) (A:Option Addr) (m c:Nat) (fs:List WE) (hx:a.eval x=.slice A m c) (hr:Reads w B 2 A m (Zah fs)) (hm:fs.length=m) (hfs:∀ e ∈ fs,Lim w e.A e.n e.c e.l/\e.ok=true)
    (h63:xs.length+m<=1000) (hbase:base<=w.heap.size)
    (h:∀ v' w',OwnP e w' base v' (xs++fs.map WE.num)->w.grownBy w' v.ownBlock->(∀ (A:Option Addr) (n c:Nat) (l:List Nat),Lim w A n c l->Lim w' A n c l)->(v'.ownBlock=v.ownBlock \/ ∀ k,v'.ownBlock=some k->w.heap.size<=k)->K (a.put o.dst v') w'):o.wp P a w K Q:=by
 obtain⟨es,h1,h2,rfl⟩:=hown;rw[Qe]at h63;obtain⟨v',w',f,h3,h4,h5⟩:=Zk4 (P:=P) w base t o.type e i ht hi hz hsi hby v es h1 B A m c fs hr hm h63 hbase;unfold Oper.wp execOp;simp only[ho,resolve,invoke,builtin,Sem.run_bind,Sem.run_pure,Result.andThen_ok,List.map_toArray,QA,QE,hs,hx,f];have hk:∀ (A:Option Addr) (n c:Nat) (l:List Nat),Lim w A n c l->Lim w' A n c l:=λ_ _ _ _ hL=>h1.keep h4 hL;refine h v' w' ⟨es++fs,h3,λe he=>?_,by rw[QI]⟩ h4 hk h5;rcases List.mem_append.1 he with he|he;exact⟨hk _ _ _ _ (h2 e he).1,(h2 e he).2⟩;exact⟨hk _ _ _ _ (hfs e he).1,(hfs e he).2⟩
end
