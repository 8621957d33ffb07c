/- The reference's Inverted, Inverse. Package linear: -/
import Derived.Deep.LoopGhost
import Derived.ProofKit
import Derived.Deep.Slices
import Derived.Deep.Fields
import Derived.ChangeSame
import Derived.Test.YthappeninglakaaGreatProg
import Derived.Test.YthappeninglakaaGreatZt17
set_option maxRecDepth 100000
set_option maxHeartbeats 4000000
set_option linter.unusedSimpArgs false
set_option linter.unusedVariables false
namespace Go.Proofs.YthappeninglakaaGreat
open Go.RowKit
open Nat renaming le_trans→Qa,lt_of_le_of_lt→Qb,le_refl→Qc,mul_le_mul→Qi,zero_le→Qm,lt_or_ge→Qw,lt_of_lt_of_le→QB,mul_one→QD
open List renaming getElem?_eq_none→Qd,mem_of_getElem?→Qe,getElem?_map→Qf,replicate→Qg,getElem?_eq_getElem→Qh,getElem?_range→Qk,mem_singleton→Ql,length_replicate→Qo,getElem?_append_right→Qr,getElem?_append_left→Qs,getElem_mem→Qt,all_eq_true→Qu,getElem?_replicate→Qx,length_map→Qy
open Act renaming put→Qj
open Bool renaming and_eq_true→Qn,or_eq_false_iff→Qq
open Option renaming map_some→Qp,getD_some→Qv
open Rat renaming intCast_natCast→Qz,num_divInt_den→QA
open Int renaming natAbs_natCast→QC
open Below renaming refl→QE
attribute [local go_sem] Zg
def Zfz(n j:Nat):List Rat:=(List.range n).map λk=>if j=k then 1 else 0
def Zbe(Q:List (List Rat))(n i t:Nat):List (List Rat):=(List.range n).map λj=>Q[j]?.getD []++if j<i then Zfz n j else if j=i then (Zfz n j).take t else []
theorem Zpi(Q:List (List Rat))(n i t:Nat):(Zbe Q n i t).length=n:=by unfold Zbe;simp
theorem Zkz{Q:List (List Rat)}{n i t j:Nat}(hj:j<n):(Zbe Q n i t)[j]?.getD []=Q[j]?.getD []++if j<i then Zfz n j else if j=i then (Zfz n j).take t else []:=by
 unfold Zbe;rw[Qf,Qk hj];rfl
theorem Zic(n j:Nat):(Zfz n j).length=n:=by unfold Zfz;simp
theorem Zmz(x y:Value)(W:World):(callFunc 81 #[x,y]).run Tryz.prog W=.ok (.enter 81 #[x,y]) W:=by simp[go_sem]
def FPart(t:TypeId)(w:World)(g:Nat)(qs:List Rat)(rest:Nat):Prop:=∃ es zs:List FE,Blk w g t (Z0 (es++zs))/\zs.length=rest/\(∀ e ∈ es,e.in_ w)/\es.map FE.q=qs
section
variable{t:TypeId}{w w':World}{g rest:Nat}{qs:List Rat}
theorem FPart.below(h:FPart t w g qs rest)(hb:Below w.heap.size w w'):FPart t w' g qs rest:=by
 obtain⟨es,zs,h1,h2,h3,h4⟩:=h;exact⟨es,zs,Zc hb h1,h2,λe he=>(h3 e he).below hb,h4⟩
theorem FPart.raw(h:FPart t w g qs rest):FRaw t w g (qs.length+rest):=by
 obtain⟨es,zs,h1,h2,h3,rfl⟩:=h;exact⟨_,h1,by simp[h2]⟩
theorem FPart.own(h:FPart t w g qs 0):FOwn t w g qs:=by
 obtain⟨es,zs,h1,h2,h3,h4⟩:=h;exact⟨es,zs,h1,h3,h4⟩
theorem FPart.push(h:FPart t w g qs (rest+1)){na:Bool}{A:Option Addr}{k c:Nat}{nb:Bool}{B:Option Addr}{m d:Nat}{r:Rat}(hf:Fr w na A k c nb B m d r):FPart t (Zgb w g qs.length na A k c nb B m d) g (qs ++ [r]) rest:=by
 obtain⟨es,zs,h1,h2,h3,rfl⟩:=h
 obtain⟨z,f,rfl⟩:∃ z f,zs=z::f:=by
  cases zs with
  | nil=>simp at h2
  | cons z f=>exact⟨z,f,rfl⟩
 have hn:=Zcb (es++z::f);have h4:=(((h1.set_ (es.length*4) (.bool na)).set_ (es.length*4+1) (.slice A k c)).set_ (es.length*4+2) (.bool nb)).set_ (es.length*4+3) (.slice B m d);have hs:=Zhl (es:=es++z::f) (i:=es.length) ⟨na,A,k,c,nb,B,m,d,r⟩ Gh;dsimp only at hs;rw[hs,List.set_append_right _ _ (Qc _),Nat.sub_self,List.set_cons_zero]at h4;refine⟨es ++ [⟨na,A,k,c,nb,B,m,d,r⟩],f,?_,by simpa using h2,λe he=>?_,by simp⟩;rw[List.append_assoc,List.singleton_append,Qy];exact h4;rw[Qy];rcases List.mem_append.1 he with he|he
 ·obtain⟨a,b⟩:=h3 e he
  exact⟨⟨a.1,a.2.1,Zgc a.2.2 h1 hn⟩,⟨b.1,b.2.1,Zgc b.2.2 h1 hn⟩⟩
 rw[Ql]at he;subst he;exact⟨⟨hf.1.1,hf.1.2.1,Zgc hf.1.2.2 h1 hn⟩,⟨hf.2.1,hf.2.2.1,Zgc hf.2.2.2 h1 hn⟩⟩
end
theorem Zx5{n i:Nat}(hi:i<n):(Qg n (0:Rat)).set i 1=Zfz n i:=by
 unfold Zfz;apply List.ext_getElem?;intro k;rw[List.getElem?_set,Qo,Qf];by_cases hk:k<n
 ·rw[Qk hk,Qx,Gx hk,Qp]
  by_cases h:i=k;rw[Gx h,Gx hi,Gx h];rw[Gw h,Gw h]
 rw[Qx,Gw hk,Gw Gk,Qd (by simpa using hk)];rfl
theorem Cs{G:Prop}(h:G:=by
 rw[<- hZ];exact Zjg (hB.trans (aa.mono (by rw[<- hg];exact hB.size))) (Nat.le_refl _)):G:=h
theorem Zta(gx:Nat)(A:Option Addr)(n c i:Nat)(w:World)(hx:Blk w gx 25 #[.slice A n c])(hn9:n<=900)(hin:i<n) :
    Calls Tryz.prog 81 #[.int .i64 i,.pointer (some ⟨gx,0,none⟩)] w λe w'=>∃ A c,e=.returned (.slice A n c)/\Below w.heap.size w w'/\FL w' A n c (Zfz n i):=by
 obtain⟨iF,hi,J,O,T⟩:=info_parts Zfl;have I:=Zu9 (P:=Tryz.prog) 35 41 Tryz.underlying35 hi J O T (n:Int) n rfl Gk w;obtain⟨W0,u⟩:=Gz (w.alloc (.cells (Z0 (Qg n Zau)) 41));obtain⟨g,hg⟩:=Gz w.heap.size;rw[u,hg]at I;have U:Below g w W0:=by rw[<- u,<- hg];exact(QE _ _).alloc (Qc _) _
 have y:FPart 41 W0 g [] n:=⟨[],Qg n Zau,by rw[<- u,<- hg];exact Blk.new _ _ _,by simp,λe he=>(by cases he),rfl⟩;have V:=hx.cell 0;simp at V;replace y:=Za y;rw[hg];clear u;go_in;go_wp2_with fail
 go_loopg [11] n (λj kv wr=>∃ k:Nat,k+j=n/\kv=.int .i64 k/\FPart 41 wr g (Qg k 0) (n-k)/\Below g w wr)
 case atStart=>exact⟨0,by omega,rfl,y.out,U⟩
 case round =>
  clear y I;obtain⟨k,a1,rfl,hP,hB⟩:=hrel;cases gk with
  | zero =>
   obtain rfl:k=n:=Gk;have t1:decide ((k:Int)<(k:Int))=false:=Gh;rw[Nat.sub_self]at hP;have bi:(i:Int)<(k:Int):=Gk;have Y:(0:Int)<=(i:Int):=Gk;replace hP:=Za hP;go_wp2_with fail;refine(Zq8 1 1 wr Gj Gj Gj Gj).mono ?_;rintro e w2 ⟨aa,n6,A6,k6,c6,m6,B6,j6,d6,rfl,o⟩;rw[Zfg]at o;have f:=hP.out.below aa;have h:(Qg k (0:Rat)).length=k:=Qo ..;obtain⟨x0,x1,x2,x3,x4,x5,x6,x7,y0,y1,y2,y3⟩:=f.raw.cells (i:=i) (by rw[h];omega);have z0:=f.raw.frozen (i*4);have z1:=f.raw.frozen (i*4+1);have z2:=f.raw.frozen (i*4+2);have z3:=f.raw.frozen (i*4+3);obtain⟨Z,hZ⟩:=Gz (Zgb w2 g i n6 A6 k6 c6 m6 B6 j6 d6)
   have hO:FOwn 41 Z g (Zfz k i):=by
    rw[<- Zx5 hin,<- hZ];exact f.own.set_ (by rw[h];exact hin) o
   have C:Below g w Z:=by
    exact Cs
   unfold Zgb at hZ;replace hO:=Za hO;clear f o hP;go_wp2_with fail;(try rw[hZ]);go_wp2_with fail;go_ret;have h1:=hO.out.fl (c:=k) (by rw[Zic];exact Qc _) (by unfold maxLen;omega);rw[Zic]at h1;exact⟨_,_,rfl,C,h1⟩
  | succ j =>
   obtain rfl:j=n-(k+1):=Gk;have a0:k<n:=Gk;have t1:decide ((k:Int)<(n:Int))=true:=Gv Gk;have bi:(k:Int)<(n:Int):=Gk;have Y:(0:Int)<=(k:Int):=Gk;replace hP:=Za hP;go_wp2_with fail;refine(Zq8 0 1 wr Gj Gj Gj Gj).mono ?_;rintro e w2 ⟨aa,n6,A6,k6,c6,m6,B6,j6,d6,rfl,o⟩;rw[Zfg]at o;have f:=hP.out.below aa;have h:(Qg k (0:Rat)).length=k:=Qo ..;obtain⟨x0,x1,x2,x3,x4,x5,x6,x7,y0,y1,y2,y3⟩:=f.raw.cells (i:=k) (by rw[h];omega);have z0:=f.raw.frozen (k*4);have z1:=f.raw.frozen (k*4+1);have z2:=f.raw.frozen (k*4+2);have z3:=f.raw.frozen (k*4+3);obtain⟨Z,hZ⟩:=Gz (Zgb w2 g k n6 A6 k6 c6 m6 B6 j6 d6)
   have hO:FPart 41 Z g (Qg (k+1) 0) (n-(k+1)):=by
    rw[show n-k=n-(k+1)+1 by omega]at f;have h1:=f.push o;rw[h,hZ]at h1;rw[List.replicate_succ'];exact h1
   have C:Below g w Z:=by
    exact Cs
   unfold Zgb at hZ;replace hO:=Za hO;clear f o hP;go_wp2_with fail;(try rw[hZ]);go_wp2_with fail
   go_roundg (n-(k+1))
   case measure=>omega
   case rel=>exact⟨k+1,by omega,by go_num,hO.out,C⟩
section
variable{k n m:Nat}{R:List (List Rat)}
end
theorem Zgw{Q:List (List Rat)}{n:Nat}(hrow:∀ i,i<n->(Q[i]?.getD []).length=n)(hq:Q.length=n)(i j:Nat):Zi (Zbe Q n n 0) i j=if i<n then (if j<n then Zi Q i j else if j-n<n then (if i=j-n then 1 else 0)else 0)else 0:=by
 by_cases hi:i<n
 ·rw[Gx hi]
  unfold Zi;rw[Zkz hi,Gx hi];have hr:=hrow i hi;by_cases hj:j<n;rw[Gx hj,Qs Gk];rw[Gw hj,Qr Gk,hr];unfold Zfz;rw[Qf];by_cases hjn:j-n<n;rw[Gx hjn,Qk hjn];rfl;rw[Gw hjn,Qd Gg];rfl
 rw[Gw hi];unfold Zi;rw[Qd (l:=Zbe Q n n 0) (by rw[Zpi];omega)];rfl
theorem Zr9{n:Nat}(f g:Nat->Rat):Zu n (λi=>f i+g i)=Zu n f+Zu n g:=by
 exact Ft
theorem Zkc{n:Nat}(f g:Nat->Rat):Zu n (λi=>f i-g i)=Zu n f-Zu n g:=by
 exact Ft
theorem Zw1(ws:List Int)(a b:Nat->Int)(n:Nat):Zce ws a b n=Zce ws b a n:=by
 induction n with
 | zero=>rfl
 | succ n ih=>simp only[Zce];rw[ih,Int.mul_comm (a n)]
section
variable(rs:List RI)(rr ws:List Int)(x:Nat->Rat)
end
section
variable{rs:List RI}{rr ws:List Int}{x:Nat->Rat}{n m:Nat}
end
def B40(z:Int):Prop:=z.natAbs<=1099511627776
section
variable{D M N:Nat}{q:Rat}
theorem CD.small(h:CD D M q)(hD:0<D):q.num.natAbs<=M/\q.den<=D:=by
 obtain⟨z,e,hz⟩:=h
 have f:((D:Int):Rat)≠0:=by
  intro h0;have:=Rat.intCast_inj.1 (show ((D:Int):Rat)=((0:Int):Rat) by simpa using h0);omega
 have e2:((D:Int):Rat)*q=(z:Rat):=by
  have h2:((D:Int):Rat)=(D:Rat):=Qz D;rw[h2]at f ⊢;rw[e]
  grind
 exact Zex ⟨z,e2,hz⟩ ⟨(D:Int),rfl,by simp⟩ f
end
theorem Zwo{ws:List Int}{a b:Nat->Int}:∀ (n:Nat),(∀ r,r<n->B40 (Zer ws r)/\B40 (a r)/\B40 (b r))->(Zce ws a b n).natAbs<=n*(1099511627776*(1099511627776*1099511627776))
 | 0,_=>by simp[Zce]
 | n+1,h=>by
  have ih:=Zwo n (λr hr=>h r Gk);obtain⟨h1,h2,h3⟩:=h n Gk
  have h4:((Zer ws n)*(a n*b n)).natAbs<=1099511627776*(1099511627776*1099511627776):=by
   rw[Int.natAbs_mul,Int.natAbs_mul];exact Qi h1 (Qi h2 h3)
  have h5:Zce ws a b (n+1)=Zce ws a b n+Zer ws n*(a n*b n):=rfl;rw[h5,Nat.succ_mul];exact Qa (Int.natAbs_add_le _ _) (Nat.add_le_add ih h4)
theorem Zyw:200*(1099511627776*(1099511627776*1099511627776))<=pw 4:=by decide +kernel
theorem Z0t{ws:List Int}{a b:Nat->Int}{n:Nat}(hn:n<=200)(h:∀ r,r<n->B40 (Zer ws r)/\B40 (a r)/\B40 (b r)):(Zce ws a b n).natAbs<=pw 4:=
 Qa (Zwo n h) (Qa (Qi hn (Qc _)) Zyw)
theorem Zzw{a b i j:Nat}(ha:a<=pw i)(hb:b<=pw j):a*b<=pw (i+j):=by rw[Zc8];exact Qi ha hb
theorem k_pw{n:Nat}(h:n<=4294967296):n<=pw 1:=by
 have:pw 1=4294967296:=GY;rw[this];exact h
theorem sm_addA{x y z v:Int}(hx:x.natAbs<pw 1000)(hy:y.natAbs<pw 1000)(hz:z.natAbs<pw 1000)(hv:v.natAbs<pw 1000):(x*y+z*v).natAbs<pw 4096:=by
 exact IR
theorem Z0c(a b:Rat):Rat.divInt (a.num*b.den+b.num*a.den) ((a.den:Int)*(b.den:Nat))=a+b:=by
 have ha:((a.den:Nat):Int)≠0:=by have:=a.den_pos;omega
 have hb:((b.den:Nat):Int)≠0:=by have:=b.den_pos;omega
 rw[<- Rat.divInt_add_divInt _ _ ha hb,QA,QA]
theorem Zui(x y:Value)(W:World):(callFunc 159 #[x,y]).run Tryz.prog W=.ok (.enter 159 #[x,y]) W:=by simp[go_sem]
theorem Add1_ok(na nb na' nb':Bool)(A B A' B':Option Addr)(n c m d n' c' m' d':Nat)(a b:Rat)(w:World)(ha:Fr w na A n c nb B m d a)(hb:Fr w na' A' n' c' nb' B' m' d' b)
    (h1:(a.num*b.den).natAbs<pw 4096) (h2:(b.num*a.den).natAbs<pw 4096) (hs:(a.num*b.den+b.num*a.den).natAbs<pw 4096) (ht:((a.den:Int)*(b.den:Nat)).natAbs<pw 4096) :
    Calls Tryz.prog 159 #[.agg #[.bool na,.slice A n c,.bool nb,.slice B m d],.agg #[.bool na',.slice A' n' c',.bool nb',.slice B' m' d']] w (Zoy w (a.num*b.den+b.num*a.den) ((a.den:Int)*(b.den:Nat))):=by
 obtain⟨W0,Y,T,⟨q0,q1,q2,q3⟩,s0⟩:=Zfr w 41 #[.bool na,.slice A n c,.bool nb,.slice B m d] 41 #[.bool na',.slice A' n' c',.bool nb',.slice B' m' d'] 39 #[.bool false,.slice none 0 0] 39 #[.bool false,.slice none 0 0];have hmx:=Gt;have hA:=Za (ha.below T);have hD:=Za (hb.below T);replace hs:=Za hs;replace ht:=Za ht;replace h1:=Za h1;replace h2:=Za h2;have sz:=Za T.size;have hB:=Za T;clear ha hb T s0;replace q0:=Za q0;replace q1:=Za q1;replace q2:=Za q2;replace q3:=Za q3;obtain⟨a0,a1,a2,a3,-⟩:=q0.out.four;obtain⟨b0,b1,b2,b3,-⟩:=q1.out.four;replace Y:=Za Y;go_in;go_wp2_with fail;rw[Y.out];clear Y;refine Zx [19] (λW'=>W'.cell? ⟨w.heap.size,0,none⟩=some (.bool na)/\W'.cell? ⟨w.heap.size,1,none⟩=some (.slice A n c)/\W'.cell? ⟨w.heap.size,2,none⟩=some (.bool nb)/\W'.cell? ⟨w.heap.size,3,none⟩=some (.slice B m d)/\W'.cell? ⟨w.heap.size+1,0,none⟩=some (.bool na')/\W'.cell? ⟨w.heap.size+1,1,none⟩=some (.slice A' n' c')/\W'.cell? ⟨w.heap.size+1,2,none⟩=some (.bool nb')/\W'.cell? ⟨w.heap.size+1,3,none⟩=some (.slice B' m' d')) hmx ⟨a0,a1,a2,a3,b0,b1,b2,b3⟩ (λ_=>?_);refine Zj5 8 [0,1,3,4,10,11,12,13] rfl Gi ⟨a0,a1,a2,a3,b0,b1,b2,b3⟩ ?_
 iterate 8 (refine tkA ?_;try simp only[Qj,Zg7,Zgl,Zg1,Gr,Gq,Gp])
 refine tk0 ?_;refine wpAnyL_o 2 λK hK=>?_;go_simp;refine(Zfe na nb na' nb' A B A' B' n c m d n' c' m' d' a b W0.drew hA.out hD.out h1.out).mono ?_;rintro e w1 ⟨h,nu,U,k1,u,rfl,hU⟩;replace h:=Zs h;replace hU:=Za hU;replace q0:=Gm h q0;replace q1:=Gm h q1;replace q2:=Gm h q2;replace q3:=Gm h q3;replace hA:=Za (hA.out.below h);replace hD:=Za (hD.out.below h);replace hB:=Za (hB.out.trans (h.mono sz.out));replace sz:=Za (Qa sz.out h.size);clear a0 a1 a2 a3 b0 b1 b2 b3;obtain⟨a0,a1,a2,a3,-⟩:=q0.out.four;obtain⟨b0,b1,b2,b3,-⟩:=q1.out.four;clear h;refine hK.out _ _ (λ_=>⟨a0,a1,a2,a3,b0,b1,b2,b3⟩) ?_;clear hK K
 try simp only[Qj,Zg7,Zgl,Zg1]
 refine wpAnyL_o 5 λK hK=>?_;go_simp;refine(Zfe na' nb' na nb A' B' A B n' c' m' d' n c m d b a w1 hD.out hA.out h2.out).mono ?_;rintro e w2 ⟨y,nv,V,k2,v,rfl,hV⟩;replace hU:=Za (hU.out.below y);replace hV:=Za hV;replace q0:=Gm y q0;replace q1:=Gm y q1;replace q2:=Gm y q2;replace q3:=Gm y q3;replace hA:=Za (hA.out.below y);replace hD:=Za (hD.out.below y);replace hB:=Za (hB.out.trans (y.mono sz.out));replace sz:=Za (Qa sz.out y.size);clear a0 a1 a2 a3 b0 b1 b2 b3;obtain⟨a0,a1,a2,a3,-⟩:=q0.out.four;obtain⟨b0,b1,b2,b3,-⟩:=q1.out.four;clear y;refine hK.out _ _ (λ_=>⟨a0,a1,a2,a3,b0,b1,b2,b3⟩) ?_;clear hK K
 try simp only[Qj,Zg7,Zgl,Zg1]
 refine wpAnyL_o 6 λK hK=>?_;go_simp;refine(Zk1 nu nv U V k1 u k2 v _ _ w2 hU.out hV.out).mono ?_;rintro e w3 ⟨I,np,P,k,q,code,rfl,hR⟩;have hP:=Za (hR.small hs.out);have O:=hR.code0 hs.out;subst O;clear hs hR hU hV;replace q0:=Gm I q0;replace q1:=Gm I q1;replace q2:=Gm I q2;replace q3:=Gm I q3;replace hA:=Za (hA.out.below I);replace hD:=Za (hD.out.below I);replace hB:=Za (hB.out.trans (I.mono sz.out));replace sz:=Za (Qa sz.out I.size);clear a0 a1 a2 a3 b0 b1 b2 b3;obtain⟨a0,a1,a2,a3,-⟩:=q0.out.four;obtain⟨b0,b1,b2,b3,-⟩:=q1.out.four;clear I;refine hK.out _ _ (λ_=>⟨a0,a1,a2,a3,b0,b1,b2,b3⟩) ?_;clear hK K
 try simp only[Qj,Zg7,Zgl,Zg1]
 refine Zj5 2 [7,8] rfl Gi ⟨a0,a1,a2,a3,b0,b1,b2,b3⟩ ?_
 iterate 2 (refine tkA ?_;try simp only[Qj,Zg7,Zgl,Zg1,Gr,Gq,Gp])
 refine tk0 ?_;refine wpAnyL_o 9 λK hK=>?_;go_simp;refine(Zd3 np P k q w3).mono ?_;rintro e w4 ⟨rfl,C⟩;replace hP:=Za (hP.out.below C);replace q0:=Gm C q0;replace q1:=Gm C q1;replace q2:=Gm C q2;replace q3:=Gm C q3;replace hA:=Za (hA.out.below C);replace hD:=Za (hD.out.below C);replace hB:=Za (hB.out.trans (C.mono sz.out));replace sz:=Za (Qa sz.out C.size);clear a0 a1 a2 a3 b0 b1 b2 b3;obtain⟨a0,a1,a2,a3,-⟩:=q0.out.four;obtain⟨b0,b1,b2,b3,-⟩:=q1.out.four;clear C;refine hK.out _ _ (λ_=>⟨a0,a1,a2,a3,b0,b1,b2,b3⟩) ?_;clear hK K
 try simp only[Qj,Zg7,Zgl,Zg1]
 refine wpAnyL_o 14 λK hK=>?_;go_simp;refine(Zjb nb nb' B B' m d m' d' a.den b.den w4 hA.out.2 hD.out.2).mono ?_;rintro e w5 ⟨o,a4,P',k',q',code,rfl,hR⟩;replace hP:=Za (hP.out.below o);have J:=Za (hR.small ht.out);have O:=hR.code0 ht.out;subst O;clear ht hR;replace q0:=Gm o q0;replace q1:=Gm o q1;replace q2:=Gm o q2;replace q3:=Gm o q3;replace hA:=Za (hA.out.below o);replace hD:=Za (hD.out.below o);replace hB:=Za (hB.out.trans (o.mono sz.out));replace sz:=Za (Qa sz.out o.size);clear a0 a1 a2 a3 b0 b1 b2 b3;obtain⟨a0,a1,a2,a3,-⟩:=q0.out.four;obtain⟨b0,b1,b2,b3,-⟩:=q1.out.four;clear o;refine hK.out _ _ (λ_=>⟨a0,a1,a2,a3,b0,b1,b2,b3⟩) ?_;clear hK K
 try simp only[Qj,Zg7,Zgl,Zg1]
 refine Zj5 2 [15,16] rfl Gi ⟨a0,a1,a2,a3,b0,b1,b2,b3⟩ ?_
 iterate 2 (refine tkA ?_;try simp only[Qj,Zg7,Zgl,Zg1,Gr,Gq,Gp])
 refine tk0 ?_;refine wpAnyL_o 17 λK hK=>?_;go_simp;refine(Zd3 a4 P' k' q' w5).mono ?_;rintro e w6 ⟨rfl,f⟩;replace hP:=Za (hP.out.below f);replace J:=Za (J.out.below f);replace q0:=Gm f q0;replace q1:=Gm f q1;replace q2:=Gm f q2;replace q3:=Gm f q3;replace hA:=Za (hA.out.below f);replace hD:=Za (hD.out.below f);replace hB:=Za (hB.out.trans (f.mono sz.out));replace sz:=Za (Qa sz.out f.size);clear a0 a1 a2 a3 b0 b1 b2 b3;obtain⟨a0,a1,a2,a3,-⟩:=q0.out.four;obtain⟨b0,b1,b2,b3,-⟩:=q1.out.four;clear f;obtain⟨x0,x1,f0,f1⟩:=q2.out.two;refine hK.out _ _ (λ_=>⟨a0,a1,a2,a3,b0,b1,b2,b3⟩) ?_;clear hK K
 try simp only[Qj,Zg7,Zgl,Zg1]
 refine wpAnyL_o 18 λK hK=>?_;go_simp;obtain⟨W5,a7,a8,a5,kW,kB,s5⟩:=Zar np P k q hB.out Gk q2.out;rw[a7];clear a7 x0 x1 f0 f1 a0 a1 a2 a3 b0 b1 b2 b3 hA hD;replace q0:=kB _ _ _ Gk q0.out;replace q1:=kB _ _ _ Gk q1.out;obtain⟨a0,a1,a2,a3,-⟩:=q0.four;obtain⟨b0,b1,b2,b3,-⟩:=q1.four;replace q3:=Za (kB _ _ _ Gk q3.out);replace hP:=Za (kW _ _ _ _ _ hP.out);replace J:=Za (kW _ _ _ _ _ J.out);clear kW kB q2 hB q0 q1;obtain⟨y0,y1,g0,g1⟩:=q3.out.two;refine hK.out _ _ (λ_=>⟨a0,a1,a2,a3,b0,b1,b2,b3⟩) ?_;clear hK K
 try simp only[Qj,Zg7,Zgl,Zg1]
 refine Zv (i:=19) rfl Gi Gi (λK hK=>?_);go_simp;obtain⟨W6,a6,b4,a9,kW,kB,s6⟩:=Zar a4 P' k' q' a8 Gk q3.out;rw[a6];clear a6 y0 y1 g0 g1 a0 a1 a2 a3 b0 b1 b2 b3;replace a5:=kB _ _ _ Gk a5;replace hP:=Za (kW _ _ _ _ _ hP.out);replace J:=Za (kW _ _ _ _ _ J.out);clear kW kB q3 a8;refine hK.out _ _ ?_;clear hK K
 try simp only[Qj,Zg7,Zgl,Zg1]
 refine wpAnyL_fin ?_;obtain⟨r0,r1,-⟩:=a5.two;obtain⟨r2,r3,-⟩:=a9.two;go_wp2_with fail;refine bodyPost_ret (v:=.tuple #[.agg #[.bool np,.slice P k q],.agg #[.bool a4,.slice P' k' q']]) (by simp[results,Tryz.results159,go_sem,r0,r1,r2,r3]) rfl ?_;exact⟨b4,_,_,_,_,_,_,_,_,rfl,hP.out,J.out⟩
theorem fAdd_ok(na nb na' nb':Bool)(A B A' B':Option Addr)(n c m d n' c' m' d':Nat)(a b:Rat)(w:World)(ha:Fr w na A n c nb B m d a)(hb:Fr w na' A' n' c' nb' B' m' d' b)(sa:Sm a)(sb:Sm b) :
    Calls Tryz.prog 115 #[.agg #[.bool na,.slice A n c,.bool nb,.slice B m d],.agg #[.bool na',.slice A' n' c',.bool nb',.slice B' m' d']] w (Zep w (a+b)):=by
 obtain⟨W0,u,f,⟨q0,q1,q2⟩,s0⟩:=Zb1 w 41 #[.bool na,.slice A n c,.bool nb,.slice B m d] 41 #[.bool na',.slice A' n' c',.bool nb',.slice B' m' d'] 41 #[.bool false,.slice none 0 0,.bool false,.slice none 0 0];have hA:=Za (ha.below f);have hD:=Za (hb.below f);have hF:=λ(W:World) (h1:Fr W na A n c nb B m d a) (h2:Fr W na' A' n' c' nb' B' m' d' b)=>Add1_ok na nb na' nb' A B A' B' n c m d n' c' m' d' a b W h1 h2 (Zbh sa.1 sb.dn) (Zbh sb.1 sa.dn) (sm_addA sa.1 sb.dn sb.1 sa.dn) (Zbh sa.dn sb.dn);have hG:=Za (Zp8 159 na nb na' nb' A B A' B' n c m d n' c' m' d' a b _ _ W0 hA.out hD.out (Zci a b) Zui hF);rw[Z0c]at hG;clear hF ha hb sa sb hA hD;obtain⟨a0,a1,a2,a3,-⟩:=q0.four;obtain⟨b0,b1,b2,b3,-⟩:=q1.four;replace q2:=Za q2;clear q0 q1;go_in;go_wp2_with fail;refine hG.out.mono ?_;rintro e w1 ⟨h,nx,Ax,kx,cx,ny,Ay,ky,cy,rfl,hX⟩;have o:Below w.heap.size w w1:=Gs f h;have s1:W0.heap.size<=w1.heap.size:=h.size;replace q2:=Gm h q2;replace hX:=Za hX;clear h a0 a1 a2 a3 b0 b1 b2 b3 f hG u;obtain⟨Y,U,V,T,O,C,J,I⟩:=q2.out.four;go_wp2_with fail;obtain⟨W5,y,aK,q2,kW,-,s5⟩:=Z7 nx Ax kx cx ny Ay ky cy o Gk q2.out;rw[y];obtain⟨r0,r1,r2,r3,-⟩:=q2.four;refine bodyPost_ret (v:=.tuple #[.agg #[.bool nx,.slice Ax kx cx,.bool ny,.slice Ay ky cy],.int .i64 0]) (by simp[results,Tryz.results115,go_sem,r0,r1,r2,r3]) rfl ?_;exact FY
theorem En{G:Prop}(h:G:=by
 have ae:Blk (w.setCell ⟨g,0,none⟩ (.bool na)) g t #[.bool na,.slice A0 n0 c0,.bool b0,.slice B0 m0 d0]:=hb.set_ 0 (.bool na);have aa:Blk ((w.setCell ⟨g,0,none⟩ (.bool na)).setCell ⟨g,1,none⟩ (.slice A n c)) g t #[.bool na,.slice A n c,.bool b0,.slice B0 m0 d0]:=ae.set_ 1 (.slice A n c);have ap:Blk (((w.setCell ⟨g,0,none⟩ (.bool na)).setCell ⟨g,1,none⟩ (.slice A n c)).setCell ⟨g,2,none⟩ (.bool nb)) g t #[.bool na,.slice A n c,.bool nb,.slice B0 m0 d0]:=aa.set_ 2 (.bool nb);have cI:Blk ((((w.setCell ⟨g,0,none⟩ (.bool na)).setCell ⟨g,1,none⟩ (.slice A n c)).setCell ⟨g,2,none⟩ (.bool nb)).setCell ⟨g,3,none⟩ (.slice B m d)) g t #[.bool na,.slice A n c,.bool nb,.slice B m d]:=ap.set_ 3 (.slice B m d);have k0:Kept (λk=>k=g) w w:=Kept.refl _ _;exact⟨_,rfl,cI,(((k0.set_ (p:=⟨g,0,none⟩) (.inl rfl) _).set_ (p:=⟨g,1,none⟩) (.inl rfl) _).set_ (p:=⟨g,2,none⟩) (.inl rfl) _).set_ (p:=⟨g,3,none⟩) (.inl rfl) _,by simp⟩):G:=h
theorem Zrq{t:TypeId}{w:World}{g:Nat}{a0:Bool}{A0:Option Addr}{n0 c0:Nat}{b0:Bool}{B0:Option Addr}{m0 d0:Nat}(na:Bool)(A:Option Addr)(n c:Nat)(nb:Bool)(B:Option Addr)(m d:Nat)(hb:Blk w g t #[.bool a0,.slice A0 n0 c0,.bool b0,.slice B0 m0 d0]) :
    ∃ W,(((w.setCell ⟨g,0,none⟩ (.bool na)).setCell ⟨g,1,none⟩ (.slice A n c)).setCell ⟨g,2,none⟩ (.bool nb)).setCell ⟨g,3,none⟩ (.slice B m d)=W/\Blk W g t #[.bool na,.slice A n c,.bool nb,.slice B m d]/\Kept (λk=>k=g) w W/\W.heap.size=w.heap.size:=by
 exact En
def VarF(w:World)(g:Nat)(q:Rat):Prop:=∃ na A n c nb B m d,Blk w g 41 #[.bool na,.slice A n c,.bool nb,.slice B m d]/\Fr w na A n c nb B m d q
theorem Fr.keptV{w w':World}{na:Bool}{A:Option Addr}{n c:Nat}{nb:Bool}{B:Option Addr}{m d:Nat}{r:Rat}{g:Nat}{t:TypeId}{cs:Array Value}(h:Fr w na A n c nb B m d r)(hk:Kept (λk=>k=g) w w')(hb:Blk w g t cs)(hn:NoLimb cs):Fr w' na A n c nb B m d r:=
 ⟨hk.wd h.1 (λk e=>by cases e;exact⟨_,_,hb,hn⟩),hk.wd h.2 (λk e=>by cases e;exact⟨_,_,hb,hn⟩)⟩
theorem Zib(z:Int):Rat.divInt z 1=(z:Rat):=Zko z
theorem Z1r{rs:List RI}{ws:List Int}{n m i:Nat}(h:i<m):(Zc7 rs ws n m)[i]?.getD []=Zq3 rs ws n m i:=by
 unfold Zc7 Zq3;rw[Qf,Qk h];rfl
theorem b40_out{least x:Int}(h:Zho least x=false)(h0:-1099511627776<=least):B40 x:=by
 unfold Zho at h;simp only[Qq,decide_eq_false_iff_not]at h;unfold B40;omega
theorem Zmi{least:Int}{l:List Int}(h:Zdq least l=false)(h0:-1099511627776<=least)(i:Nat):B40 (l[i]?.getD 0):=by
 unfold Zdq at h;rw[List.any_eq_false]at h;by_cases hi:i<l.length
 ·rw[Qh hi]
  exact b40_out (by simpa using h _ (Qt hi)) h0
 rw[Qd Gk];show (0:Int).natAbs<=_;decide
theorem sys_b40{rs:List RI}{rr ws:List Int}(h:Zcx rs rr ws=0):(∀ r k,B40 (Za3 rs k r))/\(∀ r,B40 (Zer rr r))/\∀ r,B40 (Zer ws r):=by
 obtain⟨f1,f2,f3,f4,f5,f6,f7,f8⟩:=Zdr h;refine⟨λr k=>?_,λr=>Zmi f7 Gj r,λr=>Zmi f6 Gj r⟩;unfold Za3;by_cases hr:r<rs.length
 ·rw[Qh hr]
  exact Zmi (f8 _ (Qt hr)).2 Gj k
 rw[Qd (l:=rs) (i:=r) Gk];show (0:Int).natAbs<=_;decide
def Za8(rs:List RI)(ws:List Int)(n:Nat):Nat->Nat->Rat:=λi j=>((Zce ws (Za3 rs i) (Za3 rs j) n:Int):Rat)
section
variable{rs:List RI}{rr ws:List Int}{n m:Nat}
theorem BndQ.den{B:Nat}{q:Rat}(h:BndQ B q):q.den=1:=by
 obtain⟨z,rfl,-⟩:=h;exact Rat.den_intCast z
theorem BndQ.num{B:Nat}{q:Rat}(h:BndQ B q):q.num.natAbs<=B:=by
 obtain⟨z,rfl,hz⟩:=h;rw[Rat.num_intCast];exact hz
end
theorem Zqg{B:Nat}{R:List (List Rat)}(h:∀ i j,BndQ B (Zi R i j))(i k:Nat):denTo (R[i]?.getD []) k=1:=by
 have h1:=Zrh (R[i]?.getD []) (D:=1) (λj=>by
  have:=(h i j).den;unfold Zi at this;rw[this];exact Qc _) k
 have h2:=Zed (R[i]?.getD []) k;rw[Nat.one_pow]at h1;omega
theorem Zy2{B:Nat}{R:List (List Rat)}(h:∀ i j,BndQ B (Zi R i j))(i j:Nat):(Zaf (Z6 R) i j).natAbs<=B:=by
 have h1:=Zgs R i j;obtain⟨z,hz,hb⟩:=h i j;have hd:denAt R i=1:=Zqg h i _;rw[hd,hz]at h1
 have h2:((Zaf (Z6 R) i j:Int):Rat)=(z:Rat):=by
  rw[h1];have:((1:Nat):Rat)=1:=rfl;rw[this];grind
 rw[Rat.intCast_inj.1 h2];exact hb
theorem Zqs{b n m:Nat}{R:List (List Rat)}(h:∀ i j,BndQ (pw b) (Zi R i j))(hl:R.length=n)(hn:n<=900)(hrow:∀ i,i<n->(R[i]?.getD []).length=m)(hnm:n<=m)(h1:(b+1)*n<189)(hb:b<900) :
    okZ (pw 200) m n 0 0 (Z6 R) 1/\okR (pw 200) (pw 200) m n 0 0 R/\Zrz R n m/\(Zam n 0 0 (Z6 R) false 1).2.1=(Zbf n 0 0 R false).2.1/\(Zbf n 0 0 R false).2.1<=n /\
    ((Zbf n 0 0 R false).2.1<n->Zap n (Zi R)=0) /\
    ((Zbf n 0 0 R false).2.1=n->Zap n (Zi R)≠0/\∃ X:Nat->Nat->Rat,Zg9 (Zi (Zbf n 0 0 R false).1) X n m/\Zg9 (λi j=>(Zaf (Zam n 0 0 (Z6 R) false 1).1 i j:Rat)) X n m/\SolQ (Zi R) X n m):=by
 have e:=Zkd (b:=b) n hn;obtain⟨B,hB⟩:=Gz (Zbp (pw b) n);rw[hB]at e;obtain⟨d,hd⟩:=Gz ((b+1)*n);rw[hd]at e h1;have bb:B*B<=pw (d+d):=Zzw e e
 have g1:(n+1)*(B*B)<pw 400:=by
  have h6:(n+1)*(B*B)<=pw (1+(d+d)):=Zzw (k_pw Gk) bb;exact Qb h6 (Zdj Gk)
 have g2:B*B*1<pw 400:=by rw[QD];exact Qb bb (Zdj Gk)
 have g3:B*1<pw 300:=by rw[QD];exact Qb e (Zdj Gk)
 have hs:=Zvt (B:=pw b) (S:=1) (Zb4 _) (Qc _) R hl hrow (λi hi=>Nat.le_of_eq (Zqg h i _)) (λi j _=>Zy2 h i j) hnm (by rw[hB];exact g1) (by rw[hB];exact g2) (by rw[hB];exact g3);rw[hB,QD]at hs;obtain⟨o1,o2,o3,o4,o5,o6⟩:=hs;have p1:B+1<=pw 200:=Qa (Nat.add_le_add e (Zb4 d)) (Qa (Zp7 d) (Zbm Gk));have p2:B<pw 200:=p1;refine⟨Znv p2 _ _ _ _ _ o1,Zmy p2 p2 _ _ _ _ o2,⟨λi t hi ht=>?_,λi j=>?_⟩,o3,o4,o5,λhr=>?_⟩;rw[Zqg h];exact QB Zee (Zbm Gj);exact Qb (h i j).num (Zdj Gk);obtain⟨q1,X,q2,q3,q4,-⟩:=o6 hr;exact⟨q1,X,q2,q3,q4⟩
section
variable{rs:List RI}{rr ws:List Int}{n m:Nat}
end
theorem Zwj{w:World}{A:Option Addr}{n c:Nat}{rs:List RI}{rr ws:List Int}(h:MIL w A n c rs)(hE:Zcx rs rr ws=0):0<n/\n<=200/\0<n0I rs/\n0I rs<=12/\rr.length=n/\ws.length=n/\∀ r ∈ rs,r.n=n0I rs:=by
 obtain⟨f1,f2,f3,f4,f5,f6,f7,f8⟩:=Zdr hE;have hl:=h.1
 have f:0<n:=by
  rcases Nat.eq_zero_or_pos n with h0|h0
  ·exfalso
   have:rs=[]:=List.eq_nil_of_length_eq_zero Gk;subst this;exact f3 rfl
  exact h0
 have e:n0I rs<=12:=by
  obtain⟨_,_,r0,_,o,_⟩:=h.at_ (i:=0) f;have h1:=Qe o;rw[<- (f8 r0 h1).1];exact f2 r0 h1
 exact⟨f,by omega,by omega,e,by omega,by omega,λr hr=>(f8 r hr).1⟩
def Zr(A:Nat->Nat->Rat):Nat->Nat->Nat->Rat
 | 0,i,k=>A i k
 | t+1,i,k=>if t<i then Zr A t i k-Zr A t i t/Zr A t t t*Zr A t t k else Zr A t i k
theorem Zmv{A:Nat->Nat->Rat}{i k:Nat}:∀ {t:Nat},i<=t->Zr A t i k=Zr A i i k
 | 0,h=>by rw[show i=0 by omega]
 | t+1,h=>by
  by_cases hit:i=t+1;rw[hit];show (if t<i then _ else _)=_;rw[Gw Gk];exact Zmv Gk
theorem Zfd{A:Nat->Nat->Rat}{t i k:Nat}(h:t<i):Zr A (t+1) i k=Zr A t i k-Zr A t i t/Zr A t t t*Zr A t t k:=by
 show (if t<i then _ else _)=_;rw[Gx h]
theorem Zfi{A:Nat->Nat->Rat}{n:Nat}(hA:∀ i k,i<n->k<n->A i k=A k i):∀ (t i k:Nat),t<=i->t<=k->i<n->k<n->Zr A t i k=Zr A t k i
 | 0,i,k,_,_,hi,hk=>hA i k hi hk
 | t+1,i,k,h1,h2,hi,hk=>by
  rw[Zfd Gk,Zfd Gk,Zfi hA t i k Gk Gk hi hk,Zfi hA t i t Gk Gk hi Gk,Zfi hA t t k Gk Gk Gk hk];rw[Rat.div_def,Rat.div_def]
  grind
theorem Zcs{A C:Nat->Nat->Rat}{n m:Nat}(h:∀ i k,i<n->k<m->A i k=C i k)(hnm:n<=m):∀ (t i k:Nat),t<=n->i<n->k<m->Zr A t i k=Zr C t i k
 | 0,i,k,_,hi,hk=>h i k hi hk
 | t+1,i,k,ht,hi,hk=>by
  show (if t<i then _ else _)=(if t<i then _ else _);rw[Zcs h hnm t i k Gk hi hk,Zcs h hnm t i t Gk hi Gk,Zcs h hnm t t t Gk Gk Gk,Zcs h hnm t t k Gk Gk hk]
def dQ(A:Nat->Nat->Rat)(i:Nat):Rat:=Zr A i i i
def lQ(A:Nat->Nat->Rat)(i k:Nat):Rat:=Zr A k i k/dQ A k
theorem Zmh{A:Nat->Nat->Rat}{n:Nat}(hA:∀ i k,i<n->k<n->A i k=A k i){t i k:Nat}(ht:t<k)(hk:k<=i)(hi:i<n)(hd:dQ A t≠0) :
    Zr A (t+1) i k=Zr A t i k-lQ A i t*lQ A k t*dQ A t:=by
 rw[Zfd Gk,Zfi hA t t k Gk Gk Gk Gk];unfold lQ dQ at *
 grind
theorem Zyy{A:Nat->Nat->Rat}{t i k:Nat}(ht:t<i):Zr A (t+1) i k=Zr A t i k-lQ A i t*Zr A t t k:=by
 rw[Zfd ht];rfl
def Zfs(R:List (List Rat)):Nat->List (List Rat)
 | 0=>R
 | t+1=>Zbt (Zfs R t) t t
theorem Zhu(R:List (List Rat)):∀ t,(Zfs R t).length=R.length
 | 0=>rfl
 | t+1=>by
  show (Zbt _ _ _).length=_;rw[Ze5];exact Zhu R t
def posP(A:Nat->Nat->Rat)(n:Nat):Prop:=∀ t,t<n->0<dQ A t
theorem posP.mono{A:Nat->Nat->Rat}{n m:Nat}(h:posP A n)(hm:m<=n):posP A m:=λt ht=>h t Gk
theorem posP.ne{A:Nat->Nat->Rat}{n:Nat}(h:posP A n){t:Nat}(ht:t<n):dQ A t≠0:=λh0=>by have:=h t ht;rw[h0]at this;exact absurd this Gj
section
variable{B S n m:Nat}{R:List (List Rat)}
theorem Zig{pc:Nat->Nat}{G:Nat->Nat->Rat}{s:Nat->Rat}(h0:EIR B S n m 0 0 R pc G s):∀ t,t<=n->t<=m->posP (Zi R) t->(∃ pc,EIR B S n m t t (Zfs R t) pc G s)/\∀ i k,i<n->Zi (Zfs R t) i k=Zr (Zi R) t i k
 | 0,_,_,_=>⟨⟨_,h0⟩,λi k _=>rfl⟩
 | t+1,hn,hm,hp=>by
  obtain⟨⟨pc,h1⟩,h2⟩:=Zig h0 t Gk Gk (hp.mono Gk);have h0:Zi (Zfs R t) t t≠0:=by rw[h2 t t Gk];exact hp.ne Gk
  refine⟨⟨_,h1.clear Gk Gk h0⟩,λi k hi=>?_⟩;show Zi (Zbt (Zfs R t) t t) i k=if t<i then _ else _;rw[Zgu (m:=m) (λi hi=>h1.row i (by rw[h1.len]at hi;exact hi)) (λj hj=>h1.low t j (Qc _) Gk hj) i k (by rw[h1.len];exact hi) (by rw[h1.len];omega)]
  by_cases hti:t<i;rw[Gw Gk,Gx hti,h2 i k hi,h2 i t hi,h2 t t Gk,h2 t k Gk];rw[Gx Gk,Gw hti,h2 i k hi]
theorem Zz8(hl:R.length=n)(hrow:∀ i,i<n->(R[i]?.getD []).length=m)(hS:∀ i,i<n->denAt R i<=S)(hBd:∀ i j,i<n->(Zaf (Z6 R) i j).natAbs<=B)(t:Nat)(hn:t<=n)(hm:t<=m)(hp:posP (Zi R) t) :
    (∃ pc G s,EIR B S n m t t (Zfs R t) pc G s)/\∀ i k,i<n->Zi (Zfs R t) i k=Zr (Zi R) t i k:=by
 obtain⟨⟨pc,h1⟩,h2⟩:=Zig (Znf R hl hrow hS hBd).1 t hn hm hp;exact⟨⟨_,_,_,h1⟩,h2⟩
theorem Ztt{D:Nat}(hl:R.length=n)(hrow:∀ i,i<n->(R[i]?.getD []).length=m)(hD:0<D)(hB:∀ i j,i<n->BndQ B ((D:Nat)*Zi R i j)):EIR B D n m 0 0 R (λ_=>0) (λi j=>(D:Nat)*Zi R i j) (λ_=>(D:Nat)):=by
 refine⟨hl,hrow,λl h=>by omega,λl l' _ h=>by omega,λi j _ _ h=>by omega,λl j h=>by omega,λl h=>by omega,Qm _,Qm _,λi hi=>⟨⟨(D:Nat),by rw[Qz],by rw[QC];exact Qc _⟩,λh0=>?_⟩,λi j hi=>hB i j hi,λN f σ _ _ _=>rfl⟩;have:D=0:=by exact_mod_cast h0
 omega
end
section
variable{k n m:Nat}{R:List (List Rat)}
end
theorem SmE.red2{k n m:Nat}{R:List (List Rat)}(h:SmE k R)(hl:R.length=n)(hn:n<=900)(hrow:∀ i,i<n->(R[i]?.getD []).length=m){t:Nat}(ht:t<=n)(htm:t<=m)(hp:posP (Zi R) t){i:Nat}(hi:i<n)(j:Nat):SmN ((k*m+k+1)*n+1) ((k*m+k+1)*n+k*m+1) (Zr (Zi R) t i j):=by
 obtain⟨⟨pc,G,s,h3⟩,h4⟩:=Zz8 (B:=pw (k*m+k)) (S:=pw (k*m)) hl hrow (λi hi=>h.denAt (hrow i hi)) (λi j hi=>h.whole (hrow i hi) j) t ht htm hp;obtain⟨h5,h6⟩:=h3.bound (Zb4 _) hi j;rw[h4 i j hi]at h5 h6;have hb:=Zkd (b:=k*m+k) n hn;refine⟨Qb (Qa h5 hb) (Zdj Gk),?_⟩;refine Qb (Qa h6 (Qi hb (Qc _))) ?_;rw[<- Zc8];exact Zdj Gk
structure FacP (A:Nat->Nat->Rat) (n:Nat):Prop where
 sym:∀ i k,i<n->k<n->A i k=A k i
 s:∀ t i k,t<=n->posP A t->i<n->k<n->SmN 380 380 (Zr A t i k)
 l:∀ i k,k<=i->i<n->posP A (k+1)->SmN 300 300 (lQ A i k)
section
variable{A:Nat->Nat->Rat}{n:Nat}
theorem FacP.d(h:FacP A n){k:Nat}(hk:k<n)(hp:posP A k):SmN 380 380 (dQ A k):=h.s k k k Gk hp hk hk
theorem FacP.ll(h:FacP A n){i j k:Nat}(hki:k<=i)(hi:i<n)(hkj:k<=j)(hj:j<n)(hp:posP A (k+1)):SmN 600 600 (lQ A i k*lQ A j k):=((h.l i k hki hi hp).mulN (h.l j k hkj hj hp)).mono Gj Gj
theorem FacP.lld(h:FacP A n){i j k:Nat}(hki:k<=i)(hi:i<n)(hkj:k<=j)(hj:j<n)(hp:posP A (k+1)):SmN 980 980 (lQ A i k*lQ A j k*dQ A k):=((h.ll hki hi hkj hj hp).mulN (h.d (show k<n by omega) (hp.mono Gk))).mono Gj Gj
end
theorem FacP.unif{n D b e:Nat}{R:List (List Rat)}(hl:R.length=n)(hn:n<=900)(hrow:∀ i,i<n->(R[i]?.getD []).length=n)(hA:∀ i k,i<n->k<n->Zi R i k=Zi R k i)(hD:0<D)(hDe:D<=pw e)(hB:∀ i j,i<n->BndQ (pw b) ((D:Nat)*Zi R i j))
    (h1:(b+1)*n<300) (h2:(b+1)*n+e<380):FacP (Zi R) n:=by
 have h0:=Ztt hl hrow hD hB;have hb:=Zkd (b:=b) n hn
 have o:((D:Nat):Rat)≠0:=λh=>by
  have:D=0:=by exact_mod_cast h
  omega
 refine⟨hA,λt i j ht hp hi _=>?_,λi k hki hi hp=>?_⟩
 ·obtain⟨⟨pc,h3⟩,h4⟩:=Zig h0 t ht ht hp
  obtain⟨h5,h6⟩:=h3.bound (Zb4 _) hi j;rw[h4 i j hi]at h5 h6;refine⟨Qb (Qa h5 hb) (Zdj Gk),?_⟩;refine Qb (Qa h6 (Qi hb hDe)) ?_;rw[<- Zc8];exact Zdj Gk
 obtain⟨⟨pc,h3⟩,h4⟩:=Zig h0 k Gk Gk (hp.mono Gk);have m1:=h3.minor hi k;have m2:=h3.minor (show k<n by omega) k;rw[show min i k=k by omega,h4 i k hi]at m1;rw[Nat.min_self,h4 k k Gk]at m2;have hd:Zr (Zi R) k k k≠0:=hp.ne Gk;have f:=h3.piv_ne (l:=k) (Qc _)
 have e1:Zeo (Zfs R k) pc (λ_=>((D:Nat):Rat)) k*(((D:Nat):Rat)*Zr (Zi R) k k k)*lQ (Zi R) i k=Zeo (Zfs R k) pc (λ_=>((D:Nat):Rat)) k*(((D:Nat):Rat)*Zr (Zi R) k i k):=by
  unfold lQ dQ
  grind
 rw[<- e1]at m1
 obtain⟨h5,h6⟩:=Zex m1 m2 (λh=>by
  rcases Rat.mul_eq_zero.1 h with h7|h7;exact f h7;rcases Rat.mul_eq_zero.1 h7 with h8|h8;exact o h8;exact hd h8)
 have hm:=Zc4 (B:=pw b) (m:=k+1) (n:=n) (Zb4 _) Gk;exact⟨Qb (Qa h5 (Qa hm hb)) (Zdj Gk),Qb (Qa h6 (Qa hm hb)) (Zdj Gk)⟩
theorem FacP.of{k n:Nat}{R:List (List Rat)}(h:SmE k R)(hl:R.length=n)(hn:n<=900)(hrow:∀ i,i<n->(R[i]?.getD []).length=n)(hA:∀ i k,i<n->k<n->Zi R i k=Zi R k i)(h1:(k*n+k+1)*n+((k*n+k+1)*n+k*n)+2<=300):FacP (Zi R) n:=by
 refine⟨hA,λt i j ht hp hi _=>(h.red2 hl hn hrow ht ht hp hi j).mono Gk Gk,λi j hji hi hp=>?_⟩;have hj:j<n:=Gk;have a:=h.red2 hl hn hrow (t:=j) Gk Gk (hp.mono Gk) hi j;have b:=h.red2 hl hn hrow (t:=j) Gk Gk (hp.mono Gk) hj j;exact(a.divN b (hp.ne Gk)).mono Gk Gk
def FX.fine64(e:FX):Bool:=decide (e.few<=64) && e.ok
def Zc0(es:List FX):Bool:=es.all FX.fine64
def RX.long6(r:RX):Bool:=decide (6<r.n)
def long6(rs:List RX):Bool:=decide (6<rs.length) || rs.any RX.long6
def Zc9(k:Nat)(r:RX):Bool:=decide (r.n=k) && Zc0 r.es
def Zhd(Q:List (List Rat)):Bool:=decide (∀ i,i<Q.length->∀ k,k<i->Zi Q i k=Zi Q k i)
def posB(A:Nat->Nat->Rat)(n:Nat):Bool:=decide (∀ t,t<n->0<dQ A t)
theorem posB_iff{A:Nat->Nat->Rat}{n:Nat}:posB A n=true ↔ posP A n:=by unfold posB posP;rw[decide_eq_true_eq]
def Zbg(rs:List RX):Int:=if long6 rs=true then 4 else if rs.length=0 then 8 else if rs.all (Zc9 rs.length)=true then (if (Zhd (qM rs) && posB (Zi (qM rs)) rs.length)=true then 0 else 8)else 8
section
variable{rs:List RX}
theorem Zfw(h:long6 rs=true):Zbg rs=4:=by unfold Zbg;rw[Gx h]
theorem Zrt(h:long6 rs=false)(h0:rs.length=0):Zbg rs=8:=by unfold Zbg;rw[Gw (by simp[h]),Gx h0]
theorem Zrc(h:long6 rs=false)(h0:rs.length≠0){r:RX}(hr:r ∈ rs)(hb:Zc9 rs.length r=false):Zbg rs=8:=by
 unfold Zbg;exact IX
theorem Id{G:Prop}(h:G:=by
 rw[List.all_eq_true]at h3;have h7:=h3 r hr;unfold Zc9 at h7;rw[Bool.and_eq_true,decide_eq_true_eq]at h7;exact h7):G:=h
theorem Zva(h:Zbg rs=0):0<rs.length/\rs.length<=6/\(∀ r ∈ rs,r.n=rs.length/\Zc0 r.es=true)/\Zhd (qM rs)=true/\posP (Zi (qM rs)) rs.length:=by
 unfold Zbg at h;by_cases h1:long6 rs=true;rw[Gx h1]at h;cases h;rw[Gw h1]at h;by_cases h2:rs.length=0;rw[Gx h2]at h;cases h;rw[Gw h2]at h;by_cases h3:rs.all (Zc9 rs.length)=true
 ·rw[Gx h3]at h
  by_cases h4:(Zhd (qM rs) && posB (Zi (qM rs)) rs.length)=true
  ·rw[Qn]at h4
   have h5:long6 rs=false:=by simpa using h1
   unfold long6 at h5;rw[Qq]at h5;have h6:=of_decide_eq_false h5.1;refine⟨by omega,by omega,λr hr=>?_,h4.1,posB_iff.1 h4.2⟩;exact Id
  rw[Gw h4]at h;cases h
 rw[Gw h3]at h;cases h
theorem symB_iff{Q:List (List Rat)}:Zhd Q=true ↔ ∀ i k,i<Q.length->k<Q.length->Zi Q i k=Zi Q k i:=by
 unfold Zhd;rw[decide_eq_true_eq];constructor
 ·intro h i k hi hk
  rcases Nat.lt_trichotomy i k with h1|h1|h1;exact(h k hk i h1).symm;rw[h1];exact h i hi k h1
 intro h i hi k hk;exact h i k hi Gk
theorem Ztl{es:List FX}(h:Zc0 es=true):∀ e ∈ es,e.ok=true:=λe he=>by
 unfold Zc0 at h;rw[Qu]at h;have:=h e he;unfold FX.fine64 at this;rw[Qn]at this;exact this.2
end
def Zs6(k:Nat)(rs:List RX):Prop:=∀ r ∈ rs,∀ e ∈ r.es,e.few<=k \/ 64<e.few
section
variable{w:World}{A:Option Addr}{n c:Nat}{rs:List RX}
theorem Zrs{e:FX}(hin:e.in_ w)(hk:e.ok=true){k:Nat}(hf:e.few<=k):(e.q).num.natAbs<=pw k/\(e.q).den<=pw k:=by
 have h1:Fr w e.na e.A e.n e.c e.nb e.B e.m e.d e.q:=Zqq hin.1 hin.2 hk;have h2:=h1.1.lim.len;have h3:=h1.2.lim.len;unfold FX.few at hf;constructor
 ·have h4:=Nat.le_of_lt (Zcu e.q.num.natAbs)
  rw[h2]at h4;exact Qa h4 (Zbm Gk)
 have h4:=Nat.le_of_lt (Zcu ((e.q.den:Int).natAbs));rw[h3]at h4;simp only[QC]at h4;exact Qa h4 (Zbm Gk)
end
def covV(rs:List RX):Prop:=long6 rs=false/\rs.length≠0/\rs.all (Zc9 rs.length)=true
def FacC(rs:List RX):Prop:=covV rs->Zhd (qM rs)=true->FacP (Zi (qM rs)) rs.length
section
variable{w:World}{A:Option Addr}{n c:Nat}{rs:List RX}
theorem covV.facts(h:covV rs):0<rs.length/\rs.length<=6/\∀ r ∈ rs,r.n=rs.length/\Zc0 r.es=true:=by
 obtain⟨h1,h2,h3⟩:=h;unfold long6 at h1;rw[Qq]at h1;have h6:=of_decide_eq_false h1.1;refine⟨by omega,by omega,λr hr=>?_⟩;exact Id
theorem Zi4(h:Zbg rs=0):covV rs/\Zhd (qM rs)=true/\posP (Zi (qM rs)) rs.length:=by
 obtain⟨h1,h2,h3,h4,h5⟩:=Zva h;refine⟨⟨?_,by omega,?_⟩,h4,h5⟩
 ·cases hl:long6 rs with
  | false=>rfl
  | true=>rw[Zfw hl]at h;cases h
 rw[Qu];intro r hr;unfold Zc9;rw[Qn,decide_eq_true_eq];exact h3 r hr
theorem covV.E(h:covV rs):Zbg rs=if (Zhd (qM rs) && posB (Zi (qM rs)) rs.length)=true then 0 else 8:=by
 obtain⟨h1,h2,h3⟩:=h;unfold Zbg;rw[Gw (by rw[h1];decide),Gw h2,Gx h3]
theorem covV.asym(h:covV rs)(hs:Zhd (qM rs)=false):Zbg rs=8:=by rw[h.E,hs];rfl
theorem covV.pos(h:covV rs)(hs:Zhd (qM rs)=true)(hp:posP (Zi (qM rs)) rs.length):Zbg rs=0:=by
 rw[h.E,hs,posB_iff.2 hp];rfl
theorem covV.neg(h:covV rs)(hs:Zhd (qM rs)=true)(hp:¬ posP (Zi (qM rs)) rs.length):Zbg rs=8:=by
 have:posB (Zi (qM rs)) rs.length=false:=by
  cases hb:posB (Zi (qM rs)) rs.length with
  | false=>rfl
  | true=>exact absurd (posB_iff.1 hb) hp
 rw[h.E,hs,this];rfl
theorem covV.good(hV:covV rs)(h:MXL w A n c rs):MFL w A n c (qM rs):=h.mfl λr hr=>Ztl (hV.facts.2.2 r hr).2
theorem covV.row(hV:covV rs)(h:MXL w A n c rs)(i:Nat)(hi:i<n):((qM rs)[i]?.getD []).length=n:=by
 unfold qM;rw[Qf,Qh (by rw[h.1];exact hi)];simp only[Qp,Qv,Qy];have hr:rs[i]'(by rw[h.1];exact hi) ∈ rs:=Qt _;have h4:=(h.2.2.2.1 _ hr).1;rw[h4,(hV.facts.2.2 _ hr).1,h.1]
theorem covV.small(hV:covV rs)(h:MXL w A n c rs){k:Nat}(hf:Zs6 k rs):SmE k (qM rs):=λi j=>by
 unfold Zi qM;rw[Qf];cases hr:rs[i]? with
 | none=>exact⟨Qm _,Zb4 _⟩
 | some r =>
  simp only[Qp,Qv,Qf];cases he:r.es[j]? with
  | none=>exact⟨Qm _,Zb4 _⟩
  | some e =>
   simp only[Qp,Qv];have o:=Qe hr;have f:=Qe he;have h5:=(hV.facts.2.2 r o).2;unfold Zc0 at h5;rw[Qu]at h5;have h6:=h5 e f;unfold FX.fine64 at h6;rw[Qn,decide_eq_true_eq]at h6;refine Zrs ((h.2.2.2.1 r o).2.2.2.1 e f) h6.2 ?_;rcases hf r o e f with h7|h7 <;> omega
theorem covV.small64(hV:covV rs)(h:MXL w A n c rs):SmE 64 (qM rs):=hV.small h (λr _ e _=>Qw 64 e.few |>.symm)
theorem SmE.smC{k:Nat}{Q:List (List Rat)}(h:SmE k Q)(hk:k<1000)(i j:Nat):Sm (Zi Q i j):=
 ⟨Qb (h i j).1 (Zdj hk),Qb (h i j).2 (Zdj hk)⟩
theorem covV.fac(hV:covV rs)(h:MXL w A n c rs)(hs:Zhd (qM rs)=true){k:Nat}(hf:Zs6 k rs)(hb:(k*n+k+1)*n+((k*n+k+1)*n+k*n)+2<=300):FacP (Zi (qM rs)) n:=by
 have h6:=hV.facts.2.1;have hl:(qM rs).length=n:=Z1p h;have hn:rs.length=n:=h.1;exact FacP.of (hV.small h hf) hl Gk (λi hi=>hV.row h i hi) (λi k hi hk=>symB_iff.1 hs i k Gk Gk) hb
theorem FacC.of(h:MXL w A n c rs){k:Nat}(hf:Zs6 k rs)(hb:n<=6->(k*n+k+1)*n+((k*n+k+1)*n+k*n)+2<=300):FacC rs:=λhV hs=>by
 have hn:rs.length=n:=h.1;rw[hn];exact hV.fac h hs hf (hb (by have:=hV.facts.2.1;omega))
theorem MFL.atS{w:World}{g o n c:Nat}{Q:List (List Rat)}(h:MFL w (some ⟨g,o,none⟩) n c Q){k:Nat}(hk:k<n):∃ A' n' c',w.cell? ⟨g,o+k,none⟩=some (.slice A' n' c')/\FL w A' n' c' (Q[k]?.getD []):=by
 obtain⟨g',o',A',n',c',e,h1,h2⟩:=h.at_ hk;cases e;exact⟨_,_,_,h1,h2⟩
theorem cmpQ_zero{a b:Rat}:Zoj a b=0 ↔ a=b:=by
 unfold Zoj;constructor
 ·intro h
  split at h
  cases h
  split at h
  cases h;rename_i h1 h2;exact Rat.le_antisymm (Rat.not_lt.1 h2) (Rat.not_lt.1 h1)
 intro h;subst h;rw[Gw Rat.lt_irrefl,Gw Rat.lt_irrefl]
end
theorem Zdc{P:Program}{ops:Array Oper}{Q:Exit->Act->World->Prop}{md:Region.Mode}{L:List Nat}{S:World->Prop}{i j:Nat}{oi oj:Oper}{fuel:Nat}{listed:Array Bool}{a:Act}{w:World}(hi:ops[i]?=some oi)(hj:ops[j]?=some oj)(hr:Region.ready md ops listed=[i,j])
    (h1:∀ K':Act->World->Prop,Shut (∀ a w,(Zcy L (listed.setIfInBounds i true)=true->S w)->Zaa P md ops Q L S fuel (listed.setIfInBounds i true) a w->K' a w)->if Region.wanted oi (yielded ops a.tmps)=true then Oper.wp P oi a w K' Q else K' (a.put oi.dst undef) w)
    (h2:∀ K':Act->World->Prop,Shut (∀ a w,(Zcy L (listed.setIfInBounds j true)=true->S w)->Zaa P md ops Q L S fuel (listed.setIfInBounds j true) a w->K' a w)->if Region.wanted oj (yielded ops a.tmps)=true then Oper.wp P oj a w K' Q else K' (a.put oj.dst undef) w) :
    Zaa P md ops Q L S (fuel+1) listed a w:=
 ⟨(λh0=>by rw[h0]at hr;cases hr),λk hk=>by
  rw[hr]at hk;rcases List.mem_cons.1 hk with e|e;subst e;exact wpOp_step hi (λK' hK=>h1 K' (λa w hS hW=>hK a w ⟨hS,hW⟩));rw[Ql]at e;subst e;exact wpOp_step hj (λK' hK=>h2 K' (λa w hS hW=>hK a w ⟨hS,hW⟩))⟩
def FacM(tS tN:TypeId)(w:World)(base:Nat)(v1 v2:Value)(rs:List RS)(Q:List (List Rat))(ds:List Rat):Prop:=
 MatOA tS tN w base v1 rs Q/\OwnF tN w base v2 ds/\∀ r ∈ rs,∀ k,r.val.ownBlock=some k->v2.ownBlock≠some k
section
variable{tS tN:TypeId}{w w':World}{base:Nat}{v v1 v1' v2 v2':Value}{rs:List RS}{Q:List (List Rat)}{ds qs:List Rat}
theorem OwnF.blt(h:OwnF tN w base v qs):∀ k,v.ownBlock=some k->k<w.heap.size:=λk hk=>by
 obtain⟨cs,hb,-,-⟩:=h.ownBlk k hk;exact hb.lt
theorem OwnF.grownO{b:Nat}(h:OwnF tN w b v qs)(hg:w.grownBy w' v2.ownBlock)(hne:∀ k,v.ownBlock=some k->v2.ownBlock≠some k)(hk:∀ (A:Option Addr) (n c:Nat) (l:List Nat),Lim w A n c l->Lim w' A n c l):OwnF tN w' b v qs:=by
 obtain⟨es,e1,e2,e3⟩:=h;refine⟨es,?_,λe he=>(e2 e he).of_keep hk,e3⟩;rcases e1 with e1|⟨g2,sp,e4,e5,e6,e7⟩;exact .inl e1;exact .inr ⟨g2,sp,e4,e5,e6,(hg.block g2 e7.lt (λe=>hne g2 (by rw[e4];rfl) (by first|exact e|exact e.symm))).trans e7⟩
theorem RowS.grownR{rs:List RS}(h:RowS tS w base v1 rs)(hO:OwnF tN w base v2 ds)(hts:tS≠tN)(hg:w.grownBy w' v2.ownBlock):RowS tS w' base v1 rs:=by
 rcases h with h|⟨g',sp,h1,h2,h3,h4⟩;exact .inl h;refine .inr ⟨g',sp,h1,h2,h3,(hg.block g' h4.lt (λe=>?_)).trans h4⟩;obtain⟨cs,a,-,-⟩:=hO.ownBlk g' (by first|exact e|exact e.symm);exact hts (h4.type a)
theorem RowS.keptG{rs:List RS}(h:RowS tS w base v1 rs){g:Nat}(hg:g<base)(hk:Kept (λk=>k=g) w w'):RowS tS w' base v1 rs:=by
 rcases h with h|⟨g',sp,h1,h2,h3,h4⟩;exact .inl h;exact .inr ⟨g',sp,h1,h2,h3,hk.blk h4 Gk⟩
theorem FacM.nil(tS tN:TypeId)(w:World)(base:Nat):FacM tS tN w base (.slice none 0 0) (.slice none 0 0) [] [] []:=⟨MatOA.nil _ _ _ _,OwnF.nil _ _ _,λr hr=>(by cases hr)⟩
theorem FacM.kept(h:FacM tS tN w base v1 v2 rs Q ds)(hb:Below w.heap.size w w'):FacM tS tN w' base v1 v2 rs Q ds:=⟨h.1.kept hb,h.2.1.kept hb,h.2.2⟩
theorem FacM.rlt(h:FacM tS tN w base v1 v2 rs Q ds):∀ s ∈ rs,∀ k,s.val.ownBlock=some k->k<w.heap.size:=λs hs k hk=>by
 obtain⟨i,hi,e⟩:=List.getElem_of_mem hs;exact(h.1.2.2.1 i s (by rw[Qh hi,e])).blt k hk
theorem FacM.snocL(h:FacM tS tN w base v1 v2 rs Q ds)(hts:tS≠tN){r:RS}{q:List Rat}{b:Nat}(ho:OwnF tN w b r.val q)(hb:base<=b)(hlt:∀ s ∈ rs,∀ k,s.val.ownBlock=some k->k<b)(hl2:∀ k,v2.ownBlock=some k->k<b)(h1:RowS tS w' base v1' (rs ++ [r]))(hg:w.grownBy w' v1.ownBlock)(hk:∀ (A:Option Addr) (n c:Nat) (l:List Nat),Lim w A n c l->Lim w' A n c l) :
    FacM tS tN w' base v1' v2 (rs ++ [r]) (Q ++ [q]) ds:=by
 refine⟨h.1.snoc hts ho hb hlt h1 hg hk,h.2.1.grownT hts h.1.1 hg hk,λs hs k hsk e=>?_⟩;rcases List.mem_append.1 hs with hs|hs;exact h.2.2 s hs k hsk e;rw[Ql]at hs;subst hs;have h2:=ho.row_ge k hsk;have h3:=hl2 k e;omega
theorem FacM.snocD(h:FacM tS tN w base v1 v2 rs Q ds)(hts:tS≠tN){qs:List Rat}(hO:OwnF tN w' base v2' qs)(hg:w.grownBy w' v2.ownBlock)(hk:∀ (A:Option Addr) (n c:Nat) (l:List Nat),Lim w A n c l->Lim w' A n c l)
    (hw:v2'.ownBlock=v2.ownBlock \/ ∀ k,v2'.ownBlock=some k->w.heap.size<=k):FacM tS tN w' base v1 v2' rs Q qs:=by
 refine⟨⟨h.1.1.grownR h.2.1 hts hg,h.1.2.1,λi r hr=>(h.1.2.2.1 i r hr).grownO hg (λk hk=>h.2.2 r (Qe hr) k hk) hk,h.1.2.2.2⟩,hO,λs hs k hsk e=>?_⟩;rcases hw with hw|hw;exact h.2.2 s hs k hsk (by rw[<- hw];exact e);have h2:=hw k e;have h3:=h.rlt s hs k hsk;omega
theorem FacM.box(h:FacM tS tN w base v1 v2 rs Q ds){g:Nat}{t:TypeId}{cs:Array Value}(hb:Blk w g t cs)(hn:NoLimb cs)(hg:g<base)(hk:Kept (λk=>k=g) w w'):FacM tS tN w' base v1 v2 rs Q ds:=
 ⟨⟨h.1.1.keptG hg hk,h.1.2.1,λi r hr=>(h.1.2.2.1 i r hr).keptG hb hn (λe=>by have:=(h.1.2.2.1 i r hr).row_ge g e;omega) hk,h.1.2.2.2⟩,h.2.1.keptG hb hn (λe=>by have:=h.2.1.row_ge g e;omega) hk,h.2.2⟩
theorem MatOA.mflA(h:MatOA tS tN w base v rs Q):∃ A c,v=.slice A Q.length c/\MFL w A Q.length c Q:=by
 obtain⟨A,c,e,hM⟩:=h.1.mfl h.2.1 (λi r hr=>(h.2.2.1 i r hr).rsn.2);rw[h.2.1]at e hM;exact⟨A,c,e,hM⟩
end
theorem FL.pair2{w:World}{g:Nat}{t:TypeId}{xn:Bool}{xA:Option Addr}{xk xc:Nat}{xm:Bool}{xB:Option Addr}{xj xd:Nat}{yn:Bool}{yA:Option Addr}{yk yc:Nat}{ym:Bool}{yB:Option Addr}{yj yd:Nat}{p q:Rat}(h:Blk w g t #[.bool xn,.slice xA xk xc,.bool xm,.slice xB xj xd,.bool yn,.slice yA yk yc,.bool ym,.slice yB yj yd])(hp:Fr w xn xA xk xc xm xB xj xd p)(hq:Fr w yn yA yk yc ym yB yj yd q):FL w (some ⟨g,0,none⟩) 2 2 [p,q]:=by
 refine⟨[⟨xn,xA,xk,xc,xm,xB,xj,xd,p⟩,⟨yn,yA,yk,yc,ym,yB,yj,yd,q⟩],rfl,Qc _,by unfold maxLen;omega,λe he=>?_,rfl,λ_=>⟨g,0,rfl,λk r hr=>?_⟩⟩
 ·simp only[List.mem_cons,List.not_mem_nil,or_false]at he
  rcases he with rfl|rfl;exact hp;exact hq
 match k,hr with
 | 0,hr=>cases hr;exact⟨h.cell 0,h.cell 1,h.cell 2,h.cell 3⟩
 | 1,hr=>cases hr;exact⟨h.cell 4,h.cell 5,h.cell 6,h.cell 7⟩
 | k+2,hr=>simp at hr
theorem FL.sing1{w:World}{g:Nat}{t:TypeId}{na:Bool}{A:Option Addr}{n c:Nat}{nb:Bool}{B:Option Addr}{m d:Nat}{q:Rat}(h:Blk w g t #[.bool na,.slice A n c,.bool nb,.slice B m d])(hf:Fr w na A n c nb B m d q):FL w (some ⟨g,0,none⟩) 1 1 [q]:=by
 refine⟨[⟨na,A,n,c,nb,B,m,d,q⟩],rfl,Qc _,by unfold maxLen;omega,λe he=>?_,rfl,λ_=>⟨g,0,rfl,λk e hk=>?_⟩⟩;rw[Ql]at he;subst he;exact hf;have f:k=0:=by have:=(List.getElem?_eq_some_iff.1 hk).1;simp at this;exact this
 subst f;cases hk;exact⟨h.cell 0,h.cell 1,h.cell 2,h.cell 3⟩
theorem FL.atS{w:World}{g o n c:Nat}{qs:List Rat}(h:FL w (some ⟨g,o,none⟩) n c qs){k:Nat}(hk:k<n):∃ na A1 n1 c1 nb B m d,At4 w g (o+k*4) na A1 n1 c1 nb B m d/\Fr w na A1 n1 c1 nb B m d (qs[k]?.getD 0):=by
 obtain⟨g',o',na,A1,n1,c1,nb,B,m,d,e,h1,h2⟩:=h.at_ hk;cases e;exact⟨_,_,_,_,_,_,_,_,h1,h2⟩
theorem Zk2(A:Option Addr)(n c:Nat)(B:Option Addr)(m d:Nat):NoLimb #[.slice A n c,.slice B m d]:=λi k=>by
 match i with
 | 0=>simp
 | 1=>simp
 | i+2=>simp
def EnvF(tS tN tX:TypeId)(w:World)(base bo gl gx:Nat)(v1 v2 V1 V2 own:Value)(rs:List RS)(Q:List (List Rat))(ds q:List Rat)(ln:Bool)(lA:Option Addr)(lk lc:Nat)(lm:Bool)(lB:Option Addr)(lj ld:Nat)(d:Rat):Prop:=
 FacM tS tN w base v1 v2 rs Q ds/\OwnF tN w bo own q/\Blk w gl tN #[.bool ln,.slice lA lk lc,.bool lm,.slice lB lj ld]/\Fr w ln lA lk lc lm lB lj ld d/\Blk w gx tX #[V1,V2]
def EnvG(tS tN tX:TypeId)(w:World)(base gl gx:Nat)(v1 v2 V1 V2:Value)(rs:List RS)(Q:List (List Rat))(ds:List Rat)(ln:Bool)(lA:Option Addr)(lk lc:Nat)(lm:Bool)(lB:Option Addr)(lj ld:Nat)(d:Rat):Prop:=
 FacM tS tN w base v1 v2 rs Q ds/\Blk w gl tN #[.bool ln,.slice lA lk lc,.bool lm,.slice lB lj ld]/\Fr w ln lA lk lc lm lB lj ld d/\Blk w gx tX #[V1,V2]
section
variable{tS tN tX:TypeId}{w w':World}{base bo gl gx:Nat}{v1 v1' v2 v2' V1 V2 own:Value}{rs:List RS}{Q:List (List Rat)}{ds q:List Rat}{ln:Bool}{lA:Option Addr}{lk lc:Nat}{lm:Bool}{lB:Option Addr}{lj ld:Nat}{d:Rat}
theorem EnvF.below(h:EnvF tS tN tX w base bo gl gx v1 v2 V1 V2 own rs Q ds q ln lA lk lc lm lB lj ld d)(hb:Below w.heap.size w w'):EnvF tS tN tX w' base bo gl gx v1 v2 V1 V2 own rs Q ds q ln lA lk lc lm lB lj ld d:=
 ⟨h.1.kept hb,h.2.1.kept hb,Zc hb h.2.2.1,h.2.2.2.1.below hb,Zc hb h.2.2.2.2⟩
theorem EnvG.below(h:EnvG tS tN tX w base gl gx v1 v2 V1 V2 rs Q ds ln lA lk lc lm lB lj ld d)(hb:Below w.heap.size w w'):EnvG tS tN tX w' base gl gx v1 v2 V1 V2 rs Q ds ln lA lk lc lm lB lj ld d:=
 ⟨h.1.kept hb,Zc hb h.2.1,h.2.2.1.below hb,Zc hb h.2.2.2⟩
theorem EnvF.cells(h:EnvF tS tN tX w base bo gl gx v1 v2 V1 V2 own rs Q ds q ln lA lk lc lm lB lj ld d):w.cell? ⟨gx,0,none⟩=some V1/\w.cell? ⟨gx,1,none⟩=some V2:=by
 have:=h.2.2.2.2;exact Iv
theorem EnvG.cells(h:EnvG tS tN tX w base gl gx v1 v2 V1 V2 rs Q ds ln lA lk lc lm lB lj ld d):w.cell? ⟨gx,0,none⟩=some V1/\w.cell? ⟨gx,1,none⟩=some V2:=by
 have:=h.2.2.2;exact Iv
theorem EnvF.left(h:EnvF tS tN tX w base bo gl gx v1 v2 V1 V2 own rs Q ds q ln lA lk lc lm lB lj ld d):w.cell? ⟨gl,0,none⟩=some (.bool ln)/\w.cell? ⟨gl,1,none⟩=some (.slice lA lk lc)/\w.cell? ⟨gl,2,none⟩=some (.bool lm)/\w.cell? ⟨gl,3,none⟩=some (.slice lB lj ld):=by
 obtain⟨a,b,c,d,-⟩:=h.2.2.1.four;exact⟨a,b,c,d⟩
theorem EnvG.left(h:EnvG tS tN tX w base gl gx v1 v2 V1 V2 rs Q ds ln lA lk lc lm lB lj ld d):w.cell? ⟨gl,0,none⟩=some (.bool ln)/\w.cell? ⟨gl,1,none⟩=some (.slice lA lk lc)/\w.cell? ⟨gl,2,none⟩=some (.bool lm)/\w.cell? ⟨gl,3,none⟩=some (.slice lB lj ld):=by
 obtain⟨a,b,c,d,-⟩:=h.2.1.four;exact⟨a,b,c,d⟩
theorem EnvF.far{t:TypeId}{g:Nat}{cs:Array Value}(h:EnvF tS tN tX w base bo gl gx v1 v2 V1 V2 own rs Q ds q ln lA lk lc lm lB lj ld d)(hts:tS≠t)(hg:w.grownBy w' v1.ownBlock)(hb:Blk w g t cs):Blk w' g t cs:=
 (hg.block g hb.lt (λe=>h.1.1.1.ownType hb hts (by first|exact e|exact e.symm))).trans hb
theorem EnvF.app(h:EnvF tS tN tX w base bo gl gx v1 v2 V1 V2 own rs Q ds q ln lA lk lc lm lB lj ld d)(hts:tS≠tN){r:RS}(hr:r.val=own)(hbb:base<=bo)(hlt:∀ s ∈ rs,∀ k,s.val.ownBlock=some k->k<bo)(hl2:∀ k,v2.ownBlock=some k->k<bo)(hgx:gx<base)(h1:RowS tS w' base v1' (rs ++ [r]))(hg:w.grownBy w' v1.ownBlock)(hk:∀ (A:Option Addr) (n c:Nat) (l:List Nat),Lim w A n c l->Lim w' A n c l) :
    EnvG tS tN tX w' base gl gx v1' v2 V1 V2 (rs ++ [r]) (Q ++ [q]) ds ln lA lk lc lm lB lj ld d:=by
 refine⟨h.1.snocL hts (hr▸h.2.1) hbb hlt hl2 h1 hg hk,h.far hts hg h.2.2.1,⟨⟨h.2.2.2.1.1.1,h.2.2.2.1.1.2.1,hk _ _ _ _ h.2.2.2.1.1.2.2⟩,⟨h.2.2.2.1.2.1,h.2.2.2.1.2.2.1,hk _ _ _ _ h.2.2.2.1.2.2.2⟩⟩,?_⟩;exact(hg.block gx h.2.2.2.2.lt (λe=>by have:=h.1.1.1.row_ge gx (by first|exact e|exact e.symm);omega)).trans h.2.2.2.2
theorem EnvG.app(h:EnvG tS tN tX w base gl gx v1 v2 V1 V2 rs Q ds ln lA lk lc lm lB lj ld d)(hts:tS≠tN)(hgx:gx<base){qs:List Rat}(hO:OwnF tN w' base v2' qs)(hg:w.grownBy w' v2.ownBlock)(hk:∀ (A:Option Addr) (n c:Nat) (l:List Nat),Lim w A n c l->Lim w' A n c l)
    (hw:v2'.ownBlock=v2.ownBlock \/ ∀ k,v2'.ownBlock=some k->w.heap.size<=k):FacM tS tN w' base v1 v2' rs Q qs/\Blk w' gx tX #[V1,V2]:=
 ⟨h.1.snocD hts hO hg hk hw,(hg.block gx h.2.2.2.lt (λe=>by have:=h.1.2.1.row_ge gx (by first|exact e|exact e.symm);omega)).trans h.2.2.2⟩
theorem Kept.grownC{G:Nat->Prop}{W0:World}{row:Option Nat}(h:Kept G W0 w)(hg:w.grownBy w' row)(hr:∀ k,row=some k->W0.heap.size<=k):Kept G W0 w':=
 ⟨hg.os.trans h.os,hg.tape.trans h.tape,hg.output.trans h.output,Qa h.size hg.size,λk hk hG=>(hg.block k (QB hk h.size) (λe=>by have:=hr k (by first|exact e|exact e.symm);omega)).trans (h.block k hk hG)⟩
end
def IdxC(w:World)(b:Bool)(e:Ending)(w':World):Prop:=∃ i:Int,e=.returned (.int .i64 i)/\decide (0<=i)=b/\Below w.heap.size w w'
theorem Zzj(na nb:Bool)(A B:Option Addr)(n c m d:Nat)(la lb:List Nat)(w:World)(ha:Lim w A n c la)(hb:Lim w B m d lb)(b:Bool)(hx:(decide (max n m<=64) && okF na la nb lb)=b) :
    Calls Tryz.prog 109 #[.agg #[.bool na,.slice A n c,.bool nb,.slice B m d]] w λe w'=>e=.returned (.bool (!b))/\Below w.heap.size w w':=by
 obtain⟨W0,C,aw,q0,s0⟩:=Zak w 41 #[.bool na,.slice A n c,.bool nb,.slice B m d];obtain⟨a0,a1,a2,a3,-⟩:=q0.four;have u:=Qa ha.2.1 ha.2.2.1;have o:=Qa hb.2.1 hb.2.2.1;unfold maxLen at u o;obtain⟨y,hy⟩:=Gz (okF na la nb lb);rw[hy]at hx;have hC:=Za (λW1 (h1:Below w.heap.size w W1)=>Zl5 na nb A B n c m d la lb W1 (ha.below h1) (hb.below h1) y hy);clear ha hb hy;have hmx:max (n:Int) (m:Int)=((max n m:Nat):Int):=Gk;by_cases h8:max n m<=64
 ·have t1:decide ((64:Int)<((max n m:Nat):Int))=false:=Gu Gk
  have h:decide (64<max n m)=false:=Gu Gk;have f:decide ((64:Int)<max (n:Int) (m:Int))=false:=Gu Gk;rw[Gv h8,Bool.true_and]at hx;subst hx;cases y
  ·go_in
   exact CQ
  go_in
  exact CM
 have t1:decide ((64:Int)<((max n m:Nat):Int))=true:=Gv Gk;have h:decide (64<max n m)=true:=Gv Gk;have f:decide ((64:Int)<max (n:Int) (m:Int))=true:=Gv Gk;rw[Gu h8,Bool.false_and]at hx;subst hx;go_in;exact Iu
theorem Zzf(A:Option Addr)(n c:Nat)(es:List FX)(w:World)(h:FXL w A n c es)(b:Bool)(hb:Zc0 es=b) :
    Calls Tryz.prog 150 #[.slice A n c,.func (.func 109) #[] #[]] w (IdxC w (!b)):=by
 have hl:=h.1;have I:=h.2.1;have y:=h.2.2.1;unfold maxLen at y;replace hl:=Za hl;replace hb:=Za hb;replace h:=Za h;go_in;go_wp2_with fail
 go_loopw [8] (λiv wr=>∃ i:Nat,i<=n/\iv=.int .i64 i/\Hid (∀ j e,j<i->es[j]?=some e->e.fine64=true)/\Below w.heap.size w wr) (λiv _=>n-(intOf iv).toNat)
 case atStart=>exact⟨0,Qm _,rfl,Za (λj e hj=>by omega),QE _ _⟩
 case round =>
  obtain⟨i,J,rfl,au,ah⟩:=hrel;by_cases hin:i<n
  case neg =>
   obtain rfl:n=i:=Gk;have C:decide ((n:Int)<(n:Int))=false:=Gh
   obtain rfl:b=true:=by
    rw[<- hb.out];unfold Zc0;exact Ek
   exact Fj
  have C:decide ((i:Int)<(n:Int))=true:=Gv Gk;obtain⟨g,o,e,rfl,he,hc,f,u⟩:=(h.out.below ah).at_ hin;obtain⟨c0,c1,c2,c3⟩:=hc;obtain⟨x,hx⟩:=Gz e.fine64;have hC:=Za (λW1 (hb:Below wr.heap.size wr W1)=>Zzj e.na e.nb e.A e.B e.n e.c e.m e.d e.la e.lb W1 (f.below hb) (u.below hb) x hx);clear f u;cases x
  ·obtain rfl:b=false:=by
     rw[<- hb.out];unfold Zc0;rw[List.all_eq_false];exact⟨e,Qe he,by rw[hx];decide⟩
   exact CP
  have az:Hid (∀ j e,j<i+1->es[j]?=some e->e.fine64=true):=Za (λj e' hj he'=>by
    rcases Qw j i with h'|h';exact au.out j e' h' he';obtain rfl:j=i:=Gk;rw[he]at he';cases he';exact hx)
  exact CO
theorem Zxi(A:Option Addr)(n c:Nat)(es:List FX)(w:World)(h:FXL w A n c es)(b:Bool)(hb:Zc0 es=b) :
    Calls Tryz.prog 108 #[.slice A n c,.func (.func 109) #[] #[]] w λe w'=>e=.returned (.bool (!b))/\Below w.heap.size w w':=by
 go_in;go_wp2_with fail;refine(Zzf A n c es w h b hb).mono ?_;exact EY
theorem Zle(A:Option Addr)(n c:Nat)(es:List FX)(w:World)(h:FXL w A n c es)(b:Bool)(hb:Zc0 es=b) :
    Calls Tryz.prog 65 #[.slice A n c] w λe w'=>e=.returned (.bool b)/\Below w.heap.size w w':=by
 go_in;go_wp2_with fail;refine(Zxi A n c es w h b hb).mono ?_;rintro e w1 ⟨rfl,f⟩;go_wp2_with fail;go_ret;exact⟨by simp,f⟩
theorem By{G:Prop}(h:G:=by
 unfold maxLen at hn;have hd:decide ((6:Int)<(n:Int))=decide (6<n):=decide_eq_decide.2 Gk;go_in;exact Fu):G:=h
theorem Zyg(A:Option Addr)(n c:Nat)(w:World)(hn:n<=maxLen) :
    Calls Tryz.prog 104 #[.slice A n c] w λe w'=>e=.returned (.bool (decide (6<n)))/\Below w.heap.size w w':=by
 exact By
theorem FXL.nlenC{w:World}{A:Option Addr}{n c:Nat}{es:List FX}(h:FXL w A n c es):n<=maxLen:=Qa h.2.1 h.2.2.1
theorem Zyv(A:Option Addr)(n c:Nat)(rs:List RX)(w:World)(h:MXL w A n c rs)(b:Bool)(hb:rs.any RX.long6=b) :
    Calls Tryz.prog 146 #[.slice A n c,.func (.func 104) #[] #[]] w (IdxC w b):=by
 have hl:=h.1;have u:=h.2.1;have f:=h.2.2.1;unfold maxLen at f;replace hl:=Za hl;replace hb:=Za hb;replace h:=Za h;go_in;go_wp2_with fail
 go_loopw [8] (λiv wr=>∃ i:Nat,i<=n/\iv=.int .i64 i/\Hid (∀ j e,j<i->rs[j]?=some e->e.long6=false)/\Below w.heap.size w wr) (λiv _=>n-(intOf iv).toNat)
 case atStart=>exact⟨0,Qm _,rfl,Za (λj e hj=>by omega),QE _ _⟩
 case round =>
  obtain⟨i,y,rfl,au,ah⟩:=hrel;by_cases hin:i<n
  case neg =>
   exact Eo
  have fg:decide ((i:Int)<(n:Int))=true:=Gv Gk;obtain⟨g,o,r,rfl,he,c0,hL⟩:=(h.out.below ah).at_ hin;have hC:=Za (λW1=>Zyg r.A r.n r.c W1 hL.nlenC);clear hL;by_cases hx:6<r.n
  ·obtain rfl:b=true:=by
     rw[<- hb.out,List.any_eq_true];exact⟨r,Qe he,by unfold RX.long6;simpa using hx⟩
   exact Ca
  have az:Hid (∀ j e,j<i+1->rs[j]?=some e->e.long6=false):=Za (λj e' hj he'=>by
    rcases Qw j i with h'|h';exact au.out j e' h' he';obtain rfl:j=i:=Gk;rw[he]at he';cases he';unfold RX.long6;simpa using hx)
  exact Cb
theorem Zvv(A:Option Addr)(n c:Nat)(rs:List RX)(w:World)(h:MXL w A n c rs)(b:Bool)(hb:rs.any RX.long6=b) :
    Calls Tryz.prog 105 #[.slice A n c,.func (.func 104) #[] #[]] w λe w'=>e=.returned (.bool b)/\Below w.heap.size w w':=by
 go_in;go_wp2_with fail;refine(Zyv A n c rs w h b hb).mono ?_;exact EY
def idxOk(n:Nat)(ls:List Int)(k:Nat):Prop:=(0<=ls[k]?.getD 0/\ls[k]?.getD 0<n)/\∀ j:Nat,j<k->ls[j]?.getD 0≠ls[k]?.getD 0
instance (n:Nat) (ls:List Int) (k:Nat):Decidable (idxOk n ls k):=by unfold idxOk;infer_instance
section
variable{rs:List RX}{ls:List Int}{n:Nat}
end
open Go.ChangeShapes Go.WideShapes Go.Deep Go.RowKit
section
variable{H:Type}{enc:TypeId × Value->H}{P:Program}{w:World}{base:Nat}{spare:Nat->Bool}{held:Bool}
end
section
variable{H:Type}{enc:TypeId × Value->H}{P:Program}
theorem Zob{f:Func}{s:ChangeSpec}{apart fresh handsOn again:Bool}{W W':World}{args:Array Value}{v:Value}{ds gs:List (DataW H)}{before pa pv:List MemPlace}
    (hW:DataW.Whole enc P f.params.toList s.vars apart W args.toList ds gs before)
    (hres:∀ (b:Nat) (sp:Nat->Bool) (hd:Bool),DataW.TrodAll enc P W' b sp hd f.resultTypes.toList (v.resultList f.resultTypes.size) (s.fn H (ds++gs)).results [])
    (hargs:∀ sp:Nat->Bool,(∀ p ∈ before,sp p.block=true)->DataW.TrodAll enc P W' 0 sp true f.params.toList args.toList (s.fn H (ds++gs)).args pa)
    (hvars:∀ sp:Nat->Bool,(∀ p ∈ before,sp p.block=true)->DataW.TrodVars enc P W' sp s.vars (s.fn H (ds++gs)).vars pv)
    (hps:before=pa++pv) (hb:Below W.heap.size W W')
    (hok:∀ (j:Nat) (t:TypeId) (r:Value),f.resultTypes[j]?=some t->(v.resultList f.resultTypes.size)[j]?=some r->Value.okWide P W' .any 0 t r) :
    s.post enc P f apart fresh handsOn again W args v W':=by
 have h:∀ p ∈ before,p.block<W.heap.size:=λp hp=>hW.lt p hp;have e:∀ p ∈ before,(λb=>decide (b<W.heap.size)) p.block=true:=λp hp=>by simpa using h p hp
 refine⟨ds,gs,before,[],pa,pv,hW,hres _ _ _,hargs _ e,hvars _ e,World.keptBut_mono (λp hp=>⟨hp,?_⟩) (hb.frame (· ∈ before)),λ_=>?_⟩
 ·rw[hps,List.mem_append]at hp
  exact Or.inr hp
 obtain⟨_,_,_,_,_,hz,hn⟩:=hW;refine⟨hok,_,_,([]++pa)++pv,⟨[]++pa,pv,trodAll_append (hargs _ (λ_ _=>rfl)) (hres _ _ _),hvars _ (λ_ _=>rfl),rfl,?_,?_⟩,?_⟩
 ·intro b off hp
  have o:MemPlace.cell b off ∈ before:=by rw[hps];simpa using hp
  rw[hb.frozen (h _ o)];exact hz b off o
 ·intro ha
  have:=hn ha;rw[hps]at this;simpa using this
 intro p hp _;rw[hps];simpa using hp
end
theorem Zqj{α:Type}(P:Nat->α->Prop)(n:Nat)(h:∀ i,i<n->∃ e,P i e):∃ es:List α,es.length=n/\∀ (k:Nat) (e:α),es[k]?=some e->P k e:=by
 induction n with
 | zero=>exact⟨[],rfl,λk e h=>by simp at h⟩
 | succ n ih =>
  obtain⟨es,h1,h2⟩:=ih λi hi=>h i Gk;obtain⟨e,he⟩:=h n Gk;refine⟨es ++ [e],by simp[h1],λk e' hk=>?_⟩;rcases Qw k es.length with o|f;rw[Qs o]at hk;exact h2 k e' hk;rw[Qr f]at hk;rcases Nat.eq_or_lt_of_le f with h0|h0
  ·rw[show k-es.length=0 by omega]at hk
   simp at hk;subst hk;rw[<- h0,h1];exact he
  rw[Qd Gg]at hk;cases hk
theorem Znb{w:World}{a:Addr}{v:Value}(h:w.cell? a=some v):a=⟨a.block,a.off,none⟩:=by
 obtain⟨b,o,s⟩:=a;cases s with
 | none=>rfl
 | some s =>
  exfalso;unfold World.cell? at h;simp at h
  split at h <;> simp at h
section
variable{H:Type}{enc:TypeId × Value->H}{w:World}{base:Nat}{spare:Nat->Bool}{held:Bool}
end
