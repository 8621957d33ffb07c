/- The reference's Inverted, Inverse. Package linear: -/
import Derived.Deep.LoopGhost
import Derived.Test.YthappeninglakaaGreatZg17
set_option maxRecDepth 100000
set_option maxHeartbeats 4000000
set_option linter.unusedSimpArgs false
set_option linter.unusedVariables false
namespace Go.Proofs.YthappeninglakaaGreat
open Go.RowKit
open List renaming getElem?_eq_getElem→Qa,getElem?_map→Qf,getElem?_eq_none→Qh,mem_of_getElem?→Qi,all_eq_true→Qj,replicate→Qk,getElem_mem→Ql,getElem_of_mem→Qn,mem_singleton→Qo,getElem?_range→Qr,length_map→Qs,length_replicate→Qv,any_eq_false→Qy,getElem?_replicate→Qz,length_take→QF,any_eq_true→QG
open Nat renaming le_trans→Qb,lt_of_le_of_lt→Qc,le_refl→Qd,mul_le_mul→Qp,lt_or_ge→Qt,zero_le→Qu,lt_of_lt_of_le→QC,mul_one→QE
open Below renaming refl→Qe
open Option renaming getD_some→Qg,map_some→Qw
open Bool renaming and_eq_true→Qm,or_eq_false_iff→Qx
open Act renaming put→Qq
open Rat renaming intCast_natCast→QA,num_divInt_den→QB,divInt→QH
open Int renaming natAbs_natCast→QD
attribute [local go_sem] Zg
def Zf1(n j:Nat):List Rat:=(List.range n).map λk=>if j=k then 1 else 0
def Zbc(Q:List (List Rat))(n i t:Nat):List (List Rat):=(List.range n).map λj=>Q[j]?.getD []++if j<i then Zf1 n j else if j=i then (Zf1 n j).take t else []
theorem Zo3(Q:List (List Rat))(n i t:Nat):(Zbc Q n i t).length=n:=by unfold Zbc;simp
theorem Zkp{Q:List (List Rat)}{n i t j:Nat}(hj:j<n):(Zbc Q n i t)[j]?.getD []=Q[j]?.getD []++if j<i then Zf1 n j else if j=i then (Zf1 n j).take t else []:=by
 unfold Zbc;rw[Qf,Qr hj];rfl
theorem Zh8(n j:Nat):(Zf1 n j).length=n:=by unfold Zf1;simp
theorem Zmq(x y:Value)(W:World):(callFunc 81 #[x,y]).run Tryz.prog W=.ok (.enter 81 #[x,y]) W:=by simp[go_sem]
def FPart(t:TypeId)(w:World)(g:Nat)(qs:List Rat)(rest:Nat):Prop:=∃ es zs:List FE,Blk w g t (Zz (es++zs))/\zs.length=rest/\(∀ e ∈ es,e.in_ w)/\es.map FE.q=qs
section
variable{t:TypeId}{w w':World}{g rest:Nat}{qs:List Rat}
theorem FPart.below(h:FPart t w g qs rest)(hb:Below w.heap.size w w'):FPart t w' g qs rest:=by
 obtain⟨es,zs,h1,h2,h3,h4⟩:=h;exact⟨es,zs,Zc hb h1,h2,λe he=>(h3 e he).below hb,h4⟩
theorem FPart.raw(h:FPart t w g qs rest):FRaw t w g (qs.length+rest):=by
 obtain⟨es,zs,h1,h2,h3,rfl⟩:=h;exact⟨_,h1,by simp[h2]⟩
theorem FPart.own(h:FPart t w g qs 0):FOwn t w g qs:=by
 obtain⟨es,zs,h1,h2,h3,h4⟩:=h;exact⟨es,zs,h1,h3,h4⟩
theorem FPart.push(h:FPart t w g qs (rest+1)){na:Bool}{A:Option Addr}{k c:Nat}{nb:Bool}{B:Option Addr}{m d:Nat}{r:Rat}(hf:Fr w na A k c nb B m d r):FPart t (Zj3 w g qs.length na A k c nb B m d) g (qs ++ [r]) rest:=by
 obtain⟨es,zs,h1,h2,h3,rfl⟩:=h
 obtain⟨z,f,rfl⟩:∃ z f,zs=z::f:=by
  cases zs with
  | nil=>simp at h2
  | cons z f=>exact⟨z,f,rfl⟩
 have hn:=Zcl (es++z::f);have h4:=(((h1.set_ (es.length*4) (.bool na)).set_ (es.length*4+1) (.slice A k c)).set_ (es.length*4+2) (.bool nb)).set_ (es.length*4+3) (.slice B m d);have hs:=Zk1 (es:=es++z::f) (i:=es.length) ⟨na,A,k,c,nb,B,m,d,r⟩ (by simp);dsimp only at hs;rw[hs,List.set_append_right _ _ (Qd _),Nat.sub_self,List.set_cons_zero]at h4;refine⟨es ++ [⟨na,A,k,c,nb,B,m,d,r⟩],f,?_,by simpa using h2,λe he=>?_,by simp⟩;rw[List.append_assoc,List.singleton_append,Qs];exact h4
 ·rw[Qs]
  rcases List.mem_append.1 he with he|he
  ·obtain⟨a,b⟩:=h3 e he
   exact⟨⟨a.1,a.2.1,Zgc a.2.2 h1 hn⟩,⟨b.1,b.2.1,Zgc b.2.2 h1 hn⟩⟩
  ·rw[Qo]at he
   subst he;exact⟨⟨hf.1.1,hf.1.2.1,Zgc hf.1.2.2 h1 hn⟩,⟨hf.2.1,hf.2.2.1,Zgc hf.2.2.2 h1 hn⟩⟩
end
theorem Zxa{n i:Nat}(hi:i<n):(Qk n (0:Rat)).set i 1=Zf1 n i:=by
 unfold Zf1;apply List.ext_getElem?;intro k;rw[List.getElem?_set,Qv,Qf];by_cases hk:k<n
 ·rw[Qr hk,Qz,Gx hk,Qw]
  by_cases h:i=k;rw[Gx h,Gx hi,Gx h];rw[Gw h,Gw h]
 rw[Qz,Gw hk,Gw (by omega),Qh (by simpa using hk)];rfl
theorem Zsd(gx:Nat)(A:Option Addr)(n c i:Nat)(w:World)(hx:Blk w gx 25 #[.slice A n c])(hn9:n<=900)(hin:i<n) :
    Calls Tryz.prog 81 #[.int .i64 i,.pointer (some ⟨gx,0,none⟩)] w λe w'=>∃ A c,e=.returned (.slice A n c)/\Below w.heap.size w w'/\FL w' A n c (Zf1 n i):=by
 obtain⟨iF,hi,T,U,O⟩:=info_parts Zfm;have J:=Z0d (P:=Tryz.prog) 35 41 Tryz.underlying35 hi T U O (n:Int) n rfl (by omega) w;obtain⟨W0,y⟩:=Gz (w.alloc (.cells (Zz (Qk n Zaw)) 41));obtain⟨g,hg⟩:=Gz w.heap.size;rw[y,hg]at J;have Y:Below g w W0:=by rw[<- y,<- hg];exact(Qe _ _).alloc (Qd _) _
 have C:FPart 41 W0 g [] n:=⟨[],Qk n Zaw,by rw[<- y,<- hg];exact Blk.new _ _ _,by simp,λe he=>(by cases he),rfl⟩;have V:=hx.cell 0;simp at V;replace C:=Za C;rw[hg];clear y;go_enter Tryz.func81,Tryz.ntmps81;go_wp2_with fail
 go_loopg [11] n (λj kv wr=>∃ k:Nat,k+j=n/\kv=.int .i64 k/\FPart 41 wr g (Qk k 0) (n-k)/\Below g w wr)
 case atStart=>exact⟨0,by omega,rfl,C.out,Y⟩
 case round =>
  clear C J;obtain⟨k,a1,rfl,hP,hB⟩:=hrel;cases gk with
  | zero =>
   obtain rfl:k=n:=by omega
   have t1:decide ((k:Int)<(k:Int))=false:=by simp
   rw[Nat.sub_self]at hP;have bi:(i:Int)<(k:Int):=by omega
   have a0:(0:Int)<=(i:Int):=by omega
   replace hP:=Za hP;go_wp2_with fail;refine(Zqp 1 1 wr (by decide) (by decide) (by decide) (by decide)).mono ?_;rintro e w2 ⟨u,n6,A6,k6,c6,m6,B6,j6,d6,rfl,o⟩;rw[Zfg]at o;have f:=hP.out.below u;have h:(Qk k (0:Rat)).length=k:=Qv ..;obtain⟨x0,x1,x2,x3,x4,x5,x6,x7,y0,y1,y2,y3⟩:=f.raw.cells (i:=i) (by rw[h];omega);have z0:=f.raw.frozen (i*4);have z1:=f.raw.frozen (i*4+1);have z2:=f.raw.frozen (i*4+2);have z3:=f.raw.frozen (i*4+3);obtain⟨Z,hZ⟩:=Gz (Zj3 w2 g i n6 A6 k6 c6 m6 B6 j6 d6)
   have hO:FOwn 41 Z g (Zf1 k i):=by
    rw[<- Zxa hin,<- hZ];exact f.own.set_ (by rw[h];exact hin) o
   have I:Below g w Z:=by
    rw[<- hZ];exact Zi8 (hB.trans (u.mono (by rw[<- hg];exact hB.size))) (Qd _)
   unfold Zj3 at hZ;replace hO:=Za hO;clear f o hP;go_wp2_with fail;(try rw[hZ]);go_wp2_with fail;go_ret;have h1:=hO.out.fl (c:=k) (by rw[Zh8];exact Qd _) (by unfold maxLen;omega);rw[Zh8]at h1;exact⟨_,_,rfl,I,h1⟩
  | succ j =>
   obtain rfl:j=n-(k+1):=by omega
   have a2:k<n:=by omega
   have t1:decide ((k:Int)<(n:Int))=true:=Gv (by omega);have bi:(k:Int)<(n:Int):=by omega
   have a0:(0:Int)<=(k:Int):=by omega
   replace hP:=Za hP;go_wp2_with fail;refine(Zqp 0 1 wr (by decide) (by decide) (by decide) (by decide)).mono ?_;rintro e w2 ⟨u,n6,A6,k6,c6,m6,B6,j6,d6,rfl,o⟩;rw[Zfg]at o;have f:=hP.out.below u;have h:(Qk k (0:Rat)).length=k:=Qv ..;obtain⟨x0,x1,x2,x3,x4,x5,x6,x7,y0,y1,y2,y3⟩:=f.raw.cells (i:=k) (by rw[h];omega);have z0:=f.raw.frozen (k*4);have z1:=f.raw.frozen (k*4+1);have z2:=f.raw.frozen (k*4+2);have z3:=f.raw.frozen (k*4+3);obtain⟨Z,hZ⟩:=Gz (Zj3 w2 g k n6 A6 k6 c6 m6 B6 j6 d6)
   have hO:FPart 41 Z g (Qk (k+1) 0) (n-(k+1)):=by
    rw[show n-k=n-(k+1)+1 by omega]at f;have h1:=f.push o;rw[h,hZ]at h1;rw[List.replicate_succ'];exact h1
   have I:Below g w Z:=by
    rw[<- hZ];exact Zi8 (hB.trans (u.mono (by rw[<- hg];exact hB.size))) (Qd _)
   unfold Zj3 at hZ;replace hO:=Za hO;clear f o hP;go_wp2_with fail;(try rw[hZ]);go_wp2_with fail
   go_roundg (n-(k+1))
   case measure=>omega
   case rel=>exact⟨k+1,by omega,by go_num,hO.out,I⟩
section
variable{k n m:Nat}{R:List (List Rat)}
end
theorem Zgs{Q:List (List Rat)}{n:Nat}(hrow:∀ i,i<n->(Q[i]?.getD []).length=n)(hq:Q.length=n)(i j:Nat):Zh (Zbc Q n n 0) i j=if i<n then (if j<n then Zh Q i j else if j-n<n then (if i=j-n then 1 else 0)else 0)else 0:=by
 by_cases hi:i<n
 ·rw[Gx hi]
  unfold Zh;rw[Zkp hi,Gx hi];have hr:=hrow i hi;by_cases hj:j<n;rw[Gx hj,List.getElem?_append_left (by omega)]
  ·rw[Gw hj,List.getElem?_append_right (by omega),hr]
   unfold Zf1;rw[Qf];by_cases hjn:j-n<n;rw[Gx hjn,Qr hjn];rfl;rw[Gw hjn,Qh (by simp;omega)];rfl
 ·rw[Gw hi]
  unfold Zh;rw[Qh (l:=Zbc Q n n 0) (by rw[Zo3];omega)];rfl
section
variable(rs:List RI)(rr ws:List Int)(x:Nat->Rat)
end
section
variable{rs:List RI}{rr ws:List Int}{x:Nat->Rat}{n m:Nat}
end
def B40(z:Int):Prop:=z.natAbs<=1099511627776
section
variable{D M N:Nat}{q:Rat}
theorem CD.small(h:CD D M q)(hD:0<D):q.num.natAbs<=M/\q.den<=D:=by
 obtain⟨z,e,hz⟩:=h
 have f:((D:Int):Rat)≠0:=by
  intro h0;have:=Rat.intCast_inj.1 (show ((D:Int):Rat)=((0:Int):Rat) by simpa using h0);omega
 have e2:((D:Int):Rat)*q=(z:Rat):=by
  have h2:((D:Int):Rat)=(D:Rat):=QA D;rw[h2]at f ⊢;rw[e]
  grind
 exact Ze0 ⟨z,e2,hz⟩ ⟨(D:Int),rfl,by simp⟩ f
end
theorem Zvs{ws:List Int}{a b:Nat->Int}:∀ (n:Nat),(∀ r,r<n->B40 (Zji ws r)/\B40 (a r)/\B40 (b r))->(Zb9 ws a b n).natAbs<=n*(1099511627776*(1099511627776*1099511627776))
 | 0,_=>by simp[Zb9]
 | n+1,h=>by
  have ih:=Zvs n (λr hr=>h r (by omega));obtain⟨h1,h2,h3⟩:=h n (by omega)
  have h4:((Zji ws n)*(a n*b n)).natAbs<=1099511627776*(1099511627776*1099511627776):=by
   rw[Int.natAbs_mul,Int.natAbs_mul];exact Qp h1 (Qp h2 h3)
  have h5:Zb9 ws a b (n+1)=Zb9 ws a b n+Zji ws n*(a n*b n):=rfl;rw[h5,Nat.succ_mul];exact Qb (Int.natAbs_add_le _ _) (Nat.add_le_add ih h4)
theorem Zxz:200*(1099511627776*(1099511627776*1099511627776))<=pw 4:=by decide +kernel
theorem Zzy{ws:List Int}{a b:Nat->Int}{n:Nat}(hn:n<=200)(h:∀ r,r<n->B40 (Zji ws r)/\B40 (a r)/\B40 (b r)):(Zb9 ws a b n).natAbs<=pw 4:=
 Qb (Zvs n h) (Qb (Qp hn (Qd _)) Zxz)
theorem Zy1{a b i j:Nat}(ha:a<=pw i)(hb:b<=pw j):a*b<=pw (i+j):=by rw[Zcs];exact Qp ha hb
theorem k_pw{n:Nat}(h:n<=4294967296):n<=pw 1:=by
 have:pw 1=4294967296:=by decide +kernel
 rw[this];exact h
theorem sm_addA{x y z v:Int}(hx:x.natAbs<pw 1000)(hy:y.natAbs<pw 1000)(hz:z.natAbs<pw 1000)(hv:v.natAbs<pw 1000):(x*y+z*v).natAbs<pw 4096:=by
 have h1:=Zme hx hy;have h2:=Zme hz hv;have h3:=Zzt;omega
theorem Zzh(a b:Rat):QH (a.num*b.den+b.num*a.den) ((a.den:Int)*(b.den:Nat))=a+b:=by
 have ha:((a.den:Nat):Int)≠0:=by have:=a.den_pos;omega
 have hb:((b.den:Nat):Int)≠0:=by have:=b.den_pos;omega
 rw[<- Rat.divInt_add_divInt _ _ ha hb,QB,QB]
theorem Ztm(x y:Value)(W:World):(callFunc 159 #[x,y]).run Tryz.prog W=.ok (.enter 159 #[x,y]) W:=by simp[go_sem]
theorem Add1_ok(na nb na' nb':Bool)(A B A' B':Option Addr)(n c m d n' c' m' d':Nat)(a b:Rat)(w:World)(ha:Fr w na A n c nb B m d a)(hb:Fr w na' A' n' c' nb' B' m' d' b)
    (h1:(a.num*b.den).natAbs<pw 4096) (h2:(b.num*a.den).natAbs<pw 4096) (hs:(a.num*b.den+b.num*a.den).natAbs<pw 4096) (ht:((a.den:Int)*(b.den:Nat)).natAbs<pw 4096) :
    Calls Tryz.prog 159 #[.agg #[.bool na,.slice A n c,.bool nb,.slice B m d],.agg #[.bool na',.slice A' n' c',.bool nb',.slice B' m' d']] w (Zoj w (a.num*b.den+b.num*a.den) ((a.den:Int)*(b.den:Nat))):=by
 obtain⟨W0,Y,T,⟨q0,q1,q2,q3⟩,s0⟩:=Zgf w 41 #[.bool na,.slice A n c,.bool nb,.slice B m d] 41 #[.bool na',.slice A' n' c',.bool nb',.slice B' m' d'] 39 #[.bool false,.slice none 0 0] 39 #[.bool false,.slice none 0 0];have hmx:=Gt
 have hA:=Za (ha.below T);have hD:=Za (hb.below T);replace hs:=Za hs;replace ht:=Za ht;replace h1:=Za h1;replace h2:=Za h2;have sz:=Za T.size;have hB:=Za T;clear ha hb T s0;replace q0:=Za q0;replace q1:=Za q1;replace q2:=Za q2;replace q3:=Za q3;obtain⟨a0,a1,a2,a3,-⟩:=q0.out.four;obtain⟨b0,b1,b2,b3,-⟩:=q1.out.four;replace Y:=Za Y;go_enter Tryz.func159,Tryz.ntmps159;go_wp2_with fail;rw[Y.out];clear Y;refine Z7 [19] (λW'=>W'.cell? ⟨w.heap.size,0,none⟩=some (.bool na)/\W'.cell? ⟨w.heap.size,1,none⟩=some (.slice A n c)/\W'.cell? ⟨w.heap.size,2,none⟩=some (.bool nb)/\W'.cell? ⟨w.heap.size,3,none⟩=some (.slice B m d)/\W'.cell? ⟨w.heap.size+1,0,none⟩=some (.bool na')/\W'.cell? ⟨w.heap.size+1,1,none⟩=some (.slice A' n' c')/\W'.cell? ⟨w.heap.size+1,2,none⟩=some (.bool nb')/\W'.cell? ⟨w.heap.size+1,3,none⟩=some (.slice B' m' d')) hmx ⟨a0,a1,a2,a3,b0,b1,b2,b3⟩ (λ_=>?_);refine Zjw 8 [0,1,3,4,10,11,12,13] rfl (by kernel_rfl) ⟨a0,a1,a2,a3,b0,b1,b2,b3⟩ ?_
 iterate 8 (refine tkA ?_;try simp only[Qq,Zg4,Zgk,Zgx,Gr,Gq,Gp])
 refine tk0 ?_;refine wpAnyL_o 2 λK hK=>?_;go_simp;refine(Zff na nb na' nb' A B A' B' n c m d n' c' m' d' a b W0.drew hA.out hD.out h1.out).mono ?_;rintro e w1 ⟨f,nu,U,k1,u,rfl,hU⟩;replace f:=Zv f;replace hU:=Za hU;replace q0:=Za (Zc f q0.out);replace q1:=Za (Zc f q1.out);replace q2:=Za (Zc f q2.out);replace q3:=Za (Zc f q3.out);replace hA:=Za (hA.out.below f);replace hD:=Za (hD.out.below f);replace hB:=Za (hB.out.trans (f.mono sz.out));replace sz:=Za (Qb sz.out f.size);clear a0 a1 a2 a3 b0 b1 b2 b3;obtain⟨a0,a1,a2,a3,-⟩:=q0.out.four;obtain⟨b0,b1,b2,b3,-⟩:=q1.out.four;clear f;refine hK.out _ _ (λ_=>⟨a0,a1,a2,a3,b0,b1,b2,b3⟩) ?_;clear hK K
 try simp only[Qq,Zg4,Zgk,Zgx]
 refine wpAnyL_o 5 λK hK=>?_;go_simp;refine(Zff na' nb' na nb A' B' A B n' c' m' d' n c m d b a w1 hD.out hA.out h2.out).mono ?_;rintro e w2 ⟨C,nv,V,k2,v,rfl,hV⟩;replace hU:=Za (hU.out.below C);replace hV:=Za hV;replace q0:=Za (Zc C q0.out);replace q1:=Za (Zc C q1.out);replace q2:=Za (Zc C q2.out);replace q3:=Za (Zc C q3.out);replace hA:=Za (hA.out.below C);replace hD:=Za (hD.out.below C);replace hB:=Za (hB.out.trans (C.mono sz.out));replace sz:=Za (Qb sz.out C.size);clear a0 a1 a2 a3 b0 b1 b2 b3;obtain⟨a0,a1,a2,a3,-⟩:=q0.out.four;obtain⟨b0,b1,b2,b3,-⟩:=q1.out.four;clear C;refine hK.out _ _ (λ_=>⟨a0,a1,a2,a3,b0,b1,b2,b3⟩) ?_;clear hK K
 try simp only[Qq,Zg4,Zgk,Zgx]
 refine wpAnyL_o 6 λK hK=>?_;go_simp;refine(Zjf nu nv U V k1 u k2 v _ _ w2 hU.out hV.out).mono ?_;rintro e w3 ⟨I,np,P,k,q,code,rfl,hR⟩;have hP:=Za (hR.small hs.out);have J:=hR.code0 hs.out;subst J;clear hs hR hU hV;replace q0:=Za (Zc I q0.out);replace q1:=Za (Zc I q1.out);replace q2:=Za (Zc I q2.out);replace q3:=Za (Zc I q3.out);replace hA:=Za (hA.out.below I);replace hD:=Za (hD.out.below I);replace hB:=Za (hB.out.trans (I.mono sz.out));replace sz:=Za (Qb sz.out I.size);clear a0 a1 a2 a3 b0 b1 b2 b3;obtain⟨a0,a1,a2,a3,-⟩:=q0.out.four;obtain⟨b0,b1,b2,b3,-⟩:=q1.out.four;clear I;refine hK.out _ _ (λ_=>⟨a0,a1,a2,a3,b0,b1,b2,b3⟩) ?_;clear hK K
 try simp only[Qq,Zg4,Zgk,Zgx]
 refine Zjw 2 [7,8] rfl (by kernel_rfl) ⟨a0,a1,a2,a3,b0,b1,b2,b3⟩ ?_
 iterate 2 (refine tkA ?_;try simp only[Qq,Zg4,Zgk,Zgx,Gr,Gq,Gp])
 refine tk0 ?_;refine wpAnyL_o 9 λK hK=>?_;go_simp;refine(Zdy np P k q w3).mono ?_;rintro e w4 ⟨rfl,o⟩;replace hP:=Za (hP.out.below o);replace q0:=Za (Zc o q0.out);replace q1:=Za (Zc o q1.out);replace q2:=Za (Zc o q2.out);replace q3:=Za (Zc o q3.out);replace hA:=Za (hA.out.below o);replace hD:=Za (hD.out.below o);replace hB:=Za (hB.out.trans (o.mono sz.out));replace sz:=Za (Qb sz.out o.size);clear a0 a1 a2 a3 b0 b1 b2 b3;obtain⟨a0,a1,a2,a3,-⟩:=q0.out.four;obtain⟨b0,b1,b2,b3,-⟩:=q1.out.four;clear o;refine hK.out _ _ (λ_=>⟨a0,a1,a2,a3,b0,b1,b2,b3⟩) ?_;clear hK K
 try simp only[Qq,Zg4,Zgk,Zgx]
 refine wpAnyL_o 14 λK hK=>?_;go_simp;refine(Zi3 nb nb' B B' m d m' d' a.den b.den w4 hA.out.2 hD.out.2).mono ?_;rintro e w5 ⟨y,a4,P',k',q',code,rfl,hR⟩;replace hP:=Za (hP.out.below y);have O:=Za (hR.small ht.out);have J:=hR.code0 ht.out;subst J;clear ht hR;replace q0:=Za (Zc y q0.out);replace q1:=Za (Zc y q1.out);replace q2:=Za (Zc y q2.out);replace q3:=Za (Zc y q3.out);replace hA:=Za (hA.out.below y);replace hD:=Za (hD.out.below y);replace hB:=Za (hB.out.trans (y.mono sz.out));replace sz:=Za (Qb sz.out y.size);clear a0 a1 a2 a3 b0 b1 b2 b3;obtain⟨a0,a1,a2,a3,-⟩:=q0.out.four;obtain⟨b0,b1,b2,b3,-⟩:=q1.out.four;clear y;refine hK.out _ _ (λ_=>⟨a0,a1,a2,a3,b0,b1,b2,b3⟩) ?_;clear hK K
 try simp only[Qq,Zg4,Zgk,Zgx]
 refine Zjw 2 [15,16] rfl (by kernel_rfl) ⟨a0,a1,a2,a3,b0,b1,b2,b3⟩ ?_
 iterate 2 (refine tkA ?_;try simp only[Qq,Zg4,Zgk,Zgx,Gr,Gq,Gp])
 refine tk0 ?_;refine wpAnyL_o 17 λK hK=>?_;go_simp;refine(Zdy a4 P' k' q' w5).mono ?_;rintro e w6 ⟨rfl,h⟩;replace hP:=Za (hP.out.below h);replace O:=Za (O.out.below h);replace q0:=Za (Zc h q0.out);replace q1:=Za (Zc h q1.out);replace q2:=Za (Zc h q2.out);replace q3:=Za (Zc h q3.out);replace hA:=Za (hA.out.below h);replace hD:=Za (hD.out.below h);replace hB:=Za (hB.out.trans (h.mono sz.out));replace sz:=Za (Qb sz.out h.size);clear a0 a1 a2 a3 b0 b1 b2 b3;obtain⟨a0,a1,a2,a3,-⟩:=q0.out.four;obtain⟨b0,b1,b2,b3,-⟩:=q1.out.four;clear h;obtain⟨x0,x1,f0,f1⟩:=q2.out.two;refine hK.out _ _ (λ_=>⟨a0,a1,a2,a3,b0,b1,b2,b3⟩) ?_;clear hK K
 try simp only[Qq,Zg4,Zgk,Zgx]
 refine wpAnyL_o 18 λK hK=>?_;go_simp;obtain⟨W5,a8,a6,a5,kW,kB,s5⟩:=Zas np P k q hB.out (by omega) q2.out;rw[a8];clear a8 x0 x1 f0 f1 a0 a1 a2 a3 b0 b1 b2 b3 hA hD;replace q0:=kB _ _ _ (by omega) q0.out;replace q1:=kB _ _ _ (by omega) q1.out;obtain⟨a0,a1,a2,a3,-⟩:=q0.four;obtain⟨b0,b1,b2,b3,-⟩:=q1.four;replace q3:=Za (kB _ _ _ (by omega) q3.out);replace hP:=Za (kW _ _ _ _ _ hP.out);replace O:=Za (kW _ _ _ _ _ O.out);clear kW kB q2 hB q0 q1;obtain⟨y0,y1,g0,g1⟩:=q3.out.two;refine hK.out _ _ (λ_=>⟨a0,a1,a2,a3,b0,b1,b2,b3⟩) ?_;clear hK K
 try simp only[Qq,Zg4,Zgk,Zgx]
 refine Zm (i:=19) rfl (by kernel_rfl) (by kernel_rfl) (λK hK=>?_);go_simp;obtain⟨W6,a7,b4,a9,kW,kB,s6⟩:=Zas a4 P' k' q' a6 (by omega) q3.out;rw[a7];clear a7 y0 y1 g0 g1 a0 a1 a2 a3 b0 b1 b2 b3;replace a5:=kB _ _ _ (by omega) a5;replace hP:=Za (kW _ _ _ _ _ hP.out);replace O:=Za (kW _ _ _ _ _ O.out);clear kW kB q3 a6;refine hK.out _ _ ?_;clear hK K
 try simp only[Qq,Zg4,Zgk,Zgx]
 refine wpAnyL_fin ?_;obtain⟨r0,r1,-⟩:=a5.two;obtain⟨r2,r3,-⟩:=a9.two;go_wp2_with fail;refine bodyPost_ret (v:=.tuple #[.agg #[.bool np,.slice P k q],.agg #[.bool a4,.slice P' k' q']]) (by simp[results,Tryz.results159,go_sem,r0,r1,r2,r3]) rfl ?_;exact⟨b4,_,_,_,_,_,_,_,_,rfl,hP.out,O.out⟩
theorem fAdd_ok(na nb na' nb':Bool)(A B A' B':Option Addr)(n c m d n' c' m' d':Nat)(a b:Rat)(w:World)(ha:Fr w na A n c nb B m d a)(hb:Fr w na' A' n' c' nb' B' m' d' b)(sa:Sm a)(sb:Sm b) :
    Calls Tryz.prog 115 #[.agg #[.bool na,.slice A n c,.bool nb,.slice B m d],.agg #[.bool na',.slice A' n' c',.bool nb',.slice B' m' d']] w (Zir w (a+b)):=by
 obtain⟨W0,u,f,⟨q0,q1,q2⟩,s0⟩:=Zd0 w 41 #[.bool na,.slice A n c,.bool nb,.slice B m d] 41 #[.bool na',.slice A' n' c',.bool nb',.slice B' m' d'] 41 #[.bool false,.slice none 0 0,.bool false,.slice none 0 0];have hA:=Za (ha.below f);have hD:=Za (hb.below f);have hF:=λ(W:World) (h1:Fr W na A n c nb B m d a) (h2:Fr W na' A' n' c' nb' B' m' d' b)=>Add1_ok na nb na' nb' A B A' B' n c m d n' c' m' d' a b W h1 h2 (Zdk sa.1 sb.dn) (Zdk sb.1 sa.dn) (sm_addA sa.1 sb.dn sb.1 sa.dn) (Zdk sa.dn sb.dn);have hG:=Za (Zpv 159 na nb na' nb' A B A' B' n c m d n' c' m' d' a b _ _ W0 hA.out hD.out (Zdt a b) Ztm hF);rw[Zzh]at hG;clear hF ha hb sa sb hA hD;obtain⟨a0,a1,a2,a3,-⟩:=q0.four;obtain⟨b0,b1,b2,b3,-⟩:=q1.four;replace q2:=Za q2;clear q0 q1;go_enter Tryz.func115,Tryz.ntmps115;go_wp2_with fail;refine hG.out.mono ?_;rintro e w1 ⟨h,nx,Ax,kx,cx,ny,Ay,ky,cy,rfl,hX⟩;have C:Below w.heap.size w w1:=f.trans (h.mono f.size);have s1:W0.heap.size<=w1.heap.size:=h.size;replace q2:=Za (Zc h q2.out);replace hX:=Za hX;clear h a0 a1 a2 a3 b0 b1 b2 b3 f hG u;obtain⟨Y,V,U,a4,O,J,I,T⟩:=q2.out.four;go_wp2_with fail;obtain⟨W5,o,y,q2,kW,-,s5⟩:=Zal nx Ax kx cx ny Ay ky cy C (by omega) q2.out;rw[o];obtain⟨r0,r1,r2,r3,-⟩:=q2.four;refine bodyPost_ret (v:=.tuple #[.agg #[.bool nx,.slice Ax kx cx,.bool ny,.slice Ay ky cy],.int .i64 0]) (by simp[results,Tryz.results115,go_sem,r0,r1,r2,r3]) rfl ?_;exact⟨y,_,_,_,_,_,_,_,_,rfl,kW _ _ _ _ _ hX.out.1,kW _ _ _ _ _ hX.out.2⟩
theorem Zmc{t:TypeId}{w:World}{g:Nat}{a0:Bool}{A0:Option Addr}{n0 c0:Nat}{b0:Bool}{B0:Option Addr}{m0 d0:Nat}(na:Bool)(A:Option Addr)(n c:Nat)(nb:Bool)(B:Option Addr)(m d:Nat)(hb:Blk w g t #[.bool a0,.slice A0 n0 c0,.bool b0,.slice B0 m0 d0]) :
    ∃ W,(((w.setCell ⟨g,0,none⟩ (.bool na)).setCell ⟨g,1,none⟩ (.slice A n c)).setCell ⟨g,2,none⟩ (.bool nb)).setCell ⟨g,3,none⟩ (.slice B m d)=W/\Blk W g t #[.bool na,.slice A n c,.bool nb,.slice B m d]/\Kept (λk=>k=g) w W/\W.heap.size=w.heap.size:=by
 have e:Blk (w.setCell ⟨g,0,none⟩ (.bool na)) g t #[.bool na,.slice A0 n0 c0,.bool b0,.slice B0 m0 d0]:=hb.set_ 0 (.bool na);have h:Blk ((w.setCell ⟨g,0,none⟩ (.bool na)).setCell ⟨g,1,none⟩ (.slice A n c)) g t #[.bool na,.slice A n c,.bool b0,.slice B0 m0 d0]:=e.set_ 1 (.slice A n c);have f:Blk (((w.setCell ⟨g,0,none⟩ (.bool na)).setCell ⟨g,1,none⟩ (.slice A n c)).setCell ⟨g,2,none⟩ (.bool nb)) g t #[.bool na,.slice A n c,.bool nb,.slice B0 m0 d0]:=h.set_ 2 (.bool nb);have o:Blk ((((w.setCell ⟨g,0,none⟩ (.bool na)).setCell ⟨g,1,none⟩ (.slice A n c)).setCell ⟨g,2,none⟩ (.bool nb)).setCell ⟨g,3,none⟩ (.slice B m d)) g t #[.bool na,.slice A n c,.bool nb,.slice B m d]:=f.set_ 3 (.slice B m d);have k0:Kept (λk=>k=g) w w:=Kept.refl _ _;exact⟨_,rfl,o,(((k0.set_ (p:=⟨g,0,none⟩) (.inl rfl) _).set_ (p:=⟨g,1,none⟩) (.inl rfl) _).set_ (p:=⟨g,2,none⟩) (.inl rfl) _).set_ (p:=⟨g,3,none⟩) (.inl rfl) _,by simp⟩
theorem Fr.keptV{w w':World}{na:Bool}{A:Option Addr}{n c:Nat}{nb:Bool}{B:Option Addr}{m d:Nat}{r:Rat}{g:Nat}{t:TypeId}{cs:Array Value}(h:Fr w na A n c nb B m d r)(hk:Kept (λk=>k=g) w w')(hb:Blk w g t cs)(hn:NoLimb cs):Fr w' na A n c nb B m d r:=
 ⟨hk.wd h.1 (λk e=>by cases e;exact⟨_,_,hb,hn⟩),hk.wd h.2 (λk e=>by cases e;exact⟨_,_,hb,hn⟩)⟩
theorem Zxf(z:Int):QH z 1=(z:Rat):=Zg5 z
theorem Zl7(x y:Int)(w:World)(hx1:-9223372036854775808<=x)(hx2:x<=9223372036854775807)(h0:0<y)(hy:y<=9223372036854775807) :
    Calls Tryz.prog 18 #[.int .i64 x,.int .i64 y] w (Zfj w (QH x y)):=by
 obtain⟨W0,T,I,q0,s0⟩:=Zbe w 41 #[.bool false,.slice none 0 0,.bool false,.slice none 0 0];obtain⟨gR,f⟩:=Gz w.heap.size;rw[f]at q0;go_enter Tryz.func18,Tryz.ntmps18;go_wp2_with fail;(try rw[T]);(try rw[f]);rw[f]at I s0;refine(rOf_pos x y W0 hx1 hx2 h0 hy).mono ?_;rintro e w1 ⟨u,pn,pA,pk,pc,pm,pB,pj,pd,rfl,hf⟩;obtain⟨g1,J⟩:=Gz w1.heap.size;obtain⟨V1,U,qv,o⟩:=Zq (w:=w1) 41 #[.bool pn,.slice pA pk pc,.bool pm,.slice pB pj pd];rw[J]at qv;have h:=u.trans (o.mono u.size);have q1:=Zc h q0;have V:=Za (hf.below o);obtain⟨v0,v1,v2,v3,-⟩:=qv.four;obtain⟨c0,c1,c2,c3,z0,z1,z2,z3⟩:=q1.four;clear hf;replace f:=Za f;go_wp2_with fail;(try rw[J]);(try rw[U]);obtain⟨W5,O,q5,C,s5⟩:=Zmc pn pA pk pc pm pB pj pd q1;go_wp2_with fail;(try rw[O]);obtain⟨r0,r1,r2,r3,-⟩:=q5.four;refine bodyPost_ret (v:=.agg #[.bool pn,.slice pA pk pc,.bool pm,.slice pB pj pd]) (by simp[results,Tryz.results18,go_sem,r0,r1,r2,r3]) rfl ?_;refine⟨?_,_,_,_,_,_,_,_,_,rfl,V.out.keptV C q1 (Zfq _ _ _ _ _ _ _ _)⟩;rw[f.out];exact I.trans ((h.mono (by omega)).trans (C.to_below (λk e=>by omega) (by have:=h.size;omega)))
theorem Zcd(A:Option Addr)(n c:Nat)(l:List Int)(w:World)(h:LimI w A n c l)(hn9:n<=900) :
    Calls Tryz.prog 36 #[.slice A n c] w λe w'=>∃ v,e=.returned v/\Below w.heap.size w w'/\OwnF 41 w' w.heap.size v (l.map λ(z:Int)=>(z:Rat)):=by
 obtain⟨iF,hi,a6,a8,a3⟩:=info_parts Zfm;have hl:=Za h.1;have a4:=h.2.2.1;unfold maxLen at a4;have b3:=h.2.1;replace h:=Za h;go_enter Tryz.func36,Tryz.ntmps36;go_wp2_with fail
 go_loopg [3,4] n (λk ov iv wr=>∃ i:Nat,i+k=n/\iv=.int .i64 i/\Below w.heap.size w wr/\OwnF 41 wr w.heap.size ov ((l.map λ(z:Int)=>(z:Rat)).take i))
 case atStart=>exact⟨0,by omega,rfl,Qe _ _,OwnF.nil _ _ _⟩
 case round =>
  obtain⟨i,b2,rfl,hB,hO⟩:=hrel;cases gk with
  | zero =>
   obtain rfl:i=n:=by omega
   have t1:decide ((i:Int)<(i:Int))=false:=by simp
   replace hO:=Za hO;go_wp2_with fail;go_ret;refine⟨_,rfl,hB,?_⟩;have h1:=hO.out;rw[List.take_of_length_le (by rw[Qs,hl.out];exact Qd _)]at h1;exact h1
  | succ k' =>
   obtain rfl:k'=n-(i+1):=by omega
   have J:i<n:=by omega
   have t1:decide ((i:Int)<(n:Int))=true:=Gv (by omega);have bi:(i:Int)<(n:Int):=by omega
   have hq:=h.out.below hB;have hz:=Zif hq.2.2.2.1 i;obtain⟨g,o,rfl,hc⟩:=hq.2.2.2.2 (by omega);have k0:=hc i J;have C:=hz;unfold I64 at C;obtain⟨z,f⟩:=Gz (l[i]?.getD 0);rw[f]at k0 C;replace hO:=Za hO;clear hc hq;go_wp2_with fail;refine(Zl7 z 1 wr (by omega) (by omega) (by decide) (by decide)).mono ?_;rintro e w3 ⟨a2,na,B1,m1,d1,nb,B2,m2,d2,rfl,hf⟩;rw[Zxf]at hf;have hs:=hB.size;have I:((l.map λ(z:Int)=>(z:Rat)).take i).length+1<=1000:=by rw[QF,Qs];omega
   have a5:Hid ((l.map λ(z:Int)=>(z:Rat)).take i ++ [(z:Rat)]=(l.map λ(z:Int)=>(z:Rat)).take (i+1)):=Za (by
    rw[List.take_add_one,Qf,Qa (l:=l) (i:=i) (by rw[hl.out];exact J)];rw[Qa (l:=l) (i:=i) (by rw[hl.out];exact J)]at f;simp only[Qg]at f;rw[f];rfl)
   obtain⟨gy,a1⟩:=Gz w3.heap.size;obtain⟨Y1,u⟩:=Gz (w3.alloc (.cells #[.bool na,.slice B1 m1 d1,.bool nb,.slice B2 m2 d2] 41));have U:Below w3.heap.size w3 Y1:=by rw[<- u];exact(Qe _ _).alloc (Qd _) _
   have a9:Blk Y1 gy 41 #[.bool na,.slice B1 m1 d1,.bool nb,.slice B2 m2 d2]:=by rw[<- u,<- a1];exact Blk.new _ _ _
   have a7:Fr Y1 na B1 m1 d1 nb B2 m2 d2 (z:Rat):=hf.below U;have T:=a2.trans (U.mono a2.size);have O:=hO.out.kept T;have V:=hB.trans (T.mono hs);have a0:=V.size;replace I:=Za I;clear hf f hz C;go_wp2_with ((try rw[u]);(try rw[a1]);at_builtin;refine Zdl _ rfl (.tmp 11) (.tmp 17) 35 rfl w.heap.size 41 iF Tryz.underlying35 hi a6 a8 a3 _ _ rfl O _ (some ⟨gy,0,none⟩) 1 1 [⟨na,B1,m1,d1,nb,B2,m2,d2,(z:Rat)⟩] rfl (Zbm _ a9) rfl (by intro e he;rw[Qo]at he;subst he;exact a7) I.out a0 ?_;intro v2 w5 y b0 b4);have b1:=V.grown b0 a0 (λk hk=>O.row_ge k hk);simp only[List.map_cons,List.map_nil]at y;rw[a5.out]at y
   go_roundg (n-(i+1))
   case measure=>omega
   case rel=>exact⟨i+1,by omega,by go_num,b1,y⟩
theorem Z0z{rs:List RI}{ws:List Int}{n m i:Nat}(h:i<m):(Zc1 rs ws n m)[i]?.getD []=Zqj rs ws n m i:=by
 unfold Zc1 Zqj;rw[Qf,Qr h];rfl
theorem b40_out{least x:Int}(h:Zpq least x=false)(h0:-1099511627776<=least):B40 x:=by
 unfold Zpq at h;simp only[Qx,decide_eq_false_iff_not]at h;unfold B40;omega
theorem Zmb{least:Int}{l:List Int}(h:Zik least l=false)(h0:-1099511627776<=least)(i:Nat):B40 (l[i]?.getD 0):=by
 unfold Zik at h;rw[Qy]at h;by_cases hi:i<l.length
 ·rw[Qa hi]
  exact b40_out (by simpa using h _ (Ql hi)) h0
 ·rw[Qh (by omega)]
  show (0:Int).natAbs<=_;decide
theorem sys_b40{rs:List RI}{rr ws:List Int}(h:Zdx rs rr ws=0):(∀ r k,B40 (Zce rs k r))/\(∀ r,B40 (Zji rr r))/\∀ r,B40 (Zji ws r):=by
 obtain⟨f1,f2,f3,f4,f5,f6,f7,f8⟩:=Ziu h;refine⟨λr k=>?_,λr=>Zmb f7 (by decide) r,λr=>Zmb f6 (by decide) r⟩;unfold Zce;by_cases hr:r<rs.length
 ·rw[Qa hr]
  exact Zmb (f8 _ (Ql hr)).2 (by decide) k
 ·rw[Qh (l:=rs) (i:=r) (by omega)]
  show (0:Int).natAbs<=_;decide
def Zee(rs:List RI)(ws:List Int)(n:Nat):Nat->Nat->Rat:=λi j=>((Zb9 ws (Zce rs i) (Zce rs j) n:Int):Rat)
section
variable{rs:List RI}{rr ws:List Int}{n m:Nat}
theorem BndQ.den{B:Nat}{q:Rat}(h:BndQ B q):q.den=1:=by
 obtain⟨z,rfl,-⟩:=h;exact Rat.den_intCast z
theorem BndQ.num{B:Nat}{q:Rat}(h:BndQ B q):q.num.natAbs<=B:=by
 obtain⟨z,rfl,hz⟩:=h;rw[Rat.num_intCast];exact hz
end
theorem Zp3{B:Nat}{R:List (List Rat)}(h:∀ i j,BndQ B (Zh R i j))(i k:Nat):denTo (R[i]?.getD []) k=1:=by
 have h1:=Zqy (R[i]?.getD []) (D:=1) (λj=>by
  have:=(h i j).den;unfold Zh at this;rw[this];exact Qd _) k
 have h2:=Zed (R[i]?.getD []) k;rw[Nat.one_pow]at h1;omega
theorem Zx6{B:Nat}{R:List (List Rat)}(h:∀ i j,BndQ B (Zh R i j))(i j:Nat):(Zah (Z8 R) i j).natAbs<=B:=by
 have h1:=Zgo R i j;obtain⟨z,hz,hb⟩:=h i j;have hd:denAt R i=1:=Zp3 h i _;rw[hd,hz]at h1
 have h2:((Zah (Z8 R) i j:Int):Rat)=(z:Rat):=by
  rw[h1];have:((1:Nat):Rat)=1:=rfl;rw[this];grind
 rw[Rat.intCast_inj.1 h2];exact hb
theorem Zqb{b n m:Nat}{R:List (List Rat)}(h:∀ i j,BndQ (pw b) (Zh R i j))(hl:R.length=n)(hn:n<=900)(hrow:∀ i,i<n->(R[i]?.getD []).length=m)(hnm:n<=m)(h1:(b+1)*n<189)(hb:b<900) :
    okZ (pw 200) m n 0 0 (Z8 R) 1/\okR (pw 200) (pw 200) m n 0 0 R/\Zrh R n m/\(Zar n 0 0 (Z8 R) false 1).2.1=(Zbd n 0 0 R false).2.1/\(Zbd n 0 0 R false).2.1<=n /\
    ((Zbd n 0 0 R false).2.1<n->Zau n (Zh R)=0) /\
    ((Zbd n 0 0 R false).2.1=n->Zau n (Zh R)≠0/\∃ X:Nat->Nat->Rat,Zg6 (Zh (Zbd n 0 0 R false).1) X n m/\Zg6 (λi j=>(Zah (Zar n 0 0 (Z8 R) false 1).1 i j:Rat)) X n m/\SolQ (Zh R) X n m):=by
 have e:=Zj4 (b:=b) n hn;obtain⟨B,hB⟩:=Gz (Zbn (pw b) n);rw[hB]at e;obtain⟨d,hd⟩:=Gz ((b+1)*n);rw[hd]at e h1;have bb:B*B<=pw (d+d):=Zy1 e e
 have g1:(n+1)*(B*B)<pw 400:=by
  have h6:(n+1)*(B*B)<=pw (1+(d+d)):=Zy1 (k_pw (by omega)) bb;exact Qc h6 (Zc4 (by omega))
 have g2:B*B*1<pw 400:=by rw[QE];exact Qc bb (Zc4 (by omega))
 have g3:B*1<pw 300:=by rw[QE];exact Qc e (Zc4 (by omega))
 have hs:=Zut (B:=pw b) (S:=1) (Zb2 _) (Qd _) R hl hrow (λi hi=>Nat.le_of_eq (Zp3 h i _)) (λi j _=>Zx6 h i j) hnm (by rw[hB];exact g1) (by rw[hB];exact g2) (by rw[hB];exact g3);rw[hB,QE]at hs;obtain⟨o1,o2,o3,o4,o5,o6⟩:=hs;have p1:B+1<=pw 200:=Qb (Nat.add_le_add e (Zb2 d)) (Qb (Zpu d) (Zb4 (by omega)));have p2:B<pw 200:=p1;refine⟨Zno p2 _ _ _ _ _ o1,Zmp p2 p2 _ _ _ _ o2,⟨λi t hi ht=>?_,λi j=>?_⟩,o3,o4,o5,λhr=>?_⟩;rw[Zp3 h];exact QC Zef (Zb4 (by decide));exact Qc (h i j).num (Zc4 (by omega))
 ·obtain⟨q1,X,q2,q3,q4,-⟩:=o6 hr
  exact⟨q1,X,q2,q3,q4⟩
section
variable{rs:List RI}{rr ws:List Int}{n m:Nat}
end
theorem Zvl{w:World}{A:Option Addr}{n c:Nat}{rs:List RI}{rr ws:List Int}(h:MIL w A n c rs)(hE:Zdx rs rr ws=0):0<n/\n<=200/\0<n0I rs/\n0I rs<=12/\rr.length=n/\ws.length=n/\∀ r ∈ rs,r.n=n0I rs:=by
 obtain⟨f1,f2,f3,f4,f5,f6,f7,f8⟩:=Ziu hE;have hl:=h.1
 have e:0<n:=by
  rcases Nat.eq_zero_or_pos n with h0|h0
  ·exfalso
   have:rs=[]:=List.eq_nil_of_length_eq_zero (by omega);subst this;exact f3 rfl
  exact h0
 have f:n0I rs<=12:=by
  obtain⟨_,_,r0,_,o,_⟩:=h.at_ (i:=0) e;have h1:=Qi o;rw[<- (f8 r0 h1).1];exact f2 r0 h1
 exact⟨e,by omega,by omega,f,by omega,by omega,λr hr=>(f8 r hr).1⟩
def Z6(A:Nat->Nat->Rat):Nat->Nat->Nat->Rat
 | 0,i,k=>A i k
 | t+1,i,k=>if t<i then Z6 A t i k-Z6 A t i t/Z6 A t t t*Z6 A t t k else Z6 A t i k
theorem Zfe{A:Nat->Nat->Rat}{t i k:Nat}(h:t<i):Z6 A (t+1) i k=Z6 A t i k-Z6 A t i t/Z6 A t t t*Z6 A t t k:=by
 show (if t<i then _ else _)=_;rw[Gx h]
theorem Zfh{A:Nat->Nat->Rat}{n:Nat}(hA:∀ i k,i<n->k<n->A i k=A k i):∀ (t i k:Nat),t<=i->t<=k->i<n->k<n->Z6 A t i k=Z6 A t k i
 | 0,i,k,_,_,hi,hk=>hA i k hi hk
 | t+1,i,k,h1,h2,hi,hk=>by
  rw[Zfe (by omega),Zfe (by omega),Zfh hA t i k (by omega) (by omega) hi hk,Zfh hA t i t (by omega) (by omega) hi (by omega),Zfh hA t t k (by omega) (by omega) (by omega) hk];rw[Rat.div_def,Rat.div_def]
  grind
theorem Zc8{A C:Nat->Nat->Rat}{n m:Nat}(h:∀ i k,i<n->k<m->A i k=C i k)(hnm:n<=m):∀ (t i k:Nat),t<=n->i<n->k<m->Z6 A t i k=Z6 C t i k
 | 0,i,k,_,hi,hk=>h i k hi hk
 | t+1,i,k,ht,hi,hk=>by
  show (if t<i then _ else _)=(if t<i then _ else _);rw[Zc8 h hnm t i k (by omega) hi hk,Zc8 h hnm t i t (by omega) hi (by omega),Zc8 h hnm t t t (by omega) (by omega) (by omega),Zc8 h hnm t t k (by omega) (by omega) hk]
def dQ(A:Nat->Nat->Rat)(i:Nat):Rat:=Z6 A i i i
def lQ(A:Nat->Nat->Rat)(i k:Nat):Rat:=Z6 A k i k/dQ A k
theorem Zl9{A:Nat->Nat->Rat}{n:Nat}(hA:∀ i k,i<n->k<n->A i k=A k i){t i k:Nat}(ht:t<k)(hk:k<=i)(hi:i<n)(hd:dQ A t≠0) :
    Z6 A (t+1) i k=Z6 A t i k-lQ A i t*lQ A k t*dQ A t:=by
 rw[Zfe (by omega),Zfh hA t t k (by omega) (by omega) (by omega) (by omega)];unfold lQ dQ at *
 grind
theorem Zx2{A:Nat->Nat->Rat}{t i k:Nat}(ht:t<i):Z6 A (t+1) i k=Z6 A t i k-lQ A i t*Z6 A t t k:=by
 rw[Zfe ht];rfl
def Zpe(R:List (List Rat)):Nat->List (List Rat)
 | 0=>R
 | t+1=>Zcv (Zpe R t) t t
def posP(A:Nat->Nat->Rat)(n:Nat):Prop:=∀ t,t<n->0<dQ A t
theorem posP.mono{A:Nat->Nat->Rat}{n m:Nat}(h:posP A n)(hm:m<=n):posP A m:=λt ht=>h t (by omega)
theorem posP.ne{A:Nat->Nat->Rat}{n:Nat}(h:posP A n){t:Nat}(ht:t<n):dQ A t≠0:=λh0=>by have:=h t ht;rw[h0]at this;exact absurd this (by decide)
section
variable{B S n m:Nat}{R:List (List Rat)}
theorem Zic{pc:Nat->Nat}{G:Nat->Nat->Rat}{s:Nat->Rat}(h0:EIR B S n m 0 0 R pc G s):∀ t,t<=n->t<=m->posP (Zh R) t->(∃ pc,EIR B S n m t t (Zpe R t) pc G s)/\∀ i k,i<n->Zh (Zpe R t) i k=Z6 (Zh R) t i k
 | 0,_,_,_=>⟨⟨_,h0⟩,λi k _=>rfl⟩
 | t+1,hn,hm,hp=>by
  obtain⟨⟨pc,h1⟩,h2⟩:=Zic h0 t (by omega) (by omega) (hp.mono (by omega));have h0:Zh (Zpe R t) t t≠0:=by rw[h2 t t (by omega)];exact hp.ne (by omega)
  refine⟨⟨_,h1.clear (by omega) (by omega) h0⟩,λi k hi=>?_⟩;show Zh (Zcv (Zpe R t) t t) i k=if t<i then _ else _;rw[Zgq (m:=m) (λi hi=>h1.row i (by rw[h1.len]at hi;exact hi)) (λj hj=>h1.low t j (Qd _) (by omega) hj) i k (by rw[h1.len];exact hi) (by rw[h1.len];omega)]
  by_cases hti:t<i;rw[Gw (by omega),Gx hti,h2 i k hi,h2 i t hi,h2 t t (by omega),h2 t k (by omega)];rw[Gx (by omega),Gw hti,h2 i k hi]
theorem Zze(hl:R.length=n)(hrow:∀ i,i<n->(R[i]?.getD []).length=m)(hS:∀ i,i<n->denAt R i<=S)(hBd:∀ i j,i<n->(Zah (Z8 R) i j).natAbs<=B)(t:Nat)(hn:t<=n)(hm:t<=m)(hp:posP (Zh R) t) :
    (∃ pc G s,EIR B S n m t t (Zpe R t) pc G s)/\∀ i k,i<n->Zh (Zpe R t) i k=Z6 (Zh R) t i k:=by
 obtain⟨⟨pc,h1⟩,h2⟩:=Zic (Zm9 R hl hrow hS hBd).1 t hn hm hp;exact⟨⟨_,_,_,h1⟩,h2⟩
theorem Zsz{D:Nat}(hl:R.length=n)(hrow:∀ i,i<n->(R[i]?.getD []).length=m)(hD:0<D)(hB:∀ i j,i<n->BndQ B ((D:Nat)*Zh R i j)):EIR B D n m 0 0 R (λ_=>0) (λi j=>(D:Nat)*Zh R i j) (λ_=>(D:Nat)):=by
 refine⟨hl,hrow,λl h=>by omega,λl l' _ h=>by omega,λi j _ _ h=>by omega,λl j h=>by omega,λl h=>by omega,Qu _,Qu _,λi hi=>⟨⟨(D:Nat),by rw[QA],by rw[QD];exact Qd _⟩,λh0=>?_⟩,λi j hi=>hB i j hi,λN f σ _ _ _=>rfl⟩;have:D=0:=by exact_mod_cast h0
 omega
end
section
variable{k n m:Nat}{R:List (List Rat)}
end
theorem SmE.red2{k n m:Nat}{R:List (List Rat)}(h:SmE k R)(hl:R.length=n)(hn:n<=900)(hrow:∀ i,i<n->(R[i]?.getD []).length=m){t:Nat}(ht:t<=n)(htm:t<=m)(hp:posP (Zh R) t){i:Nat}(hi:i<n)(j:Nat):SmN ((k*m+k+1)*n+1) ((k*m+k+1)*n+k*m+1) (Z6 (Zh R) t i j):=by
 obtain⟨⟨pc,G,s,h3⟩,h4⟩:=Zze (B:=pw (k*m+k)) (S:=pw (k*m)) hl hrow (λi hi=>h.denAt (hrow i hi)) (λi j hi=>h.whole (hrow i hi) j) t ht htm hp;obtain⟨h5,h6⟩:=h3.bound (Zb2 _) hi j;rw[h4 i j hi]at h5 h6;have hb:=Zj4 (b:=k*m+k) n hn;refine⟨Qc (Qb h5 hb) (Zc4 (by omega)),?_⟩;refine Qc (Qb h6 (Qp hb (Qd _))) ?_;rw[<- Zcs];exact Zc4 (by omega)
structure FacP (A:Nat->Nat->Rat) (n:Nat):Prop where
 sym:∀ i k,i<n->k<n->A i k=A k i
 s:∀ t i k,t<=n->posP A t->i<n->k<n->SmN 380 380 (Z6 A t i k)
 l:∀ i k,k<=i->i<n->posP A (k+1)->SmN 300 300 (lQ A i k)
section
variable{A:Nat->Nat->Rat}{n:Nat}
theorem FacP.d(h:FacP A n){k:Nat}(hk:k<n)(hp:posP A k):SmN 380 380 (dQ A k):=h.s k k k (by omega) hp hk hk
theorem FacP.ll(h:FacP A n){i j k:Nat}(hki:k<=i)(hi:i<n)(hkj:k<=j)(hj:j<n)(hp:posP A (k+1)):SmN 600 600 (lQ A i k*lQ A j k):=((h.l i k hki hi hp).mulN (h.l j k hkj hj hp)).mono (by decide) (by decide)
theorem FacP.lld(h:FacP A n){i j k:Nat}(hki:k<=i)(hi:i<n)(hkj:k<=j)(hj:j<n)(hp:posP A (k+1)):SmN 980 980 (lQ A i k*lQ A j k*dQ A k):=((h.ll hki hi hkj hj hp).mulN (h.d (show k<n by omega) (hp.mono (by omega)))).mono (by decide) (by decide)
end
theorem FacP.unif{n D b e:Nat}{R:List (List Rat)}(hl:R.length=n)(hn:n<=900)(hrow:∀ i,i<n->(R[i]?.getD []).length=n)(hA:∀ i k,i<n->k<n->Zh R i k=Zh R k i)(hD:0<D)(hDe:D<=pw e)(hB:∀ i j,i<n->BndQ (pw b) ((D:Nat)*Zh R i j))
    (h1:(b+1)*n<300) (h2:(b+1)*n+e<380):FacP (Zh R) n:=by
 have h0:=Zsz hl hrow hD hB;have hb:=Zj4 (b:=b) n hn
 have o:((D:Nat):Rat)≠0:=λh=>by
  have:D=0:=by exact_mod_cast h
  omega
 refine⟨hA,λt i j ht hp hi _=>?_,λi k hki hi hp=>?_⟩
 ·obtain⟨⟨pc,h3⟩,h4⟩:=Zic h0 t ht ht hp
  obtain⟨h5,h6⟩:=h3.bound (Zb2 _) hi j;rw[h4 i j hi]at h5 h6;refine⟨Qc (Qb h5 hb) (Zc4 (by omega)),?_⟩;refine Qc (Qb h6 (Qp hb hDe)) ?_;rw[<- Zcs];exact Zc4 (by omega)
 ·obtain⟨⟨pc,h3⟩,h4⟩:=Zic h0 k (by omega) (by omega) (hp.mono (by omega))
  have m1:=h3.minor hi k;have m2:=h3.minor (show k<n by omega) k;rw[show min i k=k by omega,h4 i k hi]at m1;rw[Nat.min_self,h4 k k (by omega)]at m2;have hd:Z6 (Zh R) k k k≠0:=hp.ne (by omega);have f:=h3.piv_ne (l:=k) (Qd _)
  have e1:Zeu (Zpe R k) pc (λ_=>((D:Nat):Rat)) k*(((D:Nat):Rat)*Z6 (Zh R) k k k)*lQ (Zh R) i k=Zeu (Zpe R k) pc (λ_=>((D:Nat):Rat)) k*(((D:Nat):Rat)*Z6 (Zh R) k i k):=by
   unfold lQ dQ
   grind
  rw[<- e1]at m1
  obtain⟨h5,h6⟩:=Ze0 m1 m2 (λh=>by
   rcases Rat.mul_eq_zero.1 h with h7|h7;exact f h7
   ·rcases Rat.mul_eq_zero.1 h7 with h8|h8
    exact o h8
    ·exact hd h8)
  have hm:=Zcz (B:=pw b) (m:=k+1) (n:=n) (Zb2 _) (by omega);exact⟨Qc (Qb h5 (Qb hm hb)) (Zc4 (by omega)),Qc (Qb h6 (Qb hm hb)) (Zc4 (by omega))⟩
theorem FacP.of{k n:Nat}{R:List (List Rat)}(h:SmE k R)(hl:R.length=n)(hn:n<=900)(hrow:∀ i,i<n->(R[i]?.getD []).length=n)(hA:∀ i k,i<n->k<n->Zh R i k=Zh R k i)(h1:(k*n+k+1)*n+((k*n+k+1)*n+k*n)+2<=300):FacP (Zh R) n:=by
 refine⟨hA,λt i j ht hp hi _=>(h.red2 hl hn hrow ht ht hp hi j).mono (by omega) (by omega),λi j hji hi hp=>?_⟩;have hj:j<n:=by omega
 have a:=h.red2 hl hn hrow (t:=j) (by omega) (by omega) (hp.mono (by omega)) hi j;have b:=h.red2 hl hn hrow (t:=j) (by omega) (by omega) (hp.mono (by omega)) hj j;exact(a.divN b (hp.ne (by omega))).mono (by omega) (by omega)
def FX.fine64(e:FX):Bool:=decide (e.few<=64) && e.ok
def Zdi(es:List FX):Bool:=es.all FX.fine64
def RX.long6(r:RX):Bool:=decide (6<r.n)
def long6(rs:List RX):Bool:=decide (6<rs.length) || rs.any RX.long6
def Zer(k:Nat)(r:RX):Bool:=decide (r.n=k) && Zdi r.es
def Zii(Q:List (List Rat)):Bool:=decide (∀ i,i<Q.length->∀ k,k<i->Zh Q i k=Zh Q k i)
def Zrk(A:Nat->Nat->Rat)(n:Nat):Bool:=decide (∀ t,t<n->0<dQ A t)
theorem posB_iff{A:Nat->Nat->Rat}{n:Nat}:Zrk A n=true ↔ posP A n:=by unfold Zrk posP;rw[decide_eq_true_eq]
def Zaf(rs:List RX):Int:=if long6 rs=true then 4 else if rs.length=0 then 8 else if rs.all (Zer rs.length)=true then (if (Zii (qM rs) && Zrk (Zh (qM rs)) rs.length)=true then 0 else 8)else 8
section
variable{rs:List RX}
theorem Zkf(h:long6 rs=true):Zaf rs=4:=by unfold Zaf;rw[Gx h]
theorem Zza(h:long6 rs=false)(h0:rs.length=0):Zaf rs=8:=by unfold Zaf;rw[Gw (by simp[h]),Gx h0]
theorem Zyp(h:long6 rs=false)(h0:rs.length≠0){r:RX}(hr:r ∈ rs)(hb:Zer rs.length r=false):Zaf rs=8:=by
 unfold Zaf;rw[Gw (by simp[h]),Gw h0,Gw];intro e;rw[Qj]at e;have:=e r hr;rw[hb]at this;cases this
theorem Zt8(h:Zaf rs=0):0<rs.length/\rs.length<=6/\(∀ r ∈ rs,r.n=rs.length/\Zdi r.es=true)/\Zii (qM rs)=true/\posP (Zh (qM rs)) rs.length:=by
 unfold Zaf at h;by_cases h1:long6 rs=true;rw[Gx h1]at h;cases h;rw[Gw h1]at h;by_cases h2:rs.length=0;rw[Gx h2]at h;cases h;rw[Gw h2]at h;by_cases h3:rs.all (Zer rs.length)=true
 ·rw[Gx h3]at h
  by_cases h4:(Zii (qM rs) && Zrk (Zh (qM rs)) rs.length)=true
  ·rw[Qm]at h4
   have h5:long6 rs=false:=by simpa using h1
   unfold long6 at h5;rw[Qx]at h5;have h6:=of_decide_eq_false h5.1;refine⟨by omega,by omega,λr hr=>?_,h4.1,posB_iff.1 h4.2⟩;rw[Qj]at h3;have h7:=h3 r hr;unfold Zer at h7;rw[Qm,decide_eq_true_eq]at h7;exact h7
  rw[Gw h4]at h;cases h
 rw[Gw h3]at h;cases h
theorem symB_iff{Q:List (List Rat)}:Zii Q=true ↔ ∀ i k,i<Q.length->k<Q.length->Zh Q i k=Zh Q k i:=by
 unfold Zii;rw[decide_eq_true_eq];constructor
 ·intro h i k hi hk
  rcases Nat.lt_trichotomy i k with h1|h1|h1;exact(h k hk i h1).symm;rw[h1];exact h i hi k h1
 ·intro h i hi k hk
  exact h i k hi (by omega)
theorem Zsr{es:List FX}(h:Zdi es=true):∀ e ∈ es,e.ok=true:=λe he=>by
 unfold Zdi at h;rw[Qj]at h;have:=h e he;unfold FX.fine64 at this;rw[Qm]at this;exact this.2
end
def Zne(k:Nat)(rs:List RX):Prop:=∀ r ∈ rs,∀ e ∈ r.es,e.few<=k \/ 64<e.few
section
variable{w:World}{A:Option Addr}{n c:Nat}{rs:List RX}
theorem Zq8{e:FX}(hin:e.in_ w)(hk:e.ok=true){k:Nat}(hf:e.few<=k):(e.q).num.natAbs<=pw k/\(e.q).den<=pw k:=by
 have h1:Fr w e.na e.A e.n e.c e.nb e.B e.m e.d e.q:=Zt5 hin.1 hin.2 hk;have h2:=h1.1.lim.len;have h3:=h1.2.lim.len;unfold FX.few at hf;constructor
 ·have h4:=Nat.le_of_lt (Zcp e.q.num.natAbs)
  rw[h2]at h4;exact Qb h4 (Zb4 (by omega))
 ·have h4:=Nat.le_of_lt (Zcp ((e.q.den:Int).natAbs))
  rw[h3]at h4;simp only[QD]at h4;exact Qb h4 (Zb4 (by omega))
end
def covV(rs:List RX):Prop:=long6 rs=false/\rs.length≠0/\rs.all (Zer rs.length)=true
def FacC(rs:List RX):Prop:=covV rs->Zii (qM rs)=true->FacP (Zh (qM rs)) rs.length
section
variable{w:World}{A:Option Addr}{n c:Nat}{rs:List RX}
theorem covV.facts(h:covV rs):0<rs.length/\rs.length<=6/\∀ r ∈ rs,r.n=rs.length/\Zdi r.es=true:=by
 obtain⟨h1,h2,h3⟩:=h;unfold long6 at h1;rw[Qx]at h1;have h6:=of_decide_eq_false h1.1;refine⟨by omega,by omega,λr hr=>?_⟩;rw[Qj]at h3;have h7:=h3 r hr;unfold Zer at h7;rw[Qm,decide_eq_true_eq]at h7;exact h7
theorem Zgh(h:Zaf rs=0):covV rs/\Zii (qM rs)=true/\posP (Zh (qM rs)) rs.length:=by
 obtain⟨h1,h2,h3,h4,h5⟩:=Zt8 h;refine⟨⟨?_,by omega,?_⟩,h4,h5⟩
 ·cases hl:long6 rs with
  | false=>rfl
  | true=>rw[Zkf hl]at h;cases h
 ·rw[Qj]
  intro r hr;unfold Zer;rw[Qm,decide_eq_true_eq];exact h3 r hr
theorem covV.E(h:covV rs):Zaf rs=if (Zii (qM rs) && Zrk (Zh (qM rs)) rs.length)=true then 0 else 8:=by
 obtain⟨h1,h2,h3⟩:=h;unfold Zaf;rw[Gw (by rw[h1];decide),Gw h2,Gx h3]
theorem covV.asym(h:covV rs)(hs:Zii (qM rs)=false):Zaf rs=8:=by rw[h.E,hs];rfl
theorem covV.pos(h:covV rs)(hs:Zii (qM rs)=true)(hp:posP (Zh (qM rs)) rs.length):Zaf rs=0:=by
 rw[h.E,hs,posB_iff.2 hp];rfl
theorem covV.neg(h:covV rs)(hs:Zii (qM rs)=true)(hp:¬ posP (Zh (qM rs)) rs.length):Zaf rs=8:=by
 have:Zrk (Zh (qM rs)) rs.length=false:=by
  cases hb:Zrk (Zh (qM rs)) rs.length with
  | false=>rfl
  | true=>exact absurd (posB_iff.1 hb) hp
 rw[h.E,hs,this];rfl
theorem covV.good(hV:covV rs)(h:MXL w A n c rs):MFL w A n c (qM rs):=h.mfl λr hr=>Zsr (hV.facts.2.2 r hr).2
theorem covV.row(hV:covV rs)(h:MXL w A n c rs)(i:Nat)(hi:i<n):((qM rs)[i]?.getD []).length=n:=by
 unfold qM;rw[Qf,Qa (by rw[h.1];exact hi)];simp only[Qw,Qg,Qs];have hr:rs[i]'(by rw[h.1];exact hi) ∈ rs:=Ql _;have h4:=(h.2.2.2.1 _ hr).1;rw[h4,(hV.facts.2.2 _ hr).1,h.1]
theorem covV.small(hV:covV rs)(h:MXL w A n c rs){k:Nat}(hf:Zne k rs):SmE k (qM rs):=λi j=>by
 unfold Zh qM;rw[Qf];cases hr:rs[i]? with
 | none=>exact⟨Qu _,Zb2 _⟩
 | some r =>
  simp only[Qw,Qg,Qf];cases he:r.es[j]? with
  | none=>exact⟨Qu _,Zb2 _⟩
  | some e =>
   simp only[Qw,Qg];have f:=Qi hr;have o:=Qi he;have h5:=(hV.facts.2.2 r f).2;unfold Zdi at h5;rw[Qj]at h5;have h6:=h5 e o;unfold FX.fine64 at h6;rw[Qm,decide_eq_true_eq]at h6;refine Zq8 ((h.2.2.2.1 r f).2.2.2.1 e o) h6.2 ?_;rcases hf r f e o with h7|h7 <;> omega
theorem covV.small64(hV:covV rs)(h:MXL w A n c rs):SmE 64 (qM rs):=hV.small h (λr _ e _=>Qt 64 e.few |>.symm)
theorem SmE.smC{k:Nat}{Q:List (List Rat)}(h:SmE k Q)(hk:k<1000)(i j:Nat):Sm (Zh Q i j):=
 ⟨Qc (h i j).1 (Zc4 hk),Qc (h i j).2 (Zc4 hk)⟩
theorem covV.fac(hV:covV rs)(h:MXL w A n c rs)(hs:Zii (qM rs)=true){k:Nat}(hf:Zne k rs)(hb:(k*n+k+1)*n+((k*n+k+1)*n+k*n)+2<=300):FacP (Zh (qM rs)) n:=by
 have h6:=hV.facts.2.1;have hl:(qM rs).length=n:=Zus h;have hn:rs.length=n:=h.1;exact FacP.of (hV.small h hf) hl (by omega) (λi hi=>hV.row h i hi) (λi k hi hk=>symB_iff.1 hs i k (by omega) (by omega)) hb
theorem FacC.of(h:MXL w A n c rs){k:Nat}(hf:Zne k rs)(hb:n<=6->(k*n+k+1)*n+((k*n+k+1)*n+k*n)+2<=300):FacC rs:=λhV hs=>by
 have hn:rs.length=n:=h.1;rw[hn];exact hV.fac h hs hf (hb (by have:=hV.facts.2.1;omega))
theorem MFL.atS{w:World}{g o n c:Nat}{Q:List (List Rat)}(h:MFL w (some ⟨g,o,none⟩) n c Q){k:Nat}(hk:k<n):∃ A' n' c',w.cell? ⟨g,o+k,none⟩=some (.slice A' n' c')/\FL w A' n' c' (Q[k]?.getD []):=by
 obtain⟨g',o',A',n',c',e,h1,h2⟩:=h.at_ hk;cases e;exact⟨_,_,_,h1,h2⟩
theorem cmpQ_zero{a b:Rat}:cmpQ a b=0 ↔ a=b:=by
 unfold cmpQ;constructor
 ·intro h
  split at h
  cases h
  ·split at h
   cases h
   ·rename_i h1 h2
    exact Rat.le_antisymm (Rat.not_lt.1 h2) (Rat.not_lt.1 h1)
 ·intro h
  subst h;rw[Gw Rat.lt_irrefl,Gw Rat.lt_irrefl]
end
theorem Zet{P:Program}{ops:Array Oper}{Q:Exit->Act->World->Prop}{md:Region.Mode}{L:List Nat}{S:World->Prop}{i j:Nat}{oi oj:Oper}{fuel:Nat}{listed:Array Bool}{a:Act}{w:World}(hi:ops[i]?=some oi)(hj:ops[j]?=some oj)(hr:Region.ready md ops listed=[i,j])
    (h1:∀ K':Act->World->Prop,Shut (∀ a w,(Zcu L (listed.setIfInBounds i true)=true->S w)->Zaa P md ops Q L S fuel (listed.setIfInBounds i true) a w->K' a w)->if Region.wanted oi (yielded ops a.tmps)=true then Oper.wp P oi a w K' Q else K' (a.put oi.dst undef) w)
    (h2:∀ K':Act->World->Prop,Shut (∀ a w,(Zcu L (listed.setIfInBounds j true)=true->S w)->Zaa P md ops Q L S fuel (listed.setIfInBounds j true) a w->K' a w)->if Region.wanted oj (yielded ops a.tmps)=true then Oper.wp P oj a w K' Q else K' (a.put oj.dst undef) w) :
    Zaa P md ops Q L S (fuel+1) listed a w:=
 ⟨(λh0=>by rw[h0]at hr;cases hr),λk hk=>by
  rw[hr]at hk;rcases List.mem_cons.1 hk with e|e;subst e;exact wpOp_step hi (λK' hK=>h1 K' (λa w hS hW=>hK a w ⟨hS,hW⟩))
  ·rw[Qo]at e;subst e;exact wpOp_step hj (λK' hK=>h2 K' (λa w hS hW=>hK a w ⟨hS,hW⟩))⟩
def FacM(tS tN:TypeId)(w:World)(base:Nat)(v1 v2:Value)(rs:List RS)(Q:List (List Rat))(ds:List Rat):Prop:=
 MatOA tS tN w base v1 rs Q/\OwnF tN w base v2 ds/\∀ r ∈ rs,∀ k,r.val.ownBlock=some k->v2.ownBlock≠some k
section
variable{tS tN:TypeId}{w w':World}{base:Nat}{v v1 v1' v2 v2':Value}{rs:List RS}{Q:List (List Rat)}{ds qs:List Rat}
theorem OwnF.blt(h:OwnF tN w base v qs):∀ k,v.ownBlock=some k->k<w.heap.size:=λk hk=>by
 obtain⟨cs,hb,-,-⟩:=h.ownBlk k hk;exact hb.lt
theorem OwnF.grownO{b:Nat}(h:OwnF tN w b v qs)(hg:w.grownBy w' v2.ownBlock)(hne:∀ k,v.ownBlock=some k->v2.ownBlock≠some k)(hk:∀ (A:Option Addr) (n c:Nat) (l:List Nat),Lim w A n c l->Lim w' A n c l):OwnF tN w' b v qs:=by
 obtain⟨es,e1,e2,e3⟩:=h;refine⟨es,?_,λe he=>(e2 e he).of_keep hk,e3⟩;rcases e1 with e1|⟨g2,sp,e4,e5,e6,e7⟩;exact .inl e1
 ·exact .inr ⟨g2,sp,e4,e5,e6,(hg.block g2 e7.lt (λe=>hne g2 (by rw[e4];rfl) (by first|exact e|exact e.symm))).trans e7⟩
theorem RowS.grownR{rs:List RS}(h:RowS tS w base v1 rs)(hO:OwnF tN w base v2 ds)(hts:tS≠tN)(hg:w.grownBy w' v2.ownBlock):RowS tS w' base v1 rs:=by
 rcases h with h|⟨g',sp,h1,h2,h3,h4⟩;exact .inl h
 ·refine .inr ⟨g',sp,h1,h2,h3,(hg.block g' h4.lt (λe=>?_)).trans h4⟩
  obtain⟨cs,a,-,-⟩:=hO.ownBlk g' (by first|exact e|exact e.symm);exact hts (h4.type a)
theorem RowS.keptG{rs:List RS}(h:RowS tS w base v1 rs){g:Nat}(hg:g<base)(hk:Kept (λk=>k=g) w w'):RowS tS w' base v1 rs:=by
 rcases h with h|⟨g',sp,h1,h2,h3,h4⟩;exact .inl h;exact .inr ⟨g',sp,h1,h2,h3,hk.blk h4 (by omega)⟩
theorem FacM.nil(tS tN:TypeId)(w:World)(base:Nat):FacM tS tN w base (.slice none 0 0) (.slice none 0 0) [] [] []:=⟨MatOA.nil _ _ _ _,OwnF.nil _ _ _,λr hr=>(by cases hr)⟩
theorem FacM.kept(h:FacM tS tN w base v1 v2 rs Q ds)(hb:Below w.heap.size w w'):FacM tS tN w' base v1 v2 rs Q ds:=⟨h.1.kept hb,h.2.1.kept hb,h.2.2⟩
theorem FacM.rlt(h:FacM tS tN w base v1 v2 rs Q ds):∀ s ∈ rs,∀ k,s.val.ownBlock=some k->k<w.heap.size:=λs hs k hk=>by
 obtain⟨i,hi,e⟩:=Qn hs;exact(h.1.2.2.1 i s (by rw[Qa hi,e])).blt k hk
theorem FacM.snocL(h:FacM tS tN w base v1 v2 rs Q ds)(hts:tS≠tN){r:RS}{q:List Rat}{b:Nat}(ho:OwnF tN w b r.val q)(hb:base<=b)(hlt:∀ s ∈ rs,∀ k,s.val.ownBlock=some k->k<b)(hl2:∀ k,v2.ownBlock=some k->k<b)(h1:RowS tS w' base v1' (rs ++ [r]))(hg:w.grownBy w' v1.ownBlock)(hk:∀ (A:Option Addr) (n c:Nat) (l:List Nat),Lim w A n c l->Lim w' A n c l) :
    FacM tS tN w' base v1' v2 (rs ++ [r]) (Q ++ [q]) ds:=by
 refine⟨h.1.snoc hts ho hb hlt h1 hg hk,h.2.1.grownT hts h.1.1 hg hk,λs hs k hsk e=>?_⟩;rcases List.mem_append.1 hs with hs|hs;exact h.2.2 s hs k hsk e
 ·rw[Qo]at hs
  subst hs;have h2:=ho.row_ge k hsk;have h3:=hl2 k e;omega
theorem FacM.snocD(h:FacM tS tN w base v1 v2 rs Q ds)(hts:tS≠tN){qs:List Rat}(hO:OwnF tN w' base v2' qs)(hg:w.grownBy w' v2.ownBlock)(hk:∀ (A:Option Addr) (n c:Nat) (l:List Nat),Lim w A n c l->Lim w' A n c l)
    (hw:v2'.ownBlock=v2.ownBlock \/ ∀ k,v2'.ownBlock=some k->w.heap.size<=k):FacM tS tN w' base v1 v2' rs Q qs:=by
 refine⟨⟨h.1.1.grownR h.2.1 hts hg,h.1.2.1,λi r hr=>(h.1.2.2.1 i r hr).grownO hg (λk hk=>h.2.2 r (Qi hr) k hk) hk,h.1.2.2.2⟩,hO,λs hs k hsk e=>?_⟩;rcases hw with hw|hw;exact h.2.2 s hs k hsk (by rw[<- hw];exact e)
 ·have h2:=hw k e
  have h3:=h.rlt s hs k hsk;omega
theorem FacM.box(h:FacM tS tN w base v1 v2 rs Q ds){g:Nat}{t:TypeId}{cs:Array Value}(hb:Blk w g t cs)(hn:NoLimb cs)(hg:g<base)(hk:Kept (λk=>k=g) w w'):FacM tS tN w' base v1 v2 rs Q ds:=
 ⟨⟨h.1.1.keptG hg hk,h.1.2.1,λi r hr=>(h.1.2.2.1 i r hr).keptG hb hn (λe=>by have:=(h.1.2.2.1 i r hr).row_ge g e;omega) hk,h.1.2.2.2⟩,h.2.1.keptG hb hn (λe=>by have:=h.2.1.row_ge g e;omega) hk,h.2.2⟩
theorem MatOA.mflA(h:MatOA tS tN w base v rs Q):∃ A c,v=.slice A Q.length c/\MFL w A Q.length c Q:=by
 obtain⟨A,c,e,hM⟩:=h.1.mfl h.2.1 (λi r hr=>(h.2.2.1 i r hr).rsn.2);rw[h.2.1]at e hM;exact⟨A,c,e,hM⟩
end
theorem FL.pair2{w:World}{g:Nat}{t:TypeId}{xn:Bool}{xA:Option Addr}{xk xc:Nat}{xm:Bool}{xB:Option Addr}{xj xd:Nat}{yn:Bool}{yA:Option Addr}{yk yc:Nat}{ym:Bool}{yB:Option Addr}{yj yd:Nat}{p q:Rat}(h:Blk w g t #[.bool xn,.slice xA xk xc,.bool xm,.slice xB xj xd,.bool yn,.slice yA yk yc,.bool ym,.slice yB yj yd])(hp:Fr w xn xA xk xc xm xB xj xd p)(hq:Fr w yn yA yk yc ym yB yj yd q):FL w (some ⟨g,0,none⟩) 2 2 [p,q]:=by
 refine⟨[⟨xn,xA,xk,xc,xm,xB,xj,xd,p⟩,⟨yn,yA,yk,yc,ym,yB,yj,yd,q⟩],rfl,Qd _,by unfold maxLen;omega,λe he=>?_,rfl,λ_=>⟨g,0,rfl,λk r hr=>?_⟩⟩
 ·simp only[List.mem_cons,List.not_mem_nil,or_false]at he
  rcases he with rfl|rfl;exact hp;exact hq
 ·match k,hr with
  | 0,hr=>cases hr;exact⟨h.cell 0,h.cell 1,h.cell 2,h.cell 3⟩
  | 1,hr=>cases hr;exact⟨h.cell 4,h.cell 5,h.cell 6,h.cell 7⟩
  | k+2,hr=>simp at hr
theorem FL.sing1{w:World}{g:Nat}{t:TypeId}{na:Bool}{A:Option Addr}{n c:Nat}{nb:Bool}{B:Option Addr}{m d:Nat}{q:Rat}(h:Blk w g t #[.bool na,.slice A n c,.bool nb,.slice B m d])(hf:Fr w na A n c nb B m d q):FL w (some ⟨g,0,none⟩) 1 1 [q]:=by
 refine⟨[⟨na,A,n,c,nb,B,m,d,q⟩],rfl,Qd _,by unfold maxLen;omega,λe he=>?_,rfl,λ_=>⟨g,0,rfl,λk e hk=>?_⟩⟩;rw[Qo]at he;subst he;exact hf
 ·have f:k=0:=by have:=(List.getElem?_eq_some_iff.1 hk).1;simp at this;exact this
  subst f;cases hk;exact⟨h.cell 0,h.cell 1,h.cell 2,h.cell 3⟩
theorem FL.atS{w:World}{g o n c:Nat}{qs:List Rat}(h:FL w (some ⟨g,o,none⟩) n c qs){k:Nat}(hk:k<n):∃ na A1 n1 c1 nb B m d,At4 w g (o+k*4) na A1 n1 c1 nb B m d/\Fr w na A1 n1 c1 nb B m d (qs[k]?.getD 0):=by
 obtain⟨g',o',na,A1,n1,c1,nb,B,m,d,e,h1,h2⟩:=h.at_ hk;cases e;exact⟨_,_,_,_,_,_,_,_,h1,h2⟩
theorem Zdv(A:Option Addr)(n c:Nat)(B:Option Addr)(m d:Nat):NoLimb #[.slice A n c,.slice B m d]:=λi k=>by
 match i with
 | 0=>simp
 | 1=>simp
 | i+2=>simp
def EnvF(tS tN tX:TypeId)(w:World)(base bo gl gx:Nat)(v1 v2 V1 V2 own:Value)(rs:List RS)(Q:List (List Rat))(ds q:List Rat)(ln:Bool)(lA:Option Addr)(lk lc:Nat)(lm:Bool)(lB:Option Addr)(lj ld:Nat)(d:Rat):Prop:=
 FacM tS tN w base v1 v2 rs Q ds/\OwnF tN w bo own q/\Blk w gl tN #[.bool ln,.slice lA lk lc,.bool lm,.slice lB lj ld]/\Fr w ln lA lk lc lm lB lj ld d/\Blk w gx tX #[V1,V2]
def EnvG(tS tN tX:TypeId)(w:World)(base gl gx:Nat)(v1 v2 V1 V2:Value)(rs:List RS)(Q:List (List Rat))(ds:List Rat)(ln:Bool)(lA:Option Addr)(lk lc:Nat)(lm:Bool)(lB:Option Addr)(lj ld:Nat)(d:Rat):Prop:=
 FacM tS tN w base v1 v2 rs Q ds/\Blk w gl tN #[.bool ln,.slice lA lk lc,.bool lm,.slice lB lj ld]/\Fr w ln lA lk lc lm lB lj ld d/\Blk w gx tX #[V1,V2]
section
variable{tS tN tX:TypeId}{w w':World}{base bo gl gx:Nat}{v1 v1' v2 v2' V1 V2 own:Value}{rs:List RS}{Q:List (List Rat)}{ds q:List Rat}{ln:Bool}{lA:Option Addr}{lk lc:Nat}{lm:Bool}{lB:Option Addr}{lj ld:Nat}{d:Rat}
theorem EnvF.below(h:EnvF tS tN tX w base bo gl gx v1 v2 V1 V2 own rs Q ds q ln lA lk lc lm lB lj ld d)(hb:Below w.heap.size w w'):EnvF tS tN tX w' base bo gl gx v1 v2 V1 V2 own rs Q ds q ln lA lk lc lm lB lj ld d:=
 ⟨h.1.kept hb,h.2.1.kept hb,Zc hb h.2.2.1,h.2.2.2.1.below hb,Zc hb h.2.2.2.2⟩
theorem EnvG.below(h:EnvG tS tN tX w base gl gx v1 v2 V1 V2 rs Q ds ln lA lk lc lm lB lj ld d)(hb:Below w.heap.size w w'):EnvG tS tN tX w' base gl gx v1 v2 V1 V2 rs Q ds ln lA lk lc lm lB lj ld d:=
 ⟨h.1.kept hb,Zc hb h.2.1,h.2.2.1.below hb,Zc hb h.2.2.2⟩
theorem EnvF.cells(h:EnvF tS tN tX w base bo gl gx v1 v2 V1 V2 own rs Q ds q ln lA lk lc lm lB lj ld d):w.cell? ⟨gx,0,none⟩=some V1/\w.cell? ⟨gx,1,none⟩=some V2:=by
 have:=h.2.2.2.2;exact⟨by rw[this.cell];rfl,by rw[this.cell];rfl⟩
theorem EnvG.cells(h:EnvG tS tN tX w base gl gx v1 v2 V1 V2 rs Q ds ln lA lk lc lm lB lj ld d):w.cell? ⟨gx,0,none⟩=some V1/\w.cell? ⟨gx,1,none⟩=some V2:=by
 have:=h.2.2.2;exact⟨by rw[this.cell];rfl,by rw[this.cell];rfl⟩
theorem EnvF.left(h:EnvF tS tN tX w base bo gl gx v1 v2 V1 V2 own rs Q ds q ln lA lk lc lm lB lj ld d):w.cell? ⟨gl,0,none⟩=some (.bool ln)/\w.cell? ⟨gl,1,none⟩=some (.slice lA lk lc)/\w.cell? ⟨gl,2,none⟩=some (.bool lm)/\w.cell? ⟨gl,3,none⟩=some (.slice lB lj ld):=by
 obtain⟨a,b,c,d,-⟩:=h.2.2.1.four;exact⟨a,b,c,d⟩
theorem EnvG.left(h:EnvG tS tN tX w base gl gx v1 v2 V1 V2 rs Q ds ln lA lk lc lm lB lj ld d):w.cell? ⟨gl,0,none⟩=some (.bool ln)/\w.cell? ⟨gl,1,none⟩=some (.slice lA lk lc)/\w.cell? ⟨gl,2,none⟩=some (.bool lm)/\w.cell? ⟨gl,3,none⟩=some (.slice lB lj ld):=by
 obtain⟨a,b,c,d,-⟩:=h.2.1.four;exact⟨a,b,c,d⟩
theorem EnvF.far{t:TypeId}{g:Nat}{cs:Array Value}(h:EnvF tS tN tX w base bo gl gx v1 v2 V1 V2 own rs Q ds q ln lA lk lc lm lB lj ld d)(hts:tS≠t)(hg:w.grownBy w' v1.ownBlock)(hb:Blk w g t cs):Blk w' g t cs:=
 (hg.block g hb.lt (λe=>h.1.1.1.ownType hb hts (by first|exact e|exact e.symm))).trans hb
theorem EnvF.app(h:EnvF tS tN tX w base bo gl gx v1 v2 V1 V2 own rs Q ds q ln lA lk lc lm lB lj ld d)(hts:tS≠tN){r:RS}(hr:r.val=own)(hbb:base<=bo)(hlt:∀ s ∈ rs,∀ k,s.val.ownBlock=some k->k<bo)(hl2:∀ k,v2.ownBlock=some k->k<bo)(hgx:gx<base)(h1:RowS tS w' base v1' (rs ++ [r]))(hg:w.grownBy w' v1.ownBlock)(hk:∀ (A:Option Addr) (n c:Nat) (l:List Nat),Lim w A n c l->Lim w' A n c l) :
    EnvG tS tN tX w' base gl gx v1' v2 V1 V2 (rs ++ [r]) (Q ++ [q]) ds ln lA lk lc lm lB lj ld d:=by
 refine⟨h.1.snocL hts (hr▸h.2.1) hbb hlt hl2 h1 hg hk,h.far hts hg h.2.2.1,⟨⟨h.2.2.2.1.1.1,h.2.2.2.1.1.2.1,hk _ _ _ _ h.2.2.2.1.1.2.2⟩,⟨h.2.2.2.1.2.1,h.2.2.2.1.2.2.1,hk _ _ _ _ h.2.2.2.1.2.2.2⟩⟩,?_⟩;exact(hg.block gx h.2.2.2.2.lt (λe=>by have:=h.1.1.1.row_ge gx (by first|exact e|exact e.symm);omega)).trans h.2.2.2.2
theorem EnvG.app(h:EnvG tS tN tX w base gl gx v1 v2 V1 V2 rs Q ds ln lA lk lc lm lB lj ld d)(hts:tS≠tN)(hgx:gx<base){qs:List Rat}(hO:OwnF tN w' base v2' qs)(hg:w.grownBy w' v2.ownBlock)(hk:∀ (A:Option Addr) (n c:Nat) (l:List Nat),Lim w A n c l->Lim w' A n c l)
    (hw:v2'.ownBlock=v2.ownBlock \/ ∀ k,v2'.ownBlock=some k->w.heap.size<=k):FacM tS tN w' base v1 v2' rs Q qs/\Blk w' gx tX #[V1,V2]:=
 ⟨h.1.snocD hts hO hg hk hw,(hg.block gx h.2.2.2.lt (λe=>by have:=h.1.2.1.row_ge gx (by first|exact e|exact e.symm);omega)).trans h.2.2.2⟩
theorem Kept.grownC{G:Nat->Prop}{W0:World}{row:Option Nat}(h:Kept G W0 w)(hg:w.grownBy w' row)(hr:∀ k,row=some k->W0.heap.size<=k):Kept G W0 w':=
 ⟨hg.os.trans h.os,hg.tape.trans h.tape,hg.output.trans h.output,Qb h.size hg.size,λk hk hG=>(hg.block k (QC hk h.size) (λe=>by have:=hr k (by first|exact e|exact e.symm);omega)).trans (h.block k hk hG)⟩
end
def IdxC(w:World)(b:Bool)(e:Ending)(w':World):Prop:=∃ i:Int,e=.returned (.int .i64 i)/\decide (0<=i)=b/\Below w.heap.size w w'
theorem Zym(na nb:Bool)(A B:Option Addr)(n c m d:Nat)(la lb:List Nat)(w:World)(ha:Lim w A n c la)(hb:Lim w B m d lb)(b:Bool)(hx:(decide (max n m<=64) && okF na la nb lb)=b) :
    Calls Tryz.prog 109 #[.agg #[.bool na,.slice A n c,.bool nb,.slice B m d]] w λe w'=>e=.returned (.bool (!b))/\Below w.heap.size w w':=by
 obtain⟨W0,J,f,q0,s0⟩:=Zbe w 41 #[.bool na,.slice A n c,.bool nb,.slice B m d];obtain⟨a0,a1,a2,a3,-⟩:=q0.four;have I:=Qb ha.2.1 ha.2.2.1;have C:=Qb hb.2.1 hb.2.2.1;unfold maxLen at I C;obtain⟨y,hy⟩:=Gz (okF na la nb lb);rw[hy]at hx;have hC:=Za (λW1 (h1:Below w.heap.size w W1)=>Zlz na nb A B n c m d la lb W1 (ha.below h1) (hb.below h1) y hy);clear ha hb hy;have hmx:max (n:Int) (m:Int)=((max n m:Nat):Int):=by omega
 by_cases h8:max n m<=64
 ·have t1:decide ((64:Int)<((max n m:Nat):Int))=false:=Gu (by omega)
  have u:decide (64<max n m)=false:=Gu (by omega);have o:decide ((64:Int)<max (n:Int) (m:Int))=false:=Gu (by omega);rw[Gv h8,Bool.true_and]at hx;subst hx;cases y
  ·go_enter Tryz.func109,Tryz.ntmps109
   go_wp2_with fail;refine(hC.out _ (by first|exact f|exact Zf f _)).mono ?_;rintro e w1 ⟨rfl,h⟩;simp only[Zhy,Bool.false_eq_true,if_false];go_wp2_with fail;go_ret;exact⟨rfl,(by first|exact f.trans (h.mono f.size)|exact(Zf f _).trans (h.mono f.size))⟩
  ·go_enter Tryz.func109,Tryz.ntmps109
   go_wp2_with fail;refine(hC.out _ (by first|exact f|exact Zf f _)).mono ?_;rintro e w1 ⟨rfl,h⟩;simp only[Zhy,if_true];go_wp2_with fail;go_ret;exact⟨rfl,(by first|exact f.trans (h.mono f.size)|exact(Zf f _).trans (h.mono f.size))⟩
 ·have t1:decide ((64:Int)<((max n m:Nat):Int))=true:=Gv (by omega)
  have u:decide (64<max n m)=true:=Gv (by omega);have o:decide ((64:Int)<max (n:Int) (m:Int))=true:=Gv (by omega);rw[Gu h8,Bool.false_and]at hx;subst hx;go_enter Tryz.func109,Tryz.ntmps109;go_wp2_with fail;go_ret;exact⟨rfl,(by first|exact f|exact Zf f _)⟩
theorem Zyh(A:Option Addr)(n c:Nat)(es:List FX)(w:World)(h:FXL w A n c es)(b:Bool)(hb:Zdi es=b) :
    Calls Tryz.prog 150 #[.slice A n c,.func (.func 109) #[] #[]] w (IdxC w (!b)):=by
 have hl:=h.1;have Y:=h.2.1;have O:=h.2.2.1;unfold maxLen at O;replace hl:=Za hl;replace hb:=Za hb;replace h:=Za h;go_enter Tryz.func150,Tryz.ntmps150;go_wp2_with fail
 go_loopw [8] (λiv wr=>∃ i:Nat,i<=n/\iv=.int .i64 i/\Hid (∀ j e,j<i->es[j]?=some e->e.fine64=true)/\Below w.heap.size w wr) (λiv _=>n-(intOf iv).toNat)
 case atStart=>exact⟨0,Qu _,rfl,Za (λj e hj=>by omega),Qe _ _⟩
 case round =>
  obtain⟨i,V,rfl,y,f⟩:=hrel;by_cases hin:i<n
  case neg =>
   obtain rfl:n=i:=by omega
   have T:decide ((n:Int)<(n:Int))=false:=by simp
   obtain rfl:b=true:=by
    rw[<- hb.out];unfold Zdi;rw[Qj];intro e he;obtain⟨j,hj,U⟩:=Qn he;exact y.out j e (by rw[hl.out]at hj;exact hj) (by rw[Qa hj,U])
   go_wp2_with fail;go_ret;exact⟨-1,rfl,rfl,f⟩
  have T:decide ((i:Int)<(n:Int))=true:=Gv (by omega);obtain⟨g,o,e,rfl,he,hc,J,I⟩:=(h.out.below f).at_ hin;obtain⟨c0,c1,c2,c3⟩:=hc;obtain⟨x,hx⟩:=Gz e.fine64;have hC:=Za (λW1 (hb:Below wr.heap.size wr W1)=>Zym e.na e.nb e.A e.B e.n e.c e.m e.d e.la e.lb W1 (J.below hb) (I.below hb) x hx);clear J I;cases x
  ·obtain rfl:b=false:=by
     rw[<- hb.out];unfold Zdi;rw[List.all_eq_false];exact⟨e,Qi he,by rw[hx];decide⟩
   replace he:=Za he;clear hx;go_wp2_with fail;refine(hC.out _ (by first|exact Qe _ _|exact Zf (Qe _ _) _)).mono ?_;rintro e' w1 ⟨rfl,u⟩;go_wp2_with fail;go_ret;exact⟨i,rfl,by simp,(by first|exact f.trans (u.mono f.size)|exact(Zf f _).trans (u.mono f.size))⟩
  ·have C:Hid (∀ j e,j<i+1->es[j]?=some e->e.fine64=true):=Za (λj e' hj he'=>by
     rcases Qt j i with h'|h';exact y.out j e' h' he'
     ·obtain rfl:j=i:=by omega
      rw[he]at he';cases he';exact hx)
   replace he:=Za he;clear hx;go_wp2_with fail;refine(hC.out _ (by first|exact Qe _ _|exact Zf (Qe _ _) _)).mono ?_;rintro e' w1 ⟨rfl,u⟩;go_wp2_with fail
   go_roundw
   case rel=>exact⟨i+1,by omega,by go_num,C,(by first|exact f.trans (u.mono f.size)|exact(Zf f _).trans (u.mono f.size))⟩
   case measure=>simp[intOf];omega
theorem Zwj(A:Option Addr)(n c:Nat)(es:List FX)(w:World)(h:FXL w A n c es)(b:Bool)(hb:Zdi es=b) :
    Calls Tryz.prog 108 #[.slice A n c,.func (.func 109) #[] #[]] w λe w'=>e=.returned (.bool (!b))/\Below w.heap.size w w':=by
 go_enter Tryz.func108,Tryz.ntmps108;go_wp2_with fail;refine(Zyh A n c es w h b hb).mono ?_;rintro e w1 ⟨i,rfl,hi,f⟩;replace hi:=Za hi;go_wp2_with fail;go_ret;exact⟨Zdz hi.out,f⟩
theorem Zk2(A:Option Addr)(n c:Nat)(es:List FX)(w:World)(h:FXL w A n c es)(b:Bool)(hb:Zdi es=b) :
    Calls Tryz.prog 65 #[.slice A n c] w λe w'=>e=.returned (.bool b)/\Below w.heap.size w w':=by
 go_enter Tryz.func65,Tryz.ntmps65;go_wp2_with fail;refine(Zwj A n c es w h b hb).mono ?_;rintro e w1 ⟨rfl,f⟩;go_wp2_with fail;go_ret;exact⟨by simp,f⟩
theorem Zxk(A:Option Addr)(n c:Nat)(w:World)(hn:n<=maxLen) :
    Calls Tryz.prog 104 #[.slice A n c] w λe w'=>e=.returned (.bool (decide (6<n)))/\Below w.heap.size w w':=by
 unfold maxLen at hn;have hd:decide ((6:Int)<(n:Int))=decide (6<n):=decide_eq_decide.2 (by omega);go_enter Tryz.func104,Tryz.ntmps104;go_wp2_with fail;go_ret;exact⟨by first|rfl|simp[hd],by first|exact Qe _ _|exact Zf (Qe _ _) _⟩
theorem FXL.nlenC{w:World}{A:Option Addr}{n c:Nat}{es:List FX}(h:FXL w A n c es):n<=maxLen:=Qb h.2.1 h.2.2.1
theorem Zxx(A:Option Addr)(n c:Nat)(rs:List RX)(w:World)(h:MXL w A n c rs)(b:Bool)(hb:rs.any RX.long6=b) :
    Calls Tryz.prog 146 #[.slice A n c,.func (.func 104) #[] #[]] w (IdxC w b):=by
 have hl:=h.1;have U:=h.2.1;have I:=h.2.2.1;unfold maxLen at I;replace hl:=Za hl;replace hb:=Za hb;replace h:=Za h;go_enter Tryz.func146,Tryz.ntmps146;go_wp2_with fail
 go_loopw [8] (λiv wr=>∃ i:Nat,i<=n/\iv=.int .i64 i/\Hid (∀ j e,j<i->rs[j]?=some e->e.long6=false)/\Below w.heap.size w wr) (λiv _=>n-(intOf iv).toNat)
 case atStart=>exact⟨0,Qu _,rfl,Za (λj e hj=>by omega),Qe _ _⟩
 case round =>
  obtain⟨i,T,rfl,y,f⟩:=hrel;by_cases hin:i<n
  case neg =>
   obtain rfl:n=i:=by omega
   have J:decide ((n:Int)<(n:Int))=false:=by simp
   obtain rfl:b=false:=by
    rw[<- hb.out,Qy];intro e he;obtain⟨j,hj,O⟩:=Qn he;have:=y.out j e (by rw[hl.out]at hj;exact hj) (by rw[Qa hj,O]);rw[this];decide
   go_wp2_with fail;go_ret;exact⟨-1,rfl,rfl,f⟩
  have J:decide ((i:Int)<(n:Int))=true:=Gv (by omega);obtain⟨g,o,r,rfl,he,c0,hL⟩:=(h.out.below f).at_ hin;have hC:=Za (λW1=>Zxk r.A r.n r.c W1 hL.nlenC);clear hL;by_cases hx:6<r.n
  ·obtain rfl:b=true:=by
     rw[<- hb.out,QG];exact⟨r,Qi he,by unfold RX.long6;simpa using hx⟩
   rw[Gv hx]at hC;replace he:=Za he;go_wp2_with fail;refine(hC.out _).mono ?_;rintro e' w1 ⟨rfl,u⟩;go_wp2_with fail;go_ret;exact⟨i,rfl,by simp,(by first|exact f.trans (u.mono f.size)|exact(Zf f _).trans (u.mono f.size))⟩
  ·have C:Hid (∀ j e,j<i+1->rs[j]?=some e->e.long6=false):=Za (λj e' hj he'=>by
     rcases Qt j i with h'|h';exact y.out j e' h' he'
     ·obtain rfl:j=i:=by omega
      rw[he]at he';cases he';unfold RX.long6;simpa using hx)
   rw[Gu hx]at hC;replace he:=Za he;go_wp2_with fail;refine(hC.out _).mono ?_;rintro e' w1 ⟨rfl,u⟩;go_wp2_with fail
   go_roundw
   case rel=>exact⟨i+1,by omega,by go_num,C,(by first|exact f.trans (u.mono f.size)|exact(Zf f _).trans (u.mono f.size))⟩
   case measure=>simp[intOf];omega
theorem Zuv(A:Option Addr)(n c:Nat)(rs:List RX)(w:World)(h:MXL w A n c rs)(b:Bool)(hb:rs.any RX.long6=b) :
    Calls Tryz.prog 105 #[.slice A n c,.func (.func 104) #[] #[]] w λe w'=>e=.returned (.bool b)/\Below w.heap.size w w':=by
 go_enter Tryz.func105,Tryz.ntmps105;go_wp2_with fail;refine(Zxx A n c rs w h b hb).mono ?_;rintro e w1 ⟨i,rfl,hi,f⟩;replace hi:=Za hi;go_wp2_with fail;go_ret;exact⟨Zdz hi.out,f⟩
theorem LimI.takeC{w:World}{A:Option Addr}{n c:Nat}{l:List Int}(h:LimI w A n c l){k:Nat}(hk:k<=n):LimI w A k k (l.take k):=by
 obtain⟨h1,h2,h3,h4,h5⟩:=h;refine⟨by rw[QF];omega,Qd _,by omega,λx hx=>h4 x (List.mem_of_mem_take hx),λhn=>?_⟩;obtain⟨b,o,e,hc⟩:=h5 (by omega);refine⟨b,o,e,λj hj=>?_⟩;rw[hc j (by omega),List.getElem?_take,Gx hj]
theorem LimI.atC{w:World}{A:Option Addr}{n c:Nat}{l:List Int}(h:LimI w A n c l){k:Nat}(hk:k<n):∃ g o,A=some ⟨g,o,none⟩/\w.cell? ⟨g,o+k,none⟩=some (.int .i64 (l[k]?.getD 0)):=by
 obtain⟨b,o,e,hc⟩:=h.2.2.2.2 (by omega);exact⟨b,o,e,hc k hk⟩
theorem LimI.atCS{w:World}{g o n c:Nat}{l:List Int}(h:LimI w (some ⟨g,o,none⟩) n c l){k:Nat}(hk:k<n):w.cell? ⟨g,o+k,none⟩=some (.int .i64 (l[k]?.getD 0)):=by
 obtain⟨b,o',e,hc⟩:=h.atC hk;cases e;exact hc
theorem LimI.i64C{w:World}{A:Option Addr}{n c:Nat}{l:List Int}(h:LimI w A n c l)(k:Nat):-9223372036854775808<=l[k]?.getD 0/\l[k]?.getD 0<=9223372036854775807:=by
 rcases Qt k l.length with h1|h1
 ·rw[Qa h1,Qg]
  exact h.2.2.2.1 _ (Ql _)
 rw[Qh h1];exact⟨by decide,by decide⟩
theorem Zrn(A:Option Addr)(n c:Nat)(l:List Int)(x:Int)(w:World)(h:LimI w A n c l)(b:Bool)(hb:decide (x ∈ l)=b) :
    Calls Tryz.prog 112 #[.slice A n c,.int .i64 x] w (IdxC w b):=by
 have hl:=Za h.1;have U:=h.2.1;have O:=h.2.2.1;unfold maxLen at O;replace hb:=Za hb;replace h:=Za h;go_enter Tryz.func112,Tryz.ntmps112;go_wp2_with fail
 go_loopg [8] n (λt iv wr=>∃ i:Nat,i+t=n/\iv=.int .i64 i/\Hid (∀ j:Nat,j<i->l[j]?.getD 0≠x)/\Below w.heap.size w wr)
 case atStart=>exact⟨0,by omega,rfl,Za (λj hj=>by omega),Qe _ _⟩
 case round =>
  obtain⟨i,T,rfl,u,hB⟩:=hrel;cases gk with
  | zero =>
   obtain rfl:n=i:=by omega
   have t1:decide ((n:Int)<(n:Int))=false:=by simp
   obtain rfl:b=false:=by
    rw[<- hb.out];refine Gu (λhx=>?_);obtain⟨j,hj,e⟩:=Qn hx;exact u.out j (by rw[hl.out]at hj;exact hj) (by rw[Qa hj,e];rfl)
   go_wp2_with fail;go_ret;exact⟨-1,rfl,rfl,hB⟩
  | succ t =>
   obtain rfl:t=n-(i+1):=by omega
   have I:i<n:=by omega
   have t1:decide ((i:Int)<(n:Int))=true:=Gv (by omega);have bi:(i:Int)<(n:Int):=by omega
   obtain⟨g,o,rfl,c0⟩:=(h.out.below hB).atC I;obtain⟨y,hy⟩:=Gz (l[i]?.getD 0);rw[hy]at c0;by_cases f:x=y
   ·have t2:(x == y)=true:=by simp[f]
    have J:decide (x=y)=true:=by simpa using f
    obtain rfl:b=true:=by
     rw[<- hb.out];refine Gv ?_;have h1:i<l.length:=by rw[hl.out];exact I
     rw[Qa h1,Qg]at hy;rw[f,<- hy];exact Ql _
    replace f:=Za f;replace hy:=Za hy;go_wp2_with fail;go_ret;exact⟨i,rfl,by simp,hB⟩
   ·have t2:(x == y)=false:=by simpa using f
    have J:decide (x=y)=false:=by simpa using f
    have C:Hid (∀ j:Nat,j<i+1->l[j]?.getD 0≠x):=Za (λj hj=>by
     rcases Qt j i with h'|h';exact u.out j h'
     ·obtain rfl:j=i:=by omega
      rw[hy];exact λe=>f e.symm)
    replace f:=Za f;replace hy:=Za hy;go_wp2_with fail
    go_roundg (n-(i+1))
    case measure=>omega
    case rel=>exact⟨i+1,by omega,by go_num,C,hB⟩
theorem Zpc(A:Option Addr)(n c:Nat)(l:List Int)(x:Int)(w:World)(h:LimI w A n c l)(b:Bool)(hb:decide (x ∈ l)=b) :
    Calls Tryz.prog 68 #[.slice A n c,.int .i64 x] w λe w'=>e=.returned (.bool b)/\Below w.heap.size w w':=by
 go_enter Tryz.func68,Tryz.ntmps68;go_wp2_with fail;refine(Zrn A n c l x w h b hb).mono ?_;rintro e w1 ⟨i,rfl,hi,f⟩;replace hi:=Za hi;go_wp2_with fail;go_ret;exact⟨Zdz hi.out,f⟩
def Zlj(x:Int):Bool:=decide (x < -1099511627776) || decide (1099511627776<x)
def Zqz(l:List Int):Bool:=l.any Zlj
theorem Z0t(x:Int)(w:World)(b:Bool)(hb:Zlj x=b) :
    Calls Tryz.prog 78 #[.int .i64 x] w λe w'=>e=.returned (.bool b)/\Below w.heap.size w w':=by
 subst hb;by_cases h1:x < -1099511627776
 ·have t1:decide (x < -1099511627776)=true:=Gv h1
  go_enter Tryz.func78,Tryz.ntmps78;go_wp2_with fail;go_ret;exact⟨by simp[Zlj,t1],by first|exact Qe _ _|exact Zf (Qe _ _) _⟩
 ·have t1:decide (x < -1099511627776)=false:=Gu h1
  go_enter Tryz.func78,Tryz.ntmps78;go_wp2_with fail;go_ret;exact⟨by simp[Zlj,t1],by first|exact Qe _ _|exact Zf (Qe _ _) _⟩
theorem Zxy(A:Option Addr)(n c:Nat)(l:List Int)(w:World)(h:LimI w A n c l)(b:Bool)(hb:Zqz l=b) :
    Calls Tryz.prog 125 #[.slice A n c,.func (.func 78) #[] #[]] w (IdxC w b):=by
 have hl:=Za h.1;have T:=h.2.1;have J:=h.2.2.1;unfold maxLen at J;replace hb:=Za hb;replace h:=Za h;go_enter Tryz.func125,Tryz.ntmps125;go_wp2_with fail
 go_loopg [8] n (λt iv wr=>∃ i:Nat,i+t=n/\iv=.int .i64 i/\Hid (∀ j:Nat,j<i->Zlj (l[j]?.getD 0)=false)/\Below w.heap.size w wr)
 case atStart=>exact⟨0,by omega,rfl,Za (λj hj=>by omega),Qe _ _⟩
 case round =>
  obtain⟨i,O,rfl,u,hB⟩:=hrel;cases gk with
  | zero =>
   obtain rfl:n=i:=by omega
   have t1:decide ((n:Int)<(n:Int))=false:=by simp
   obtain rfl:b=false:=by
    rw[<- hb.out];unfold Zqz;rw[Qy];intro x hx;obtain⟨j,hj,e⟩:=Qn hx;have:=u.out j (by rw[hl.out]at hj;exact hj);rw[Qa hj,e,Qg]at this;rw[this];decide
   go_wp2_with fail;go_ret;exact⟨-1,rfl,rfl,hB⟩
  | succ t =>
   obtain rfl:t=n-(i+1):=by omega
   have I:i<n:=by omega
   have t1:decide ((i:Int)<(n:Int))=true:=Gv (by omega);have bi:(i:Int)<(n:Int):=by omega
   obtain⟨g,o,rfl,c0⟩:=(h.out.below hB).atC I;obtain⟨y,hy⟩:=Gz (l[i]?.getD 0);rw[hy]at c0;obtain⟨z,hz⟩:=Gz (Zlj y);have hC:=Za (λW1=>Z0t y W1 z hz);cases z
   ·have C:Hid (∀ j:Nat,j<i+1->Zlj (l[j]?.getD 0)=false):=Za (λj hj=>by
      rcases Qt j i with h'|h';exact u.out j h'
      ·obtain rfl:j=i:=by omega
       rw[hy];exact hz)
    replace hz:=Za hz;replace hy:=Za hy;go_wp2_with fail;refine(hC.out _).mono ?_;rintro e' w1 ⟨rfl,f⟩;go_wp2_with fail
    go_roundg (n-(i+1))
    case measure=>omega
    case rel=>exact⟨i+1,by omega,by go_num,C,(by first|exact hB.trans (f.mono hB.size)|exact(Zf hB _).trans (f.mono hB.size))⟩
   ·obtain rfl:b=true:=by
      rw[<- hb.out];unfold Zqz;rw[QG];have h1:i<l.length:=by rw[hl.out];exact I
      rw[Qa h1,Qg]at hy;exact⟨l[i],Ql _,by rw[hy];exact hz⟩
    replace hz:=Za hz;replace hy:=Za hy;go_wp2_with fail;refine(hC.out _).mono ?_;rintro e' w1 ⟨rfl,f⟩;go_wp2_with fail;go_ret;exact⟨i,rfl,by simp,(by first|exact hB.trans (f.mono hB.size)|exact(Zf hB _).trans (f.mono hB.size))⟩
theorem Ztv(A:Option Addr)(n c:Nat)(l:List Int)(w:World)(h:LimI w A n c l)(b:Bool)(hb:Zqz l=b) :
    Calls Tryz.prog 77 #[.slice A n c,.func (.func 78) #[] #[]] w λe w'=>e=.returned (.bool b)/\Below w.heap.size w w':=by
 go_enter Tryz.func77,Tryz.ntmps77;go_wp2_with fail;refine(Zxy A n c l w h b hb).mono ?_;rintro e w1 ⟨i,rfl,hi,f⟩;replace hi:=Za hi;go_wp2_with fail;go_ret;exact⟨Zdz hi.out,f⟩
