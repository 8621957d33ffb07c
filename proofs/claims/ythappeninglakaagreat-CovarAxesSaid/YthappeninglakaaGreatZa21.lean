/- Package linear: Inverse. Det, Solve and Inverse of both -/
import Derived.Test.YthappeninglakaaGreatZa20
set_option maxRecDepth 100000
set_option maxHeartbeats 8000000
set_option linter.unusedSimpArgs false
set_option linter.unusedVariables false
namespace Go.Proofs.YthappeninglakaaGreat
open Go.RowKit
open List renaming getElem?_eq_getElem→Qa,replicate→Qb,getElem?_map→Qe,getElem?_eq_none→Qf,mem_of_getElem?→Qh,getElem?_range→Qi,map_congr_left→Qj,length_map→Qk,getElem_mem→Qn,length_replicate→Qp,eq_nil_of_length_eq_zero→Qr,getElem_of_mem→Qt,getElem?_set→Qv,getElem?_replicate→Qx,getElem_cons_zero→Qy,getElem_cons_succ→Qz,range→QC,getElem_toArray→QD,length_append→QG,ext_getElem?→QH,ext_getElem→QJ,all_eq_true→QL,length_set→QN
open Nat renaming le_refl→Qc,le_trans→Qd,lt_of_le_of_lt→Qg,lt_of_lt_of_le→Ql,zero_le→Qm,mul_le_mul→Qu,add_assoc→QE,eq_zero_or_pos→QF,mul_one→QI
open Option renaming getD_some→Qo,map_some→Qq
open Rat renaming intCast_natCast→Qs,intCast_neg→QM
open Below renaming refl→Qw
open Act renaming put→QA
open Bool renaming or_eq_false_iff→QB,and_eq_true→QK
attribute [local go_sem] Zi
theorem Znb(x y:Value)(W:World):(callFunc 81 #[x,y]).run Tryz.prog W=.ok (.enter 81 #[x,y]) W:=by simp[go_sem]
def FPart(t:TypeId)(w:World)(g:Nat)(qs:List Rat)(rest:Nat):Prop:=∃ es zs:List FE,Blk w g t (Z0 (es++zs))/\zs.length=rest/\(∀ e ∈ es,e.in_ w)/\es.map FE.q=qs
section
variable{t:TypeId}{w w':World}{g rest:Nat}{qs:List Rat}
theorem FPart.below(h:FPart t w g qs rest)(hb:Below w.heap.size w w'):FPart t w' g qs rest:=by
 obtain⟨es,zs,h1,h2,h3,h4⟩:=h;exact⟨es,zs,Ze hb h1,h2,λe he=>(h3 e he).below hb,h4⟩
theorem FPart.raw(h:FPart t w g qs rest):FRaw t w g (qs.length+rest):=by
 obtain⟨es,zs,h1,h2,h3,rfl⟩:=h;exact⟨_,h1,by simp[h2]⟩
theorem FPart.own(h:FPart t w g qs 0):FOwn t w g qs:=by
 obtain⟨es,zs,h1,h2,h3,h4⟩:=h;exact⟨es,zs,h1,h3,h4⟩
theorem FPart.push(h:FPart t w g qs (rest+1)){na:Bool}{A:Option Addr}{k c:Nat}{nb:Bool}{B:Option Addr}{m d:Nat}{r:Rat}(hf:Fr w na A k c nb B m d r):FPart t (Zgg w g qs.length na A k c nb B m d) g (qs ++ [r]) rest:=by
 obtain⟨es,zs,h1,h2,h3,rfl⟩:=h
 obtain⟨z,f,rfl⟩:∃ z f,zs=z::f:=by
  cases zs with
  | nil=>simp at h2
  | cons z f=>exact⟨z,f,rfl⟩
 have hn:=Zcd (es++z::f);have h4:=(((h1.set_ (es.length*4) (.bool na)).set_ (es.length*4+1) (.slice A k c)).set_ (es.length*4+2) (.bool nb)).set_ (es.length*4+3) (.slice B m d);have hs:=Zho (es:=es++z::f) (i:=es.length) ⟨na,A,k,c,nb,B,m,d,r⟩ Gh;dsimp only at hs;rw[hs,List.set_append_right _ _ (Qc _),Nat.sub_self,List.set_cons_zero]at h4;refine⟨es ++ [⟨na,A,k,c,nb,B,m,d,r⟩],f,?_,by simpa using h2,λe he=>?_,by simp⟩;rw[List.append_assoc,List.singleton_append,Qk];exact h4;rw[Qk];rcases List.mem_append.1 he with he|he
 ·obtain⟨a,b⟩:=h3 e he
  exact⟨⟨a.1,a.2.1,Zgh a.2.2 h1 hn⟩,⟨b.1,b.2.1,Zgh b.2.2 h1 hn⟩⟩
 rw[List.mem_singleton]at he;subst he;exact⟨⟨hf.1.1,hf.1.2.1,Zgh hf.1.2.2 h1 hn⟩,⟨hf.2.1,hf.2.2.1,Zgh hf.2.2.2 h1 hn⟩⟩
end
theorem Zx5{n i:Nat}(hi:i<n):(Qb n (0:Rat)).set i 1=Zf2 n i:=by
 unfold Zf2;apply QH;intro k;rw[Qv,Qp,Qe];by_cases hk:k<n
 ·rw[Qi hk,Qx,Gx hk,Qq]
  by_cases h:i=k;rw[Gx h,Gx hi,Gx h];rw[Gw h,Gw h]
 rw[Qx,Gw hk,Gw Gk,Qf (by simpa using hk)];rfl
theorem Cq{G:Prop}(h:G:=by
 rw[<- hZ];exact Zjj (hB.trans (aa.mono (by rw[<- hg];exact hB.size))) (Nat.le_refl _)):G:=h
theorem Ztd(gx:Nat)(A:Option Addr)(n c i:Nat)(w:World)(hx:Blk w gx 25 #[.slice A n c])(hn9:n<=900)(hin:i<n) :
    Calls Tryz.prog 81 #[.int .i64 i,.pointer (some ⟨gx,0,none⟩)] w λe w'=>∃ A c,e=.returned (.slice A n c)/\Below w.heap.size w w'/\FL w' A n c (Zf2 n i):=by
 obtain⟨iF,hi,J,O,T⟩:=info_parts Ze1;have I:=Zvb (P:=Tryz.prog) 35 41 Tryz.underlying35 hi J O T (n:Int) n rfl Gk w;obtain⟨W0,u⟩:=Gz (w.alloc (.cells (Z0 (Qb n Zat)) 41));obtain⟨g,hg⟩:=Gz w.heap.size;rw[u,hg]at I;have U:Below g w W0:=by rw[<- u,<- hg];exact(Qw _ _).alloc (Qc _) _
 have y:FPart 41 W0 g [] n:=⟨[],Qb n Zat,by rw[<- u,<- hg];exact Blk.new _ _ _,by simp,λe he=>(by cases he),rfl⟩;have V:=hx.cell 0;simp at V;replace y:=Zd y;rw[hg];clear u;go_in;go_wp2_with fail
 go_loopg [11] n (λj kv wr=>∃ k:Nat,k+j=n/\kv=.int .i64 k/\FPart 41 wr g (Qb k 0) (n-k)/\Below g w wr)
 case atStart=>exact⟨0,by omega,rfl,y.out,U⟩
 case round =>
  clear y I;obtain⟨k,a1,rfl,hP,hB⟩:=hrel;cases gk with
  | zero =>
   obtain rfl:k=n:=Gk;have t1:decide ((k:Int)<(k:Int))=false:=Gh;rw[Nat.sub_self]at hP;have bi:(i:Int)<(k:Int):=Gk;have Y:(0:Int)<=(i:Int):=Gk;replace hP:=Zd hP;go_wp2_with fail;refine(Zri 1 1 wr Gj Gj Gj Gj).mono ?_;rintro e w2 ⟨aa,n6,A6,k6,c6,m6,B6,j6,d6,rfl,o⟩;rw[Zff]at o;have f:=hP.out.below aa;have h:(Qb k (0:Rat)).length=k:=Qp ..;obtain⟨x0,x1,x2,x3,x4,x5,x6,x7,y0,y1,y2,y3⟩:=f.raw.cells (i:=i) (by rw[h];omega);have z0:=f.raw.frozen (i*4);have z1:=f.raw.frozen (i*4+1);have z2:=f.raw.frozen (i*4+2);have z3:=f.raw.frozen (i*4+3);obtain⟨Z,hZ⟩:=Gz (Zgg w2 g i n6 A6 k6 c6 m6 B6 j6 d6)
   have hO:FOwn 41 Z g (Zf2 k i):=by
    rw[<- Zx5 hin,<- hZ];exact f.own.set_ (by rw[h];exact hin) o
   have C:Below g w Z:=by
    exact Cq
   unfold Zgg at hZ;replace hO:=Zd hO;clear f o hP;go_wp2_with fail;(try rw[hZ]);go_wp2_with fail;go_ret;have h1:=hO.out.fl (c:=k) (by rw[Zif];exact Qc _) (by unfold maxLen;omega);rw[Zif]at h1;exact⟨_,_,rfl,C,h1⟩
  | succ j =>
   obtain rfl:j=n-(k+1):=Gk;have a0:k<n:=Gk;have t1:decide ((k:Int)<(n:Int))=true:=Gv Gk;have bi:(k:Int)<(n:Int):=Gk;have Y:(0:Int)<=(k:Int):=Gk;replace hP:=Zd hP;go_wp2_with fail;refine(Zri 0 1 wr Gj Gj Gj Gj).mono ?_;rintro e w2 ⟨aa,n6,A6,k6,c6,m6,B6,j6,d6,rfl,o⟩;rw[Zff]at o;have f:=hP.out.below aa;have h:(Qb k (0:Rat)).length=k:=Qp ..;obtain⟨x0,x1,x2,x3,x4,x5,x6,x7,y0,y1,y2,y3⟩:=f.raw.cells (i:=k) (by rw[h];omega);have z0:=f.raw.frozen (k*4);have z1:=f.raw.frozen (k*4+1);have z2:=f.raw.frozen (k*4+2);have z3:=f.raw.frozen (k*4+3);obtain⟨Z,hZ⟩:=Gz (Zgg w2 g k n6 A6 k6 c6 m6 B6 j6 d6)
   have hO:FPart 41 Z g (Qb (k+1) 0) (n-(k+1)):=by
    rw[show n-k=n-(k+1)+1 by omega]at f;have h1:=f.push o;rw[h,hZ]at h1;rw[List.replicate_succ'];exact h1
   have C:Below g w Z:=by
    exact Cq
   unfold Zgg at hZ;replace hO:=Zd hO;clear f o hP;go_wp2_with fail;(try rw[hZ]);go_wp2_with fail
   go_roundg (n-(k+1))
   case measure=>omega
   case rel=>exact⟨k+1,by omega,by go_num,hO.out,C⟩
section
variable{k n m:Nat}{R:List (List Rat)}
end
theorem Zgy{Q:List (List Rat)}{n:Nat}(hrow:∀ i,i<n->(Q[i]?.getD []).length=n)(hq:Q.length=n)(i j:Nat):Zj (Zbk Q n n 0) i j=if i<n then (if j<n then Zj Q i j else if j-n<n then (if i=j-n then 1 else 0)else 0)else 0:=by
 by_cases hi:i<n
 ·rw[Gx hi]
  unfold Zj;rw[Zk7 hi,Gx hi];have hr:=hrow i hi;by_cases hj:j<n;rw[Gx hj,List.getElem?_append_left Gk];rw[Gw hj,List.getElem?_append_right Gk,hr];unfold Zf2;rw[Qe];by_cases hjn:j-n<n;rw[Gx hjn,Qi hjn];rfl;rw[Gw hjn,Qf Gg];rfl
 rw[Gw hi];unfold Zj;rw[Qf (l:=Zbk Q n n 0) (by rw[Zps];omega)];rfl
section
variable(rs:List RI)(rr ws:List Int)(x:Nat->Rat)
end
section
variable{rs:List RI}{rr ws:List Int}{x:Nat->Rat}{n m:Nat}
end
def B40(z:Int):Prop:=z.natAbs<=1099511627776
section
variable{D M N:Nat}{q:Rat}
theorem CD.small(h:CD D M q)(hD:0<D):q.num.natAbs<=M/\q.den<=D:=by
 obtain⟨z,e,hz⟩:=h
 have f:((D:Int):Rat)≠0:=by
  intro h0;have:=Rat.intCast_inj.1 (show ((D:Int):Rat)=((0:Int):Rat) by simpa using h0);omega
 have e2:((D:Int):Rat)*q=(z:Rat):=by
  have h2:((D:Int):Rat)=(D:Rat):=Qs D;rw[h2]at f ⊢;rw[e]
  grind
 exact Zfl ⟨z,e2,hz⟩ ⟨(D:Int),rfl,by simp⟩ f
end
theorem Zwr{ws:List Int}{a b:Nat->Int}:∀ (n:Nat),(∀ r,r<n->B40 (Zju ws r)/\B40 (a r)/\B40 (b r))->(Zc3 ws a b n).natAbs<=n*(1099511627776*(1099511627776*1099511627776))
 | 0,_=>by simp[Zc3]
 | n+1,h=>by
  have ih:=Zwr n (λr hr=>h r Gk);obtain⟨h1,h2,h3⟩:=h n Gk
  have h4:((Zju ws n)*(a n*b n)).natAbs<=1099511627776*(1099511627776*1099511627776):=by
   rw[Int.natAbs_mul,Int.natAbs_mul];exact Qu h1 (Qu h2 h3)
  have h5:Zc3 ws a b (n+1)=Zc3 ws a b n+Zju ws n*(a n*b n):=rfl;rw[h5,Nat.succ_mul];exact Qd (Int.natAbs_add_le _ _) (Nat.add_le_add ih h4)
theorem Zyx:200*(1099511627776*(1099511627776*1099511627776))<=pw 4:=by decide +kernel
theorem Z0v{ws:List Int}{a b:Nat->Int}{n:Nat}(hn:n<=200)(h:∀ r,r<n->B40 (Zju ws r)/\B40 (a r)/\B40 (b r)):(Zc3 ws a b n).natAbs<=pw 4:=
 Qd (Zwr n h) (Qd (Qu hn (Qc _)) Zyx)
theorem Zzz{a b i j:Nat}(ha:a<=pw i)(hb:b<=pw j):a*b<=pw (i+j):=by rw[Zdw];exact Qu ha hb
theorem k_pw{n:Nat}(h:n<=4294967296):n<=pw 1:=by
 have:pw 1=4294967296:=GY;rw[this];exact h
theorem Zzy{t:TypeId}{w:World}{g:Nat}{a0:Bool}{A0:Option Addr}{n0 c0:Nat}{b0:Bool}{B0:Option Addr}{m0 d0:Nat}(na:Bool)(A:Option Addr)(n c:Nat)(nb:Bool)(B:Option Addr)(m d:Nat)(hb:Blk w g t #[.bool a0,.slice A0 n0 c0,.bool b0,.slice B0 m0 d0]) :
    ∃ W,(((w.setCell ⟨g,0,none⟩ (.bool na)).setCell ⟨g,1,none⟩ (.slice A n c)).setCell ⟨g,2,none⟩ (.bool nb)).setCell ⟨g,3,none⟩ (.slice B m d)=W/\Blk W g t #[.bool na,.slice A n c,.bool nb,.slice B m d]/\Kept (λk=>k=g) w W/\W.heap.size=w.heap.size:=by
 exact El
theorem Fr.keptV{w w':World}{na:Bool}{A:Option Addr}{n c:Nat}{nb:Bool}{B:Option Addr}{m d:Nat}{r:Rat}{g:Nat}{t:TypeId}{cs:Array Value}(h:Fr w na A n c nb B m d r)(hk:Kept (λk=>k=g) w w')(hb:Blk w g t cs)(hn:NoLimb cs):Fr w' na A n c nb B m d r:=
 ⟨hk.wd h.1 (λk e=>by cases e;exact⟨_,_,hb,hn⟩),hk.wd h.2 (λk e=>by cases e;exact⟨_,_,hb,hn⟩)⟩
theorem Zie(z:Int):Rat.divInt z 1=(z:Rat):=Zkw z
theorem Z1s{rs:List RI}{ws:List Int}{n m i:Nat}(h:i<m):(Zdc rs ws n m)[i]?.getD []=Zrc rs ws n m i:=by
 unfold Zdc Zrc;rw[Qe,Qi h];rfl
theorem b40_out{least x:Int}(h:Zqe least x=false)(h0:-1099511627776<=least):B40 x:=by
 unfold Zqe at h;simp only[QB,decide_eq_false_iff_not]at h;unfold B40;omega
theorem Zmv{least:Int}{l:List Int}(h:Zit least l=false)(h0:-1099511627776<=least)(i:Nat):B40 (l[i]?.getD 0):=by
 unfold Zit at h;rw[List.any_eq_false]at h;by_cases hi:i<l.length
 ·rw[Qa hi]
  exact b40_out (by simpa using h _ (Qn hi)) h0
 rw[Qf Gk];show (0:Int).natAbs<=_;decide
theorem sys_b40{rs:List RI}{rr ws:List Int}(h:Zd8 rs rr ws=0):(∀ r k,B40 (Zcg rs k r))/\(∀ r,B40 (Zju rr r))/\∀ r,B40 (Zju ws r):=by
 obtain⟨f1,f2,f3,f4,f5,f6,f7,f8⟩:=Zi2 h;refine⟨λr k=>?_,λr=>Zmv f7 Gj r,λr=>Zmv f6 Gj r⟩;unfold Zcg;by_cases hr:r<rs.length
 ·rw[Qa hr]
  exact Zmv (f8 _ (Qn hr)).2 Gj k
 rw[Qf (l:=rs) (i:=r) Gk];show (0:Int).natAbs<=_;decide
def Zew(rs:List RI)(ws:List Int)(n:Nat):Nat->Nat->Rat:=λi j=>((Zc3 ws (Zcg rs i) (Zcg rs j) n:Int):Rat)
section
variable{rs:List RI}{rr ws:List Int}{n m:Nat}
theorem BndQ.den{B:Nat}{q:Rat}(h:BndQ B q):q.den=1:=by
 obtain⟨z,rfl,-⟩:=h;exact Rat.den_intCast z
theorem BndQ.num{B:Nat}{q:Rat}(h:BndQ B q):q.num.natAbs<=B:=by
 obtain⟨z,rfl,hz⟩:=h;rw[Rat.num_intCast];exact hz
end
theorem Zqq{B:Nat}{R:List (List Rat)}(h:∀ i j,BndQ B (Zj R i j))(i k:Nat):denTo (R[i]?.getD []) k=1:=by
 have h1:=Zrs (R[i]?.getD []) (D:=1) (λj=>by
  have:=(h i j).den;unfold Zj at this;rw[this];exact Qc _) k
 have h2:=Zeg (R[i]?.getD []) k;rw[Nat.one_pow]at h1;omega
theorem Zy5{B:Nat}{R:List (List Rat)}(h:∀ i j,BndQ B (Zj R i j))(i j:Nat):(Zaf (Z8 R) i j).natAbs<=B:=by
 have h1:=Zgu R i j;obtain⟨z,hz,hb⟩:=h i j;have hd:denAt R i=1:=Zqq h i _;rw[hd,hz]at h1
 have h2:((Zaf (Z8 R) i j:Int):Rat)=(z:Rat):=by
  rw[h1];have:((1:Nat):Rat)=1:=rfl;rw[this];grind
 rw[Rat.intCast_inj.1 h2];exact hb
theorem Zq0{b n m:Nat}{R:List (List Rat)}(h:∀ i j,BndQ (pw b) (Zj R i j))(hl:R.length=n)(hn:n<=900)(hrow:∀ i,i<n->(R[i]?.getD []).length=m)(hnm:n<=m)(h1:(b+1)*n<189)(hb:b<900) :
    okZ (pw 200) m n 0 0 (Z8 R) 1/\okR (pw 200) (pw 200) m n 0 0 R/\Zr8 R n m/\(Zas n 0 0 (Z8 R) false 1).2.1=(Zbl n 0 0 R false).2.1/\(Zbl n 0 0 R false).2.1<=n /\
    ((Zbl n 0 0 R false).2.1<n->Zay n (Zj R)=0) /\
    ((Zbl n 0 0 R false).2.1=n->Zay n (Zj R)≠0/\∃ X:Nat->Nat->Rat,Zha (Zj (Zbl n 0 0 R false).1) X n m/\Zha (λi j=>(Zaf (Zas n 0 0 (Z8 R) false 1).1 i j:Rat)) X n m/\SolQ (Zj R) X n m):=by
 have e:=Zkh (b:=b) n hn;obtain⟨B,hB⟩:=Gz (Zbr (pw b) n);rw[hB]at e;obtain⟨d,hd⟩:=Gz ((b+1)*n);rw[hd]at e h1;have bb:B*B<=pw (d+d):=Zzz e e
 have g1:(n+1)*(B*B)<pw 400:=by
  have h6:(n+1)*(B*B)<=pw (1+(d+d)):=Zzz (k_pw Gk) bb;exact Qg h6 (Zdm Gk)
 have g2:B*B*1<pw 400:=by rw[QI];exact Qg bb (Zdm Gk)
 have g3:B*1<pw 300:=by rw[QI];exact Qg e (Zdm Gk)
 have hs:=Zvx (B:=pw b) (S:=1) (Zby _) (Qc _) R hl hrow (λi hi=>Nat.le_of_eq (Zqq h i _)) (λi j _=>Zy5 h i j) hnm (by rw[hB];exact g1) (by rw[hB];exact g2) (by rw[hB];exact g3);rw[hB,QI]at hs;obtain⟨o1,o2,o3,o4,o5,o6⟩:=hs;have p1:B+1<=pw 200:=Qd (Nat.add_le_add e (Zby d)) (Qd (Zqi d) (Zca Gk));have p2:B<pw 200:=p1;refine⟨Zoa p2 _ _ _ _ _ o1,Zna p2 p2 _ _ _ _ o2,⟨λi t hi ht=>?_,λi j=>?_⟩,o3,o4,o5,λhr=>?_⟩;rw[Zqq h];exact Ql Zeh (Zca Gj);exact Qg (h i j).num (Zdm Gk);obtain⟨q1,X,q2,q3,q4,-⟩:=o6 hr;exact⟨q1,X,q2,q3,q4⟩
section
variable{rs:List RI}{rr ws:List Int}{n m:Nat}
end
theorem Zwm{w:World}{A:Option Addr}{n c:Nat}{rs:List RI}{rr ws:List Int}(h:MIL w A n c rs)(hE:Zd8 rs rr ws=0):0<n/\n<=200/\0<n0I rs/\n0I rs<=12/\rr.length=n/\ws.length=n/\∀ r ∈ rs,r.n=n0I rs:=by
 obtain⟨f1,f2,f3,f4,f5,f6,f7,f8⟩:=Zi2 hE;have hl:=h.1
 have f:0<n:=by
  rcases QF n with h0|h0
  ·exfalso
   have:rs=[]:=Qr Gk;subst this;exact f3 rfl
  exact h0
 have e:n0I rs<=12:=by
  obtain⟨_,_,r0,_,o,_⟩:=h.at_ (i:=0) f;have h1:=Qh o;rw[<- (f8 r0 h1).1];exact f2 r0 h1
 exact⟨f,by omega,by omega,e,by omega,by omega,λr hr=>(f8 r hr).1⟩
theorem inv_CD{B n:Nat}{Q X:Nat->Nat->Rat}(hQ:∀ a b,a<n->b<n->BndQ B (Q a b))(hB:1<=B)(hE:∀ c i,c<n->i<n->Za7 n (λj=>Q i j*X j c)=if i=c then 1 else 0)(h0:Zay n Q≠0) :
    ∃ D,0<D/\D<=Zbr B n/\∀ c k,c<n->k<n->CD D (Zbr B n) (X k c):=by
 obtain⟨d,hd,y⟩:=Zhn hQ;have u:d≠0:=λe=>h0 (by rw[hd,e];rfl);refine⟨d.natAbs,by omega,y,λc k hc hk=>?_⟩;have f:=Z03 Q (λj=>X j c) (λi=>if i=c then 1 else 0) (λi hi=>hE c i hc hi) hk
 obtain⟨z,hz,o⟩:=Zhn (B:=B) (n:=n) (M:=λa b=>if b=k then (if a=c then 1 else 0)else Q a b) (λa b ha hb=>by
  show BndQ B (if b=k then (if a=c then 1 else 0)else Q a b);by_cases h:b=k
  ·rw[Gx h]
   by_cases h2:a=c;rw[Gx h2];exact⟨1,rfl,by simpa using hB⟩;rw[Gw h2];exact⟨0,rfl,by simp⟩
  rw[Gw h];exact hQ a b ha hb)
 rw[hz,hd]at f;have C:(d:Rat)≠0:=λe=>u (by exact_mod_cast e);rcases Int.natAbs_eq d with h|h
 ·refine⟨z,?_,o⟩
  have h1:((d.natAbs:Nat):Rat)=(d:Rat):=by rw[<- Qs,<- h]
  rw[h1,<- f]
  grind
 refine⟨-z,?_,by rw[Int.natAbs_neg];exact o⟩
 have h1:((d.natAbs:Nat):Rat)=-(d:Rat):=by
  rw[<- Qs,show ((d.natAbs:Nat):Int)=-d by omega,QM]
 rw[h1,QM,<- f]
 grind
def Zeb:Rat:=((1000000000000000000:Int):Rat)
def ofQ(X:Nat->Nat->Rat)(m:Nat):List (List Rat):=(QC m).map λi=>(QC m).map λc=>X i (m+c)*Zeb
section
variable{rs:List RI}{rr ws:List Int}{n m:Nat}
theorem Zgc{i:Nat}(hi:i<m):((Zdc rs ws n m)[i]?.getD []).length=m:=by rw[Z1s hi,Zt6]
theorem Fd{G:Prop}(h:G:=by
 rw[List.getElem?_map,List.getElem?_range hi,Option.map_some,Option.getD_some,List.getElem?_map,List.getElem?_range hj];rfl):G:=h
theorem Zli{i j:Nat}(hi:i<m)(hj:j<m):Zj (Zdc rs ws n m) i j=Zew rs ws n i j:=by
 unfold Zj Zdc;exact Fd
theorem Zno(hn:n<=200)(hE:Zd8 rs rr ws=0)(i j:Nat):BndQ (pw 4) (Zew rs ws n i j):=by
 obtain⟨b1,b2,b3⟩:=sys_b40 hE;exact⟨_,rfl,Z0v hn λr _=>⟨b3 r,b1 r i,b1 r j⟩⟩
theorem Zzb(hn:n<=200)(hE:Zd8 rs rr ws=0)(i j:Nat):BndQ (pw 4) (Zj (Zbk (Zdc rs ws n m) m m 0) i j):=by
 have h0:BndQ (pw 4) (0:Rat):=BndQ.zero;have h1:BndQ (pw 4) (1:Rat):=⟨1,rfl,Zby 4⟩;rw[Zgy (λi hi=>Zgc hi) (Zj4 _ _ _ _)];by_cases hi:i<m
 ·rw[Gx hi]
  by_cases hj:j<m;rw[Gx hj,Zli hi hj];exact Zno hn hE i j;rw[Gw hj]
  split
  ·split
   exact h1;exact h0
  exact h0
 rw[Gw hi];exact h0
def OfP(rs:List RI)(ws:List Int)(n m:Nat)(X:Nat->Nat->Rat):Prop:=
 (∀ c i,c<m->i<m->Za7 m (λj=>Zew rs ws n i j*X j (m+c))=if i=c then 1 else 0)/\∃ D,0<D/\D<=pw (5*m)/\∀ c k,c<m->k<m->CD D (pw (5*m)) (X k (m+c))
theorem Zv5(hn:n<=200)(hm:m<=12)(hE:Zd8 rs rr ws=0) :
    okZ (pw 200) (m+m) m 0 0 (Z8 (Zbk (Zdc rs ws n m) m m 0)) 1/\okR (pw 200) (pw 200) (m+m) m 0 0 (Zbk (Zdc rs ws n m) m m 0)/\Zr8 (Zbk (Zdc rs ws n m) m m 0) m (m+m) /\
    (Zas m 0 0 (Z8 (Zbk (Zdc rs ws n m) m m 0)) false 1).2.1=(Zbl m 0 0 (Zbk (Zdc rs ws n m) m m 0) false).2.1/\(Zbl m 0 0 (Zbk (Zdc rs ws n m) m m 0) false).2.1<=m /\
    ((Zbl m 0 0 (Zbk (Zdc rs ws n m) m m 0) false).2.1<m->Zay m (Zew rs ws n)=0) /\
    ((Zbl m 0 0 (Zbk (Zdc rs ws n m) m m 0) false).2.1=m->Zay m (Zew rs ws n)≠0/\∃ X:Nat->Nat->Rat,Zha (Zj (Zbl m 0 0 (Zbk (Zdc rs ws n m) m m 0) false).1) X m (m+m)/\Zha (λi j=>(Zaf (Zas m 0 0 (Z8 (Zbk (Zdc rs ws n m) m m 0)) false 1).1 i j:Rat)) X m (m+m)/\OfP rs ws n m X):=by
 have f:∀ i,i<m->((Zbk (Zdc rs ws n m) m m 0)[i]?.getD []).length=m+m:=λi hi=>by
  rw[Zk7 hi,Gx hi,QG,Zgc hi];simp[Zf2]
 obtain⟨o1,o2,o3,o4,o5,o6,o7⟩:=Zq0 (b:=4) (n:=m) (m:=m+m) (R:=Zbk (Zdc rs ws n m) m m 0) (λi j=>Zzb hn hE i j) (Zps _ _ _ _) Gk f Gk Gk Gk
 have e:Zay m (Zj (Zbk (Zdc rs ws n m) m m 0))=Zay m (Zew rs ws n):=Zba λi j hi hj=>by
  rw[Zgy (λi hi=>Zgc hi) (Zj4 _ _ _ _),Gx hi,Gx hj,Zli hi hj]
 rw[e]at o6 o7;refine⟨o1,o2,o3,o4,o5,o6,λhr=>?_⟩;obtain⟨x1,X,x2,x3,x4⟩:=o7 hr
 have hS:∀ c i,c<m->i<m->Za7 m (λj=>Zew rs ws n i j*X j (m+c))=if i=c then 1 else 0:=λc i hc hi=>by
  have h6:=x4 i (m+c) hi Gk Gk;rw[Zgy (λi hi=>Zgc hi) (Zj4 _ _ _ _),Gx hi,Gw Gk,Nat.add_sub_cancel_left,Gx hc]at h6;rw[<- h6];exact Zam λj hj=>by rw[Zgy (λi hi=>Zgc hi) (Zj4 _ _ _ _),Gx hi,Gx hj,Zli hi hj]
 obtain⟨D,d1,d2,d3⟩:=inv_CD (B:=pw 4) (n:=m) (Q:=Zew rs ws n) (X:=λj c=>X j (m+c)) (λa b _ _=>Zno hn hE a b) (Zby 4) hS x1;have h:=Zkh (b:=4) m Gk;exact⟨x1,X,x2,x3,hS,D,d1,Qd d2 h,λc k hc hk=>(d3 c k hc hk).mono h⟩
end
theorem Zx1(A:Option Addr)(n c:Nat)(w:World)(hn:n<=maxLen) :
    Calls Tryz.prog 42 #[.slice A n c] w λe w'=>e=.returned (.bool (decide (6<n)))/\Below w.heap.size w w':=by
 exact Bx
def RI.long6(r:RI):Bool:=decide (6<r.n)
theorem Zyt(A:Option Addr)(n c:Nat)(rs:List RI)(w:World)(h:MIL w A n c rs)(b:Bool)(hb:rs.any RI.long6=b) :
    Calls Tryz.prog 79 #[.slice A n c,.func (.func 42) #[] #[]] w (IdxB w b):=by
 have hl:=h.1;have u:=h.2.1;have f:=h.2.2.1;unfold maxLen at f;replace hl:=Zd hl;replace hb:=Zd hb;replace h:=Zd h;go_in;go_wp2_with fail
 go_loopw [8] (λiv wr=>∃ i:Nat,i<=n/\iv=.int .i64 i/\Hid (∀ j e,j<i->rs[j]?=some e->e.long6=false)/\Below w.heap.size w wr) (λiv _=>n-(intOf iv).toNat)
 case atStart=>exact⟨0,Qm _,rfl,Zd (λj e hj=>by omega),Qw _ _⟩
 case round =>
  obtain⟨i,y,rfl,aw,aH⟩:=hrel;by_cases hin:i<n
  case neg =>
   exact Em
  have fw:decide ((i:Int)<(n:Int))=true:=Gv Gk;obtain⟨g,o,r,rfl,he,c0,hL⟩:=(h.out.below aH).at_ hin;have hC:=Zd (λW1=>Zx1 r.A r.n r.c W1 hL.nlen);clear hL;by_cases hx:6<r.n
  ·obtain rfl:b=true:=by
     rw[<- hb.out,List.any_eq_true];exact⟨r,Qh he,by unfold RI.long6;simpa using hx⟩
   exact CY
  have ay:Hid (∀ j e,j<i+1->rs[j]?=some e->e.long6=false):=Zd (λj e' hj he'=>by
    rcases Nat.lt_or_ge j i with h'|h';exact aw.out j e' h' he';obtain rfl:j=i:=Gk;rw[he]at he';cases he';unfold RI.long6;simpa using hx)
  exact CZ
theorem Zvk(A:Option Addr)(n c:Nat)(rs:List RI)(w:World)(h:MIL w A n c rs)(b:Bool)(hb:rs.any RI.long6=b) :
    Calls Tryz.prog 41 #[.slice A n c,.func (.func 42) #[] #[]] w λe w'=>e=.returned (.bool b)/\Below w.heap.size w w':=by
 go_in;go_wp2_with fail;refine(Zyt A n c rs w h b hb).mono ?_;exact EY
def ofE(rs:List RI)(ws:List Int):Int:=if rs.any RI.long6=true then 4 else if Zd8 rs (Qb (min rs.length 200) 0) ws≠0 then Zd8 rs (Qb (min rs.length 200) 0) ws else if Zay (n0I rs) (Zew rs ws rs.length)=0 then 22 else 0
section
variable{rs:List RI}{ws:List Int}{E:Int}
theorem Zsb(h:rs.any RI.long6=true):ofE rs ws=4:=by unfold ofE;rw[Gx h]
theorem Zwh(h:rs.any RI.long6=false)(hE:Zd8 rs (Qb (min rs.length 200) 0) ws=E)(h0:E≠0):ofE rs ws=E:=by
 unfold ofE;rw[Gw (by rw[h];decide),hE,Gx h0]
theorem Zwp(h:rs.any RI.long6=false)(hE:Zd8 rs (Qb (min rs.length 200) 0) ws=0)(hd:Zay (n0I rs) (Zew rs ws rs.length)=0):ofE rs ws=22:=by
 unfold ofE;rw[Gw (by rw[h];decide),hE,Gw Gh,Gx hd]
theorem Z06(h:rs.any RI.long6=false)(hE:Zd8 rs (Qb (min rs.length 200) 0) ws=0)(hd:Zay (n0I rs) (Zew rs ws rs.length)≠0):ofE rs ws=0:=by
 unfold ofE;rw[Gw (by rw[h];decide),hE,Gw Gh,Gw hd]
end
def OfPost(rs:List RI)(ws:List Int)(X:Nat->Nat->Rat)(w:World)(e:Ending)(w':World):Prop:=
 Below w.heap.size w w'/\((ofE rs ws=0/\∃ rt,Zfw rt=Zfv (ofQ X (n0I rs))/\((Za9 rt=0/\∃ A c,e=.returned (.tuple #[.slice A (n0I rs) c,.int .i64 0])/\MFL w' A (n0I rs) c (ofQ X (n0I rs))) \/ (Za9 rt≠0/\e=.returned (.tuple #[.slice none 0 0,.int .i64 16])))) \/
  (ofE rs ws≠0/\e=.returned (.tuple #[.slice none 0 0,.int .i64 (ofE rs ws)])))
theorem OfPost.fall{rs:List RI}{ws:List Int}{X:Nat->Nat->Rat}{w w':World}{E:Int}(hb:Below w.heap.size w w')(h:ofE rs ws=E)(h0:E≠0):OfPost rs ws X w (.returned (.tuple #[.slice none 0 0,.int .i64 E])) w':=by
 subst h;exact⟨hb,.inr ⟨h0,rfl⟩⟩
def ScT(L L2:List RF)(m i k:Nat)(S:Rat):Prop:=
 L2.length=m/\L2.map RF.g=L.map RF.g/\(∀ (j:Nat) (r:RF),L2[j]?=some r->r.q.length=m)/\∀ j c,j<m->c<m->Zj (L2.map RF.q) j c=if j<i \/ (j=i/\c<k)then Zj (L.map RF.q) j c*S else Zj (L.map RF.q) j c
section
variable{L L2:List RF}{m i k:Nat}{S:Rat}
theorem ScT.start(hl:L.length=m)(hr:∀ (j:Nat) (r:RF),L[j]?=some r->r.q.length=m):ScT L L m 0 0 S:=
 ⟨hl,rfl,hr,λj c _ _=>by rw[Gw Gk]⟩
theorem ScT.step(h:ScT L L2 m i k S){r:RF}(hr:L2[i]?=some r)(hi:i<m)(hk:k<m){x:Rat}(hx:x=Zj (L.map RF.q) i k*S):ScT L (L2.set i ⟨r.g,r.c,r.q.set k x⟩) m i (k+1) S:=by
 obtain⟨h1,h2,h3,h4⟩:=h;have e:i<L2.length:=Gk;have o:=h3 i r hr;refine⟨by rw[QN];exact h1,?_,λj s hs=>?_,λj c hj hc=>?_⟩;rw[Ze2 (f:=RF.g) (s:=⟨r.g,r.c,r.q.set k x⟩) hr rfl];exact h2
 ·rw[Qv]at hs
  by_cases hij:i=j
  ·subst hij
   rw[Gx rfl,Gx e]at hs;cases hs;rw[QN];exact o
  rw[Gw hij]at hs;exact h3 j s hs
 rw[Zks,Zsy e];have h5:=h4 j c hj hc;rw[Zks]at h5;by_cases hji:j=i
 ·subst hji
  rw[Gx rfl];rw[Zgk hr]at h5;show (r.q.set k x)[c]?.getD 0=_;rw[Qv];by_cases hkc:k=c
  ·subst hkc
   rw[Gx rfl,Gx Gk,Gx Gk,Qo];exact hx
  rw[Gw hkc,h5];by_cases hck:c<k;rw[Gx Gk,Gx Gk];rw[Gw Gk,Gw Gk]
 rw[Gw hji,h5];by_cases hj2:j<i;rw[Gx Gk,Gx Gk];rw[Gw Gk,Gw Gk]
theorem ScT.next(h:ScT L L2 m i m S):ScT L L2 m (i+1) 0 S:=by
 obtain⟨h1,h2,h3,h4⟩:=h;refine⟨h1,h2,h3,λj c hj hc=>?_⟩;rw[h4 j c hj hc];by_cases hj2:j<i+1;rw[Gx Gk,Gx Gk];rw[Gw Gk,Gw Gk]
theorem ScT.done(h:ScT L L2 m m 0 S):L2.map RF.q=(QC m).map λj=>(QC m).map λc=>Zj (L.map RF.q) j c*S:=by
 obtain⟨h1,h2,h3,h4⟩:=h;refine QJ (by simp[h1]) λj hj1 hj2=>?_;rw[Qk,h1]at hj1;have hs:L2[j]?=some L2[j]:=Qa Gk;have hq:=h3 j _ hs;refine QJ (by simp[hq]) λc hc1 hc2=>?_;have hc:c<m:=by simpa [hq]using hc1
 have h5:=h4 j c hj1 hc;rw[Gx Gk]at h5
 have h6:Zj (L2.map RF.q) j c=(L2[j].q)[c]'(by omega):=by
  unfold Zj;rw[Qe,hs,Qq,Qo,Qa Gk,Qo]
 rw[h6]at h5;simp[h5]
end
def InvZB(Q:List (List Rat))(n:Nat)(X:Nat->Nat->Rat)(w:World)(e:Ending)(w':World):Prop:=
 ((Zas n 0 0 (Z8 (Zbk Q n n 0)) false 1).2.1<n/\e=.returned (.tuple #[.slice none 0 0,.int .i64 18])/\Below w.heap.size w w') \/
 ((Zas n 0 0 (Z8 (Zbk Q n n 0)) false 1).2.1=n/\∃ gO L,e=.returned (.tuple #[.slice (some ⟨gO,0,none⟩) n n,.int .i64 0])/\Below w.heap.size w w'/\MatB 35 41 w' gO L/\L.map RF.q=Zjz X n (n+n)/\w.heap.size<=gO/\∀ r ∈ L,w.heap.size<=r.g)
theorem Zon(A:Option Addr)(n c:Nat)(rs:List RX)(w:World)(h:MXL w A n c rs)(hs:sqE rs=0)(hn9:n<=12)(V:okZ (pw 200) (n+n) n 0 0 (Z8 (Zbk (qM rs) n n 0)) 1)(hfin:Zr8 (Zbk (qM rs) n n 0) n (n+n))(a0:(Zas n 0 0 (Z8 (Zbk (qM rs) n n 0)) false 1).2.1<=n)
    (X:Nat->Nat->Rat) (hX:(Zas n 0 0 (Z8 (Zbk (qM rs) n n 0)) false 1).2.1=n->Zha (λi j=>(Zaf (Zas n 0 0 (Z8 (Zbk (qM rs) n n 0)) false 1).1 i j:Rat)) X n (n+n)) :
    Calls Tryz.prog 43 #[.slice A n c] w (InvZB (qM rs) n X w):=by
 have hmx:=Gt;have c1:(35:TypeId)≠41:=Gj;obtain⟨a1,b9⟩:=Zx9 hs;obtain⟨f1,f2,f3,f4,f5⟩:=Zjc a1;have hl:=h.1;have b8:(qM rs).length=n:=Zvw h;have T:=qM_row h a1;rw[show n0R rs=n by omega]at T;have O:=h.good a1;obtain⟨W0,b6,o,q0,s0⟩:=Zao w 25 #[.slice A n c];have k0:=q0.cell 0;simp at k0;obtain⟨Q,hQ⟩:=Gz (qM rs);rw[hQ]at b8 T O V hfin a0;rw[hQ]at hX;replace hX:=Zd hX;unfold InvZB;rw[hQ];have c0:1<=n:=Gk;replace h:=Zd (h.below o);replace hs:=Zd hs;replace O:=Zd (O.below o);replace T:=Zd T;replace V:=Zd V;replace a0:=Zd a0;replace hfin:=Zd hfin;clear f3 f4 f5 a1 b9;go_in;go_wp2_with fail;(try rw[b6]);go_wp2_with fail;refine(Zsp A n c rs W0 h.out 0 hs.out).mono ?_;rintro e w1 ⟨rfl,C⟩;have q1:=Ze C q0;replace O:=Zd (O.out.below C);clear k0;go_wp2_with fail;obtain⟨X0,a3⟩:=Gz w1.drew;have u:Below w1.heap.size w1 X0:=by rw[<- a3];exact Zh (Qw _ _) 1
 have f:Hid (∀ wx,Below w1.heap.size w1 wx->wx.cell? ⟨w.heap.size,0,none⟩=some (.slice A n c)):=Zd (λwx hbx=>by
  have h1:=(q1.below hbx q1.lt).cell 0;simpa using h1)
 refine wp_heldS [] hmx f (by rw[a3];exact u) (λhxs=>?_);rw[a3];refine Zkb 4 [0,1,3,4] rfl Gi (f.out _ u) ?_
 iterate 4 (refine tkA ?_;try simp only[QA,Zg9,Zgn,Zg3,Gr,Gq,Gp])
 refine tk0 ?_;refine wpAnyL_o 2 λK hK=>?_;go_simp;refine(Zw5 81 (.pointer (some ⟨w.heap.size,0,none⟩)) A n c n n Q (λi=>Zf2 n i) X0 (O.out.below u) Gk T.out Gk Gk Gk Gk (λi hi=>Zif _ _) (λx W=>Znb _ _ _) (λW i hbW hi=>Ztd w.heap.size A n c i W (((q1.below u q1.lt)).below hbW (q1.below u q1.lt).lt) Gk hi)).mono ?_;rintro e w3 ⟨go,L,rfl,b4,-,a7,a9,b3⟩
 have U:L.map RF.q=Zbk Q n n 0:=by
  rw[b3];unfold Zbk;refine Qj λj hj=>?_;rw[Gx (List.mem_range.1 hj)]
 have Y:=a9.mfl a7 (Qc n) (by unfold maxLen;omega);rw[U]at Y;have y:=Gs u b4
 have a2:∀ j,j<n->((Zbk Q n n 0)[j]?.getD []).length=n+n:=λj hj=>by
  rw[Zk7 hj,Gx hj,QG,T.out j hj,Zif]
 replace Y:=Zd Y;replace a2:=Zd a2;refine hK.out _ _ (λ_=>f.out _ y) ?_;clear hK K a9 U b3 b4 a7
 try simp only[QA,Zg9,Zgn,Zg3]
 by_cases J:(Zas n 0 0 (Z8 (Zbk Q n n 0)) false 1).2.1<n
 ·skip
  replace J:=Zd J;refine wpAnyL_o 5 λK hK=>?_;go_simp;refine(Z0i (some ⟨go,0,none⟩) n n (n+n) (Zbk Q n n 0) w3 Y.out Gk Gk Gk Gk a2.out V.out hfin.out J.out).mono ?_;rintro e w5 ⟨rfl,a4⟩;have I:=Gs y a4;refine hK.out _ _ (λ_=>f.out _ I) ?_;clear hK K
  try simp only[QA,Zg9,Zgn,Zg3]
  refine Zgo 5 [6,7,8,9,10] rfl Gi (f.out _ I) ?_
  iterate 5 (refine tkA ?_;try simp only[QA,Zg9,Zgn,Zg3,Gr,Gq,Gp])
  refine tk0 ?_;refine wpAnyL_fin ?_;have a5:Below w.heap.size w w5:=o.trans (C.mono o.size |>.trans (I.mono (Qd o.size C.size)));clear hxs f u y;go_wp2_with fail;go_returns;exact .inl ⟨J.out,rfl,a5⟩
 skip
 have a6:Hid ((Zas n 0 0 (Z8 (Zbk Q n n 0)) false 1).2.1=n):=Zd (Nat.le_antisymm a0.out (Nat.not_lt.1 J));clear J;refine wpAnyL_o 5 λK hK=>?_;go_simp;refine(Zzu (some ⟨go,0,none⟩) n n (n+n) (Zbk Q n n 0) w3 Y.out Gk Gk Gk Gk a2.out V.out hfin.out a6.out X (hX.out a6.out)).mono ?_;rintro e w5 ⟨gO,L5,rfl,a4,b7,b2,b0,a8⟩;have I:=Gs y a4;have b1:Hid (w.heap.size<=gO/\∀ r ∈ L5,w.heap.size<=r.g):=Zd ⟨Qd (Qd o.size (Qd C.size y.size)) b7,λr hr=>Qd (Qd o.size (Qd C.size y.size)) (a8 r hr)⟩;have b5:=Zd (show MatB 35 41 w5 gO L5 from b2);refine hK.out _ _ (λ_=>f.out _ I) ?_;clear hK K
 try simp only[QA,Zg9,Zgn,Zg3]
 refine Zgo 5 [6,7,8,9,10] rfl Gi (f.out _ I) ?_
 iterate 5 (refine tkA ?_;try simp only[QA,Zg9,Zgn,Zg3,Gr,Gq,Gp])
 refine tk0 ?_;refine wpAnyL_fin ?_;have a5:Below w.heap.size w w5:=o.trans (C.mono o.size |>.trans (I.mono (Qd o.size C.size)));clear hxs f u y b2;go_wp2_with fail;go_returns;exact .inr ⟨a6.out,gO,L5,rfl,a5,b5.out,b0,b1.out.1,b1.out.2⟩
open Go.ChangeShapes Go.WideShapes Go.Deep Go.RowKit
theorem Zwv{z:Int}(h:(Lit.int .u32 z).wf=true):0<=z/\z<=4294967295:=by
 simp only[Lit.wf,QK,decide_eq_true_eq]at h;exact h
section
variable{H:Type}{enc:TypeId × Value->H}{w:World}{base:Nat}{spare:Nat->Bool}{held:Bool}
theorem FD{G:Prop}(h:G:=by
 obtain⟨b,o,s⟩:=a;refine⟨b,o,?_⟩;unfold Addr.add at hp
 split at hp <;> simp_all):G:=h
theorem Zyb{fuel:Nat}{cs:List Value}{x:DataW H × List MemPlace}(h:DataW.trod enc Tryz.prog w base spare held fuel 37 cs=some x):∃ (A:Option Addr) (n c:Nat) (l:List Nat),cs=[.slice A n c]/\Lim w A n c l:=by
 rcases open_ints Tryz.underlying37 Tryz.underlying106 Gi h with ⟨rfl,_⟩|⟨a,len,cap,zs,rfl,_,hl,hm,hz,_,e,u⟩;exact⟨none,0,0,[],rfl,Lim.nil _ _ _ (Qm _)⟩;have C:len<=zs.length:=by rw[hz];split <;> omega
 refine⟨some a,len,cap,(zs.take len).map Int.toNat,rfl,by simp;omega,hl,hm,λv hv=>?_,λhn=>?_⟩
 ·obtain⟨z,y,rfl⟩:=List.mem_map.1 hv
  have:=Zwv (u z (List.mem_of_mem_take y));omega
 have h0:=e 0 Gk;have hp:=Zjp h0
 obtain⟨b,o,s⟩:∃ b o,a=⟨b,o,none⟩:=by
  exact FD
 subst s;refine⟨b,o,rfl,λk hk=>?_⟩;have hc:=e k Gk;rw[Zi]at hc;rw[hc];have f:k<zs.length:=Gk;have hw:=Zwv (u zs[k] (Qn f));rw[Qe,List.getElem?_take,Gx hk,Qa f,List.getD_eq_getElem?_getD,Qa f];simp[limb];omega
theorem Znh{fuel:Nat}{cs:List Value}{x:DataW H × List MemPlace}(h:DataW.trod enc Tryz.prog w base spare held fuel 39 cs=some x):∃ (na:Bool) (A:Option Addr) (n c:Nat) (l:List Nat),cs=[.bool na,.slice A n c]/\Lim w A n c l:=by
 obtain⟨xs,n',_,_,hl,e,f⟩:=DataW.trod_struct Tryz.underlying39 h;have c2:Tryz.prog.cellsOf 39=2:=Gi;have c0:Tryz.prog.cellsOf 4=1:=Gi;have c1:Tryz.prog.cellsOf 37=1:=Gi;rw[c2]at hl
 obtain⟨x,y,rfl⟩:∃ x y,cs=[x,y]:=by
  match cs,hl with
  | [x,y],_=>exact⟨x,y,rfl⟩
 have f0:=f 0 _ rfl;have f1:=f 1 _ rfl;simp only[QD,Qy,Qz]at f0 f1;rw[c0]at f0;rw[c1]at f1;have g0:xs[0]?=some (xs[0]'(by rw[e];decide)):=Qa _;have g1:xs[1]?=some (xs[1]'(by rw[e];decide)):=Qa _;rw[g0]at f0;rw[g1]at f1;obtain⟨b,e0,_⟩:=DataW.trod_bool Tryz.underlying4 f0;obtain⟨A,n,c,l,e1,hL⟩:=Zyb f1;simp at e0 e1;subst e0 e1;exact⟨b,A,n,c,l,rfl,hL⟩
theorem Zty{fuel:Nat}{cs:List Value}{x:DataW H × List MemPlace}(h:DataW.trod enc Tryz.prog w base spare held fuel 41 cs=some x) :
    ∃ (na nb:Bool) (A B:Option Addr) (n c m d:Nat) (la lb:List Nat),cs=[.bool na,.slice A n c,.bool nb,.slice B m d]/\Lim w A n c la/\Lim w B m d lb:=by
 obtain⟨xs,n',_,_,hl,e,f⟩:=DataW.trod_struct Tryz.underlying41 h;have c4:Tryz.prog.cellsOf 41=4:=Gi;have c2:Tryz.prog.cellsOf 39=2:=Gi;rw[c4]at hl
 obtain⟨x,y,z,u,rfl⟩:∃ x y z u,cs=[x,y,z,u]:=by
  match cs,hl with
  | [x,y,z,u],_=>exact⟨x,y,z,u,rfl⟩
 have f0:=f 0 _ rfl;have f1:=f 1 _ rfl;simp only[QD,Qy,Qz]at f0 f1;rw[c2]at f0 f1;have g0:xs[0]?=some (xs[0]'(by rw[e];decide)):=Qa _;have g1:xs[1]?=some (xs[1]'(by rw[e];decide)):=Qa _;rw[g0]at f0;rw[g1]at f1;obtain⟨na,A,n,c,la,e0,h0⟩:=Znh f0;obtain⟨nb,B,m,d,lb,e1,h1⟩:=Znh f1;simp at e0 e1;obtain⟨rfl,rfl⟩:=e0;obtain⟨rfl,rfl⟩:=e1;exact⟨na,nb,A,B,n,c,m,d,la,lb,rfl,h0,h1⟩
end
section
variable{H:Type}{enc:TypeId × Value->H}{w:World}{base:Nat}{spare:Nat->Bool}{held:Bool}
theorem CB{G:Prop}(h:G:=by
 have h0:=dR 0 _ (List.getElem?_eq_getElem Gk);have hp:=Zjp h0.1;exact FD):G:=h
theorem Zsj{fuel:Nat}{cs:List Value}{x:DataW H × List MemPlace}(h:DataW.trod enc Tryz.prog w base spare held fuel 35 cs=some x):∃ (A:Option Addr) (n c:Nat) (es:List FX),cs=[.slice A n c]/\FXL w A n c es:=by
 have c4:Tryz.prog.cellsOf 41=4:=Gi;rcases open_slice Tryz.underlying35 h with ⟨y,_⟩|⟨a,n,c,m,f,D,Pl,y,_,hl,hm,C,_,hi⟩;exact⟨none,0,0,[],y,rfl,Qc _,Qm _,λe he=>(by cases he),λh=>absurd h Gk⟩;have O:n<=m:=by rw[C];split <;> omega
 rw[c4]at hi
 obtain⟨es,I,dR⟩:=Zmb (λi (e:FX)=>w.cell? (a.add (i*4+0))=some (.bool e.na)/\w.cell? (a.add (i*4+1))=some (.slice e.A e.n e.c)/\w.cell? (a.add (i*4+2))=some (.bool e.nb)/\w.cell? (a.add (i*4+3))=some (.slice e.B e.m e.d)/\e.in_ w) n (λi hin=>by
  obtain⟨J,hc,ht⟩:=hi i Gk;obtain⟨na,nb,A,B,n1,c1,m1,d1,la,lb,rfl,h1,h2⟩:=Zty ht;obtain⟨_,_,u⟩:=World.cells?_some hc;have g0:=u 0 Gh;have g1:=u 1 Gh;have g2:=u 2 Gh;have g3:=u 3 Gh;rw[Go.Deep.add_add]at g0 g1 g2 g3;exact⟨⟨na,A,n1,c1,la,nb,B,m1,d1,lb⟩,by simpa using g0,by simpa using g1,by simpa using g2,by simpa using g3,h1,h2⟩)
 refine⟨some a,n,c,es,y,I,hl,hm,λe he=>?_,λhn=>?_⟩
 ·obtain⟨k,hk,rfl⟩:=Qt he
  exact(dR k _ (Qa hk)).2.2.2.2
 obtain⟨b,o,rfl⟩:∃ b o,a=⟨b,o,none⟩:=by
   exact CB
 refine⟨b,o,rfl,λk e hk=>?_⟩;have h0:=dR k e hk;rw[Zi,Zi,Zi,Zi]at h0;exact⟨h0.1,by rw[QE];exact h0.2.1,by rw[QE];exact h0.2.2.1,by rw[QE];exact h0.2.2.2.1⟩
theorem Zyi{fuel:Nat}{cs:List Value}{x:DataW H × List MemPlace}(h:DataW.trod enc Tryz.prog w base spare held fuel 25 cs=some x):∃ (A:Option Addr) (n c:Nat) (rs:List RX),cs=[.slice A n c]/\MXL w A n c rs:=by
 have c1:Tryz.prog.cellsOf 35=1:=Gi;rcases open_slice Tryz.underlying25 h with ⟨u,_⟩|⟨a,n,c,m,f,D,Pl,u,_,hl,hm,y,_,hi⟩;exact⟨none,0,0,[],u,rfl,Qc _,Qm _,λe he=>(by cases he),λh=>absurd h Gk⟩;have O:n<=m:=by rw[y];split <;> omega
 rw[c1]at hi
 obtain⟨rs,I,dR⟩:=Zmb (λi (r:RX)=>w.cell? (a.add i)=some (.slice r.A r.n r.c)/\FXL w r.A r.n r.c r.es) n (λi hin=>by
  obtain⟨J,hc,ht⟩:=hi i Gk;obtain⟨A,n1,c1,es,rfl,h1⟩:=Zsj ht;obtain⟨_,_,C⟩:=World.cells?_some hc;have g0:=C 0 Gh;rw[Go.Deep.add_add]at g0;exact⟨⟨A,n1,c1,es⟩,by simpa using g0,h1⟩)
 refine⟨some a,n,c,rs,u,I,hl,hm,λr hr=>?_,λhn=>?_⟩
 ·obtain⟨k,hk,rfl⟩:=Qt hr
  exact(dR k _ (Qa hk)).2
 obtain⟨b,o,rfl⟩:∃ b o,a=⟨b,o,none⟩:=by
   exact CB
 refine⟨b,o,rfl,λk r hk=>?_⟩;have h0:=dR k r hk;rw[Zi]at h0;exact h0.1
theorem Z0u{r:Reach}{b0:Nat}{v:Value}{d:DataW H}{p:List MemPlace}(hv:Value.okWide Tryz.prog w r b0 25 v)(h:DataW.Trod enc Tryz.prog w base spare held 25 v d p) :
    ∃ (A:Option Addr) (n c:Nat) (rs:List RX),v=.slice A n c/\MXL w A n c rs:=by
 obtain⟨A,n,c,rfl⟩:=okWide_slice Tryz.underlying25 hv;obtain⟨fuel,hf⟩:=h;obtain⟨A',n',c',rs,e,hM⟩:=Zyi hf;simp[Value.cells]at e;obtain⟨rfl,rfl,rfl⟩:=e;exact⟨_,_,_,rs,rfl,hM⟩
end
theorem Fr.raw{w:World}{na:Bool}{A:Option Addr}{n c:Nat}{nb:Bool}{B:Option Addr}{m d:Nat}{r:Rat}(h:Fr w na A n c nb B m d r):okF na (digits r.num.natAbs) nb (digits r.den)=true/\qOf na (digits r.num.natAbs) (digits r.den)=r:=by
 exact Fk
def FE.fx(e:FE):FX:=⟨e.na,e.A,e.n,e.c,digits e.q.num.natAbs,e.nb,e.B,e.m,e.d,digits e.q.den⟩
def Sm8(q:Rat):Prop:=q.num.natAbs<pw 8/\q.den<pw 8
theorem FE.fx_ok{w:World}{e:FE}(h:e.in_ w)(hs:Sm8 e.q):e.fx.in_ w/\e.fx.fine=true/\e.fx.q=e.q:=by
 have h0:Fr w e.na e.A e.n e.c e.nb e.B e.m e.d e.q:=h;have h1:=h0.1.2.2;have h2:=h0.2.2.2;rw[Int.natAbs_natCast]at h2;refine⟨⟨h1,h2⟩,?_,h0.raw.2⟩;unfold FX.fine;rw[QK];refine⟨Gv ?_,h0.raw.1⟩;have a1:=(Zs _ 8).2 hs.1;have a2:=(Zs _ 8).2 hs.2;have b1:=h1.len;have b2:=h2.len;unfold FX.few FE.fx;simp only;omega
theorem FL.fxl{w:World}{A:Option Addr}{n c:Nat}{qs:List Rat}(h:FL w A n c qs)(hs:∀ q ∈ qs,Sm8 q):∃ es,FXL w A n c es/\es.map FX.q=qs/\Zex es=true:=by
 obtain⟨fs,h1,h2,h3,h4,rfl,h5⟩:=h;have hk:∀ e ∈ fs,e.fx.in_ w/\e.fx.fine=true/\e.fx.q=e.q:=λe he=>FE.fx_ok (h4 e he) (hs _ (List.mem_map_of_mem he));refine⟨fs.map FE.fx,⟨by rw[Qk];exact h1,h2,h3,λx hx=>?_,λhn=>?_⟩,?_,?_⟩
 ·obtain⟨e,he,rfl⟩:=List.mem_map.1 hx
  exact(hk e he).1
 exact FA
 ·rw[List.map_map]
  exact Qj λe he=>(hk e he).2.2
 unfold Zex;rw[QL];intro x hx;obtain⟨e,he,rfl⟩:=List.mem_map.1 hx;exact(hk e he).2.1
theorem MFL.mxl{w:World}{A:Option Addr}{n c:Nat}{Q:List (List Rat)}(h:MFL w A n c Q)(hs:∀ r ∈ Q,∀ q ∈ r,Sm8 q):∃ rs,MXL w A n c rs/\qM rs=Q/\∀ (i:Nat) (r:RX),rs[i]?=some r->r.n=(Q[i]?.getD []).length/\Zex r.es=true:=by
 obtain⟨h1,h2,h3,h4⟩:=h;rcases QF n with h0|h0
 ·subst h0
  obtain rfl:Q=[]:=Qr h1;exact⟨[],⟨rfl,h2,h3,λr hr=>(by cases hr),λhn=>absurd hn (Nat.lt_irrefl _)⟩,rfl,λi r hr=>(by simp at hr)⟩
 obtain⟨g,o,rfl,hc⟩:=h4 h0
 obtain⟨rs,r1,r2⟩:=Zmb (λi (r:RX)=>w.cell? ⟨g,o+i,none⟩=some (.slice r.A r.n r.c)/\FXL w r.A r.n r.c r.es/\r.es.map FX.q=Q[i]?.getD []/\Zex r.es=true/\r.n=(Q[i]?.getD []).length) n (λi hi=>by
  have hq:Q[i]?=some Q[i]:=Qa Gk;obtain⟨A',n',c',k0,hF⟩:=hc i _ hq;obtain⟨es,e1,e2,e3⟩:=hF.fxl (hs _ (Qn _));exact⟨⟨A',n',c',es⟩,k0,e1,by rw[hq];exact e2,e3,by rw[hq];exact hF.len.symm⟩)
 refine⟨rs,⟨r1,h2,h3,λr hr=>?_,λ_=>⟨g,o,rfl,λk r hk=>(r2 k r hk).1⟩⟩,?_,λi r hr=>⟨(r2 i r hr).2.2.2.2,(r2 i r hr).2.2.2.1⟩⟩;exact ID;unfold qM;apply QH;intro i;rw[Qe];by_cases hi:i<n
 ·have hr:=Qa (l:=rs) (i:=i) Gk
  have hq:Q[i]?=some Q[i]:=Qa Gk;have:=(r2 i _ hr).2.2.1;rw[hq]at this;rw[hr,hq,Qq];exact congrArg some this
 rw[Qf Gk,Qf (l:=Q) Gk];rfl
theorem Zz8{w:World}{A:Option Addr}{n c m:Nat}{rs:List RX}(h:MXL w A n c rs)(hn:0<n)(hn12:n<=12)(hm:0<m)(hm12:m<=12)(hr:∀ r ∈ rs,r.n=m/\Zex r.es=true):Zg1 rs=0/\n0R rs=m:=by
 obtain⟨r0,f⟩:∃ r,rs[0]?=some r:=⟨_,Qa (by rw[h.1];exact hn)⟩
 have h0:n0R rs=m:=by
  unfold n0R;rw[f];exact(hr r0 (Qh f)).1
 refine⟨?_,h0⟩;unfold Zg1
 have h1:Zhz rs=false:=by
  unfold Zhz;rw[QB];refine⟨Gu (by have:=h.1;omega),List.any_eq_false.2 λr e=>?_⟩;have:=(hr r e).1;simp[RX.long,this];omega
 rw[Gw (by simp[h1]),Gw Gk,Gx ?_];rw[QL];intro r e;obtain⟨a1,a2⟩:=hr r e;unfold Zhd;simp[a1,a2,h0]
theorem MatB.stepN{tS tF:TypeId}{w U:World}{go g:Nat}{L:List RF}(h:MatB tS tF w go L)(hs:Zwd w U g)(h1:go≠g)(h2:∀ r ∈ L,r.g≠g):MatB tS tF U go L:=by
 obtain⟨⟨zs,k1⟩,k2,k3⟩:=h;refine⟨⟨zs,hs.2.1 _ _ _ h1 k1⟩,λr hr=>⟨?_,(k2 r hr).2⟩,k3⟩;obtain⟨es,fs,q1,q2,q3⟩:=(k2 r hr).1;exact⟨es,fs,hs.2.1 _ _ _ (h2 r hr) q1,λe he=>Fr.keep (q2 e he) hs.1,q3⟩
theorem MatB.lts{tS tF:TypeId}{w:World}{go:Nat}{L:List RF}(h:MatB tS tF w go L):go<w.heap.size/\∀ r ∈ L,r.g<w.heap.size:=by
 obtain⟨⟨zs,k1⟩,k2,k3⟩:=h;refine⟨k1.lt,λr hr=>?_⟩;obtain⟨es,fs,q1,q2,q3⟩:=(k2 r hr).1;exact q1.lt
theorem Zf4{w:World}{g:Nat}{t:TypeId}{x x0:Int}{p:Addr}{v:Value}(hb:Blk w g t #[.int .i64 x0])(h:w.cell? p=some v)(hv:v ≠ .int .i64 x0):(w.setCell ⟨g,0,none⟩ (.int .i64 x)).cell? p=some v:=by
 by_cases e:(⟨g,0,none⟩:Addr)=p
 ·subst e
  have h2:=hb.cell 0;rw[h]at h2;simp at h2;exact absurd h2 hv
 exact(World.cell?_setCell_other _ _ _ _ e).trans h
theorem FL.code{w:World}{g:Nat}{t:TypeId}{x x0:Int}{A:Option Addr}{n c:Nat}{qs:List Rat}(h:FL w A n c qs)(hb:Blk w g t #[.int .i64 x0]):FL (w.setCell ⟨g,0,none⟩ (.int .i64 x)) A n c qs:=by
 obtain⟨W,hW,-,-,f⟩:=Zak x (Qw 0 w) (Qm _) hb;obtain⟨es,h1,h2,h3,h4,h5,h6⟩:=h;refine⟨es,h1,h2,h3,λe he=>?_,h5,λhn=>?_⟩;rw[hW];exact Fr.keep (h4 e he) f.1;obtain⟨g1,o1,e1,hc⟩:=h6 hn;refine⟨g1,o1,e1,λk e he=>?_⟩;obtain⟨c1,c2,c3,c4⟩:=hc k e he;exact⟨Zf4 hb c1 Gh,Zf4 hb c2 Gh,Zf4 hb c3 Gh,Zf4 hb c4 Gh⟩
theorem MFL.code{w:World}{g:Nat}{t:TypeId}{x x0:Int}{A:Option Addr}{n c:Nat}{Q:List (List Rat)}(h:MFL w A n c Q)(hb:Blk w g t #[.int .i64 x0]):MFL (w.setCell ⟨g,0,none⟩ (.int .i64 x)) A n c Q:=by
 obtain⟨h1,h2,h3,h4⟩:=h;refine⟨h1,h2,h3,λhn=>?_⟩;obtain⟨g1,o1,e1,hc⟩:=h4 hn;refine⟨g1,o1,e1,λk q hq=>?_⟩;obtain⟨A',n',c',c1,c2⟩:=hc k q hq;exact⟨A',n',c',Zf4 hb c1 Gh,c2.code hb⟩
def OfX(rs:List RI)(ws:List Int)(X:Nat->Nat->Rat):Prop:=
 ofE rs ws=0->OfP rs ws rs.length (n0I rs) X/\Zha (λi j=>(Zaf (Zas (n0I rs) 0 0 (Z8 (Zbk (Zdc rs ws rs.length (n0I rs)) (n0I rs) (n0I rs) 0)) false 1).1 i j:Rat)) X (n0I rs) (n0I rs+n0I rs)
theorem sm8_nrm{rs:List RI}{rr ws:List Int}{n m:Nat}(hn:n<=200)(hE:Zd8 rs rr ws=0):∀ r ∈ Zdc rs ws n m,∀ q ∈ r,Sm8 q:=λr hr q hq=>by
 unfold Zdc at hr;obtain⟨i,hi,rfl⟩:=List.mem_map.1 hr;obtain⟨j,hj,rfl⟩:=List.mem_map.1 hq;have hb:=Zno hn hE i j;have e:Zew rs ws n i j=((Zc3 ws (Zcg rs i) (Zcg rs j) n:Int):Rat):=rfl;rw[e]at hb;refine⟨Qg hb.num (Zdm Gj),?_⟩;rw[hb.den];exact Ql Zeh (Zca Gj)
theorem ofS_sm:Sm Zeb:=(SmN.int (i:=3) (n:=1000000000000000000) GY).sm Gj Gj
theorem ofX_sm{rs:List RI}{ws:List Int}{n m:Nat}{X:Nat->Nat->Rat}(hm:m<=12)(h:OfP rs ws n m X){k c:Nat}(hk:k<m)(hc:c<m):Sm (X k (m+c)):=by
 obtain⟨-,D,d1,d2,d3⟩:=h;obtain⟨h1,h2⟩:=(d3 c k hc hk).small d1;exact⟨Qg h1 (Zdm Gk),Qg (Qd h2 d2) (Zdm Gk)⟩
theorem cOf_any(A C:Option Addr)(n c k e0:Nat)(rs:List RI)(ws:List Int)(X:Nat->Nat->Rat)(w:World)(h:MIL w A n c rs)(hw:LimI w C k e0 ws)(hX:OfX rs ws X)(hF:∀ rt,Zfw rt=Zfv (ofQ X (n0I rs))->FacC rt) :
    Calls Tryz.prog 10 #[.slice A n c,.slice C k e0] w (OfPost rs ws X w):=by
 have hmx:=Gt;have r6:=h.2.1;have n5:=h.2.2.1;unfold maxLen at n5;have r5:=hw.2.1;have n9:=hw.2.2.1;unfold maxLen at n9;obtain⟨W0,l6,c7,q5,s0⟩:=Zao w 26 #[.int .i64 0];obtain⟨b,hb⟩:=Gz (rs.any RI.long6);have hC:=Zd (Zvk A n c rs W0 (h.below c7) b hb);replace h:=Zd (h.below c7);replace hw:=Zd (hw.below c7);replace hX:=Zd hX;replace hF:=Zd hF;replace hb:=Zd hb;replace q5:=Zd q5;replace c7:=Zd c7;replace s0:=Zd s0
 go_enter_defers Tryz.func10,Tryz.ntmps10
 go_wp2_with fail;(try rw[l6]);clear l6;refine(hC.out).mono ?_;rintro e w1 ⟨rfl,u⟩;replace h:=Zd (h.out.below u);replace hw:=Zd (hw.out.below u);replace q5:=Gm u q5;have b8:=Gn c7 u;clear c7 u hC;cases b with
 | true =>
  have c4:=Zd (Zsb (ws:=ws) hb.out);go_wp2_with fail;refine(Zax 4 w1).mono ?_;rintro e w6 ⟨rfl,rfl⟩;go_wp2_with fail;refine leaves_cons (f:=39) (args:=#[.pointer (some ⟨w.heap.size,0,none⟩)]) Gh Gd ?_;have a3:=(q5.out).cell 0;simp at a3;refine(Za4 ⟨w.heap.size,0,none⟩ 4 0 _ a3 ((q5.out).frozen 0)).mono ?_;rintro e u' w'' ⟨rfl,rfl,T⟩;obtain⟨V,hV,d4,-,-,hk,sV⟩:=Zq 117 #[.int .i64 4] (b8.out) ((b8.out).size);obtain⟨U,hU,e2,q3,-,kq,-⟩:=Zak 4 d4 (Qc _) (hk _ _ _ (q5.out));rw[hV,hU]at T;subst T;have r4:=q3.cell 0;simp at r4;exact⟨.tuple #[.slice none 0 0,.int .i64 4],by simp[results,Tryz.results10,go_sem,r4],OfPost.fall e2 c4.out Gj⟩
 | false =>
  go_wp2_with fail;refine(Zb4 4 w1).mono ?_;rintro e w6 ⟨rfl,rfl⟩;obtain⟨E,hE⟩:=Gz (Zd8 rs (Qb (min rs.length 200) 0) ws);have f5:=h.out.1;by_cases hE0:E=0
  case neg =>
   have c4:=Zd (Zwh hb.out hE hE0);have d6:Hid (Zd8 rs (Qb (min n 200) 0) ws=E):=Zd (by rw[<- f5];exact hE);have t1:(E == 0)=false:=by simpa using hE0
   have r1:decide (E=0)=false:=by simpa using hE0
   have q2:(E != 0)=true:=by rw[bne,t1];rfl
   have m5:=Zd hE0;replace hE:=Zd hE;clear hE0;go_wp2_with fail;refine(Zr7 A C n c k e0 rs ws w6 h.out hw.out E d6.out m5.out).mono ?_;rintro e w3 ⟨rfl,u⟩;replace h:=Zd (h.out.below u);replace hw:=Zd (hw.out.below u);replace q5:=Gm u q5;have o0:=Gn b8 u;clear b8 u;obtain⟨U1,s1,h7,h3,-,-,-⟩:=Zak E o0.out (Qc _) q5.out;obtain⟨y0,z0⟩:_/\_:=⟨q5.out.cell 0,q5.out.frozen 0⟩;have x0:=h3.cell 0;simp at x0 y0;go_wp2_with fail;refine(Zax E U1).mono ?_;rintro e w7 ⟨rfl,rfl⟩;go_wp2_with fail;refine leaves_cons (f:=39) (args:=#[.pointer (some ⟨w.heap.size,0,none⟩)]) Gh Gd ?_;have a3:=(h3).cell 0;simp at a3;refine(Za4 ⟨w.heap.size,0,none⟩ E E _ a3 ((h3).frozen 0)).mono ?_;rintro e u' w'' ⟨rfl,rfl,T⟩;obtain⟨V,hV,d4,-,-,hk,sV⟩:=Zq 117 #[.int .i64 E] (h7) ((h7).size);obtain⟨U,hU,e2,q3,-,kq,-⟩:=Zak E d4 (Qc _) (hk _ _ _ (h3));rw[hV,hU]at T;subst T;have r4:=q3.cell 0;simp at r4;exact⟨.tuple #[.slice none 0 0,.int .i64 E],by simp[results,Tryz.results10,go_sem,r4],OfPost.fall e2 c4.out m5.out⟩
  subst hE0;obtain⟨p1,p2,p3,p4,p5,p6,p7⟩:=Zwm h.out hE;obtain⟨m,hm⟩:=Gz (n0I rs);have n8:k=n:=by rw[<- hw.out.1,p6]
  subst n8;have d6:Zd8 rs (Qb k 0) ws=0:=by rw[f5,Nat.min_eq_left p2]at hE;exact hE
  have hN:=Zd (λW9 (h9:MIL W9 A k c rs) (k9:LimI W9 C k e0 ws)=>Zvm A C k c e0 m rs ws W9 h9 k9 d6 hm);rw[hm]at p3 p4;have i2:=Zd (Zv5 (rs:=rs) (rr:=Qb k 0) (ws:=ws) (n:=k) (m:=m) p2 p4 d6);have l0:=Zd (sm8_nrm (rs:=rs) (ws:=ws) (rr:=Qb k 0) (n:=k) (m:=m) p2 d6);have e4:=Zd (And.intro (λhd:Zay m (Zew rs ws k)=0=>Zwp hb.out hE (by rw[hm,f5];exact hd)) (λhd:Zay m (Zew rs ws k)≠0=>Z06 hb.out hE (by rw[hm,f5];exact hd)))
  have j3:Hid (Zay m (Zew rs ws k)≠0->OfP rs ws k m X/\Zha (λi j=>(Zaf (Zas m 0 0 (Z8 (Zbk (Zdc rs ws k m) m m 0)) false 1).1 i j:Rat)) X m (m+m)):=Zd (λhd=>by
   have h9:=hX.out;unfold OfX at h9;rw[hm,f5]at h9;exact h9 (e4.out.2 hd))
  have e3:m<=12:=p4;have k8:0<m:=p3;replace d6:=Zd d6;replace hE:=Zd hE;replace hm:=Zd hm;clear p1 p2 p3 p4 p5 p6 p7 hX;go_wp2_with fail;refine(hN.out w6 h.out hw.out).mono ?_;rintro e w5 ⟨gn,rfl,u,h5⟩;replace h:=Zd (h.out.below u);replace hw:=Zd (hw.out.below u);replace q5:=Gm u q5;have l2:=Gn b8 u;clear b8 u h hw hN;replace h5:=Zd h5;obtain⟨U7,i8,c8,c6,j5⟩:=Zak 0 l2.out (Qc _) q5.out;have y0:=q5.out.cell 0;have z0:=q5.out.frozen 0;simp at y0;have x0:=c6.cell 0;simp at x0;have j6:=h5.out.code (x:=0) q5.out;rw[i8]at j6;obtain⟨j4,a0,a5,l4⟩:=j6.mxl l0.out
  have d3:=Zz8 a0 k8 e3 k8 e3 (λr hr=>by
   obtain⟨i9,n4,n7⟩:=Qt hr;have h9:=l4 i9 r (by rw[Qa n4,n7]);refine⟨?_,h9.2⟩;rw[h9.1];exact Zgc (by have:=a0.1;omega))
  have k7:Hid (sqE j4=0):=Zd (by unfold sqE;rw[d3.1,d3.2,a0.1];simp);replace a0:=Zd a0;replace a5:=Zd a5;replace c8:=Zd c8;replace c6:=Zd c6;clear j6 h5 l4 d3 j5;go_wp2_with fail;(try rw[i8]);clear i8 q5 l2 y0 z0;have q5:=c6;clear c6;refine(Zb4 0 U7).mono ?_;rintro e w6 ⟨rfl,rfl⟩;clear x0;obtain⟨o1,o2,o3,o4,o5,o6,o7⟩:=i2.out;have k6:(Zas m 0 0 (Z8 (Zbk (Zdc rs ws k m) m m 0)) false 1).2.1<=m:=by rw[o4];exact o5
  have f8:Hid ((Zas m 0 0 (Z8 (Zbk (Zdc rs ws k m) m m 0)) false 1).2.1<m->Zay m (Zew rs ws k)=0):=Zd (λh9=>o6 (by rw[<- o4];exact h9));have a9:Hid ((Zas m 0 0 (Z8 (Zbk (Zdc rs ws k m) m m 0)) false 1).2.1=m->Zay m (Zew rs ws k)≠0):=Zd (λh9=>(o7 (by rw[<- o4];exact h9)).1);have i5:=Zd (λW9 (h9:MXL W9 (some ⟨gn,0,none⟩) m m j4)=>Zon (some ⟨gn,0,none⟩) m m j4 W9 h9 k7.out e3 (by rw[a5.out];exact o1) (by rw[a5.out];exact o3) (by rw[a5.out];exact k6) X (λh8=>by rw[a5.out]at h8 ⊢;exact(j3.out (a9.out h8)).2));clear o1 o2 o3 o4 o5 o6 o7 k6 i2 l0 k7;go_wp2_with fail;refine(i5.out w6 a0.out).mono ?_;rintro e q1 hc;clear i5
  have u:Below w6.heap.size w6 q1:=by
   rcases hc with ⟨-,-,h9⟩|⟨-,gO,L,-,h9,-⟩;exact h9;exact h9
  have j9:Hid (w.heap.size<w6.heap.size):=Zd q5.out.lt;clear a0;replace q5:=Gm u q5;have f3:=Gn c8 u;clear c8 u;rcases hc with ⟨j2,rfl,-⟩|⟨h1,gO,L,rfl,-,l7,g6,l9,m3⟩
  case inl =>
   rw[a5.out]at j2;have c4:=Zd (e4.out.1 (f8.out j2));clear j2 a5;obtain⟨o8,m6,b4,a8,n0⟩:=Zak 18 f3.out (Qc _) q5.out;have y0:=q5.out.cell 0;have z0:=q5.out.frozen 0;simp at y0;have x0:=a8.cell 0;simp at x0;replace b4:=Zd b4;replace a8:=Zd a8;go_wp2_with fail;(try rw[m6]);refine(Zax 22 o8).mono ?_;rintro e w7 ⟨rfl,rfl⟩;go_wp2_with fail;refine leaves_cons (f:=39) (args:=#[.pointer (some ⟨w.heap.size,0,none⟩)]) Gh Gd ?_;have a3:=(a8.out).cell 0;simp at a3;refine(Za4 ⟨w.heap.size,0,none⟩ 22 18 _ a3 ((a8.out).frozen 0)).mono ?_;rintro e u' w'' ⟨rfl,rfl,T⟩;obtain⟨V,hV,d4,-,-,hk,sV⟩:=Zq 117 #[.int .i64 22] (b4.out) ((b4.out).size);obtain⟨U,hU,e2,q3,-,kq,-⟩:=Zak 22 d4 (Qc _) (hk _ _ _ (a8.out));rw[hV,hU]at T;subst T;have r4:=q3.cell 0;simp at r4;exact⟨.tuple #[.slice none 0 0,.int .i64 22],by simp[results,Tryz.results10,go_sem,r4],OfPost.fall e2 c4.out Gj⟩
  rw[a5.out]at h1;have c4:=Zd (e4.out.2 (a9.out h1));have n3:=Zd (j3.out (a9.out h1)).1;clear h1 a5 f8 a9 j3 e4;have k2:Hid (w.heap.size<gO/\∀ r ∈ L,w.heap.size<r.g):=Zd ⟨Ql j9.out l9,λr hr=>Ql j9.out (m3 r hr)⟩;have m4:Hid (L.length=m):=Zd (by have h9:=congrArg List.length g6;rw[Qk]at h9;rw[h9];unfold Zjz;simp);obtain⟨n2,i1,Y,c9,e6⟩:=Zak 0 f3.out (Qc _) q5.out;have y0:=q5.out.cell 0;have z0:=q5.out.frozen 0;simp at y0;have x0:=c9.cell 0;simp at x0;have o:=Zd (l7.stepN e6 (by have:=k2.out.1;omega) (λr hr=>by have:=k2.out.2 r hr;omega));replace Y:=Zd Y;replace c9:=Zd c9;clear e6 l7 l9 m3 j9;go_wp2_with fail;(try rw[i1]);clear i1 q5 f3 y0 z0;have q5:=c9;clear c9;refine(Zb4 22 n2).mono ?_;rintro e w6 ⟨rfl,rfl⟩;clear x0;go_wp2_with fail;refine(Zqp 1000000000000000000 w6 Gj Gj).mono ?_;rintro e k4 ⟨g7,sn,sA,sk,sc,sm,sB,sj,sd,rfl,sf⟩;replace q5:=Gm g7 q5;replace o:=Zd (o.out.below g7);have g4:=Gn Y g7;clear Y g7;replace sf:=Zd sf;have i3:=Zd o.out.lts;obtain⟨f6,b5⟩:=Gz k4.heap.size;obtain⟨p9,h6,g1,b6⟩:=Zaq (w:=k4) 73 #[.bool sn,.slice sA sk sc,.bool sm,.slice sB sj sd];rw[b5]at g1;replace q5:=Gm b6 q5;replace o:=Zd (o.out.below b6);replace sf:=Zd (sf.out.below b6);have i6:=Gn g4 b6;clear g4 b6;replace g1:=Zd g1;have n1:Hid (∀ r ∈ L,r.g<f6):=Zd (λr hr=>by have h9:=i3.out.2 r hr;have h8:=b5;omega);go_wp2_with fail;(try rw[b5]);(try rw[h6]);clear h6;replace b5:=Zd b5;replace sf:Hid (Fr p9 sn sA sk sc sm sB sj sd Zeb):=Zd sf.out
  have j7:Hid (∀ (j:Nat) (r:RF),L[j]?=some r->r.q.length=m):=Zd (λj r hr=>by
   have h9:(L.map RF.q)[j]?=some r.q:=by rw[Qe,hr];rfl
   rw[g6]at h9;unfold Zjz at h9;rw[Qe]at h9;obtain⟨x9,-,e9⟩:=Option.map_eq_some_iff.1 h9;rw[<- e9];simp)
  have d8:Hid (∀ j c,j<m->c<m->Zj (L.map RF.q) j c=X j (m+c)):=Zd (λj c hj hc=>by
   rw[g6];unfold Zjz Zj;rw[Qe,Qi hj,Qq,Qo,Qe,Qi Gk];rfl)
  replace g6:=Zd g6;clear i3
  go_loopg [38] m (λt iv wr=>∃ (i:Nat) (L2:List RF),i+t=m/\iv=.int .i64 i/\Hid (MatB 35 41 wr gO L2)/\Hid (ScT L L2 m i 0 Zeb)/\Hid (Blk wr f6 73 #[.bool sn,.slice sA sk sc,.bool sm,.slice sB sj sd])/\Hid (Fr wr sn sA sk sc sm sB sj sd Zeb)/\Hid (Blk wr w.heap.size 26 #[.int .i64 0])/\Hid (Below w.heap.size w wr))
  case atStart=>exact⟨0,L,by omega,rfl,o,Zd (ScT.start m4.out j7.out),g1,sf,q5,i6⟩
  case round =>
   clear o g1 sf q5 i6;obtain⟨wi,rfl⟩:=Gy wr;obtain⟨i,L2,r2,rfl,o,y,qs,sf,q5,a4⟩:=hrel;cases gk with
   | zero =>
    obtain rfl:i=m:=Gk;have t1:decide ((i:Int)<(i:Int))=false:=Gh
    have o9:Hid (L2.map RF.q=ofQ X i):=Zd (by
     rw[y.out.done];unfold ofQ;refine Qj λj hj=>Qj λc hc=>?_;rw[d8.out j c (List.mem_range.1 hj) (List.mem_range.1 hc)])
    have d7:=o.out.mfl y.out.1 (Qc i) (by unfold maxLen;omega);rw[o9.out]at d7;obtain⟨rt,a0,-,e8⟩:=d7.mxs;have m0:=hF.out rt (by rw[hm.out];exact e8);replace d7:=Zd d7;replace a0:=Zd a0;have l1:=Zd (Zx7 (some ⟨gO,0,none⟩) i i rt wi a0.out m0);clear m0 hF o qs sf;go_wp2_with fail;refine l1.out.mono ?_;rintro e w9 ⟨u,k0⟩;replace d7:=Zd (d7.out.below u);replace q5:=Gm u q5;have d9:=Gn a4 u;clear a4 u l1;rcases k0 with ⟨d0,rfl⟩|⟨d0,rfl⟩
    case inr =>
     replace d0:=Zd d0;go_wp2_with fail;refine leaves_cons (f:=39) (args:=#[.pointer (some ⟨w.heap.size,0,none⟩)]) Gh Gd ?_;have a3:=(q5.out).cell 0;simp at a3;refine(Za4 ⟨w.heap.size,0,none⟩ 16 0 _ a3 ((q5.out).frozen 0)).mono ?_;rintro e u' w'' ⟨rfl,rfl,T⟩;obtain⟨V,hV,d4,-,-,hk,sV⟩:=Zq 117 #[.int .i64 16] (d9.out) ((d9.out).size);obtain⟨U,hU,e2,q3,-,kq,-⟩:=Zak 16 d4 (Qc _) (hk _ _ _ (q5.out));rw[hV,hU]at T;subst T;have r4:=q3.cell 0;simp at r4;exact⟨.tuple #[.slice none 0 0,.int .i64 16],by simp[results,Tryz.results10,go_sem,r4],⟨e2,.inl ⟨c4.out,rt,by rw[hm.out];exact e8,.inr ⟨d0.out,rfl⟩⟩⟩⟩
    obtain⟨q4,e7,g9,f4,h2⟩:=Zak 0 d9.out (Qc _) q5.out;have y0:=q5.out.cell 0;have z0:=q5.out.frozen 0;simp at y0;have x0:=f4.cell 0;simp at x0;have i4:=Zd (d7.out.code (x:=0) q5.out);rw[e7]at i4;replace d0:=Zd d0;have r4:=f4.cell 0;simp at r4;clear h2;go_wp2_with fail;(try rw[e7]);refine leaves_cons (f:=39) (args:=#[.pointer (some ⟨w.heap.size,0,none⟩)]) Gh Gd ?_;refine(Zeu _ _).mono ?_;rintro e u' w'' ⟨rfl,rfl,rfl⟩;exact⟨.tuple #[.slice (some ⟨gO,0,none⟩) i i,.int .i64 0],by simp[results,Tryz.results10,go_sem,r4],g9,.inl ⟨c4.out,rt,by rw[hm.out];exact e8,.inl ⟨d0.out,_,_,by rw[hm.out],by rw[hm.out];exact i4.out⟩⟩⟩
   | succ t' =>
    obtain rfl:t'=m-(i+1):=Gk;have b3:i<m:=Gk;have t1:decide ((i:Int)<(m:Int))=true:=Gv Gk;have r9:decide (i<m)=true:=Gv b3;have bi:(i:Int)<(m:Int):=Gk;have q8:IntKind.i64.wrap ((i:Int)+1)=(i:Int)+1:=IntWalk.i64_in _ Gk;obtain⟨ri,f7⟩:=Zb5 (L:=L2) (i:=i) (by rw[y.out.1];exact b3);obtain⟨r0,h4⟩:=Zb5 (L:=L) (i:=i) (by rw[m4.out];exact b3);obtain⟨ci,zi⟩:=o.out.cell f7;rw[y.out.2.2.1 i ri f7]at ci;have kc:=(o.out.row f7).2;rw[y.out.2.2.1 i ri f7]at kc;have q7:=kc.1;have n6:=kc.2;unfold maxLen at n6;have m1:Hid (ri.g=r0.g):=Zd (Z1d y.out.2.1 f7 h4);have j1:Hid (w.heap.size<ri.g/\ri.g<f6):=Zd (by rw[m1.out];exact⟨k2.out.2 r0 (Qh h4),n1.out r0 (Qh h4)⟩);clear kc;go_wp2_with fail;clear ci zi
    go_loopg [44] m (λt kv wr=>∃ (k9:Nat) (L3:List RF),k9+t=m/\kv=.int .i64 k9/\Hid (MatB 35 41 wr gO L3)/\Hid (ScT L L3 m i k9 Zeb)/\Hid (Blk wr f6 73 #[.bool sn,.slice sA sk sc,.bool sm,.slice sB sj sd])/\Hid (Fr wr sn sA sk sc sm sB sj sd Zeb)/\Hid (Blk wr w.heap.size 26 #[.int .i64 0])/\Hid (Below w.heap.size w wr))
    case atStart=>exact⟨0,L2,by omega,rfl,o,y,qs,sf,q5,a4⟩
    case round =>
     clear o y qs sf q5 a4;obtain⟨wk,rfl⟩:=Gy wr;obtain⟨k9,L3,s2,rfl,o,y,qs,sf,q5,a4⟩:=hrel;cases gk with
     | zero =>
      obtain rfl:k9=m:=Gk;have t2:decide ((k9:Int)<(k9:Int))=false:=Gh;have p8:=Zd y.out.next;clear y;go_wp2_with fail
      go_roundg (k9-(i+1))
      case measure=>omega
      case rel=>exact⟨i+1,L3,by omega,by go_num,o,p8,qs,sf,q5,a4⟩
     | succ t'' =>
      obtain rfl:t''=m-(k9+1):=Gk;have b0:k9<m:=Gk;have t2:decide ((k9:Int)<(m:Int))=true:=Gv Gk;have r7:decide (k9<m)=true:=Gv b0;have bk:(k9:Int)<(m:Int):=Gk;have r8:IntKind.i64.wrap ((k9:Int)+1)=(k9:Int)+1:=IntWalk.i64_in _ Gk;obtain⟨r3,b9⟩:=Zb5 (L:=L3) (i:=i) (by rw[y.out.1];exact b3);have b7:r3.g=ri.g:=(Z1d y.out.2.1 b9 h4).trans m1.out.symm;have f0:=y.out.2.2.1 i r3 b9;obtain⟨fn,fA,fk,fc,fm,fB,fj,fd,p0,p1,p2,p3,a2⟩:=(o.out.row b9).1.at_ (i:=k9) (by rw[f0];exact b0);rw[b7]at p0 p1 p2 p3
      have g0:r3.q[k9]?.getD 0=X i (m+k9):=by
       have h9:=y.out.2.2.2 i k9 b3 b0;rw[Gw Gk,Zks,Zgk b9]at h9;rw[h9];exact d8.out i k9 b3 b0
      rw[g0]at a2;have q0:Hid (Sm (X i (m+k9))):=Zd (ofX_sm e3 n3.out b3 b0);replace a2:=Zd a2;replace g0:=Zd g0;replace b7:=Zd b7;replace f0:=Zd f0;obtain⟨q6,b1⟩:=Gz wk.heap.size;obtain⟨i0,g2,O,J⟩:=Zaq (w:=wk) 41 #[.bool fn,.slice fA fk fc,.bool fm,.slice fB fj fd];rw[b1]at O;replace o:=Zd (o.out.below J);replace qs:=Gm J qs;replace sf:=Zd (sf.out.below J);replace q5:=Gm J q5;replace a2:=Zd (a2.out.below J);have e1:=Gn a4 J;clear a4 J;replace O:=Zd O;obtain⟨x0,x1,x2,x3,-⟩:=O.out.four;obtain⟨υ0,υ1,υ2,υ3,-⟩:=qs.out.four;obtain⟨l3,b2⟩:=Gz i0.heap.size;obtain⟨m8,g5,a1,I⟩:=Zaq (w:=i0) 73 #[.bool sn,.slice sA sk sc,.bool sm,.slice sB sj sd];rw[b2]at a1;replace o:=Zd (o.out.below I);replace qs:=Gm I qs;replace sf:=Zd (sf.out.below I);replace q5:=Gm I q5;replace a2:=Zd (a2.out.below I);replace O:=Gm I O;have d5:=Gn e1 I;clear e1 I;replace a1:=Zd a1;go_wp2_with fail;(try rw[b1]);(try rw[g2]);(try rw[b2]);(try rw[g5]);clear g2;replace b1:=Zd b1;clear g5;replace b2:=Zd b2;clear p0 p1 p2 p3 x0 x1 x2 x3 υ0 υ1 υ2 υ3;have g8:=Zd (FL.sing1 a1.out sf.out);refine(Zcs fn fA fk fc fm fB fj fd _ (some ⟨l3,0,none⟩) 1 1 [Zeb] m8 a2.out g8.out Gj (Zes q0.out) (Zfm ofS_sm)).mono ?_;rintro e c5 ⟨a6,pn,pA,pk,pc,pm,pB,pj,pd,rfl,pf⟩;replace o:=Zd (o.out.below a6);replace qs:=Gm a6 qs;replace sf:=Zd (sf.out.below a6);replace q5:=Gm a6 q5;replace a2:=Zd (a2.out.below a6);replace O:=Gm a6 O;replace a1:=Gm a6 a1;replace g8:=Zd (g8.out.below a6);have e5:=Gn d5 a6;clear d5 a6;rw[Zh4]at pf;clear g8 a1 O a2
      obtain⟨l5,m2,m7,k5⟩:(c5.cell? ⟨ri.g,k9*4,none⟩).isSome/\(c5.cell? ⟨ri.g,k9*4+1,none⟩).isSome/\(c5.cell? ⟨ri.g,k9*4+2,none⟩).isSome/\(c5.cell? ⟨ri.g,k9*4+3,none⟩).isSome:=by
       obtain⟨_,_,_,_,_,_,_,_,c0,c1,c2,c3,-⟩:=(o.out.row b9).1.at_ (i:=k9) (by rw[f0.out];exact b0);rw[b7.out]at c0 c1 c2 c3;rw[c0,c1,c2,c3];exact⟨rfl,rfl,rfl,rfl⟩
      obtain⟨v0,c0⟩:=Option.isSome_iff_exists.1 l5;obtain⟨v1,c1⟩:=Option.isSome_iff_exists.1 m2;obtain⟨v2,c2⟩:=Option.isSome_iff_exists.1 m7;obtain⟨v3,c3⟩:=Option.isSome_iff_exists.1 k5;have a7:=(o.out.row b9).1;have z0:=a7.frozen (k9*4);have z1:=a7.frozen (k9*4+1);have z2:=a7.frozen (k9*4+2);have z3:=a7.frozen (k9*4+3);rw[b7.out]at z0 z1 z2 z3;obtain⟨bt,bcs,k3,l8⟩:=a7.box;have h0:=o.out.set_ b9 (k:=k9) (by rw[f0.out];exact b0) pf;obtain⟨U,hU⟩:=Gz (Zgg c5 ri.g k9 pn pA pk pc pm pB pj pd);rw[b7.out]at h0 k3;rw[<- b7.out]at h0
      have f9:MatB 35 41 U gO (L3.set i ⟨r3.g,r3.c,r3.q.set k9 (X i (m+k9)*Zeb)⟩):=by
       rw[<- hU,<- b7.out];exact h0
      have m9:=Zd (y.out.step b9 b3 b0 (x:=X i (m+k9)*Zeb) (by rw[d8.out i k9 b3 b0]));have j0:Blk U f6 73 #[.bool sn,.slice sA sk sc,.bool sm,.slice sB sj sd]:=by rw[<- hU];exact Zj9 qs.out (by have:=j1.out;omega)
      have i7:Blk U w.heap.size 26 #[.int .i64 0]:=by rw[<- hU];exact Zj9 q5.out (by have:=j1.out;omega)
      have k1:Fr U sn sA sk sc sm sB sj sd Zeb:=by rw[<- hU];exact Zin sf.out k3 l8
      have j8:Below w.heap.size w U:=by rw[<- hU];exact Zjj e5.out (by have:=j1.out;omega)
      unfold Zgg at hU;replace f9:=Zd f9;replace j0:=Zd j0;replace i7:=Zd i7;replace k1:=Zd k1;replace j8:=Zd j8;clear o y qs q5 sf a7 k3 l8 h0 l5 m2 m7 k5 e5 pf;have q9:=Zuy pn pA pk pc pm pB pj pd;go_wp2_with fail;(try rw[hU])
      go_roundg (m-(k9+1))
      case measure=>omega
      case rel=>exact⟨k9+1,_,by omega,by go_num,f9,m9,j0,k1,i7,j8⟩
theorem Ed{G:Prop}(h:G:=by
 refine⟨?_,_,_,_,_,_,_,_,_,rfl,hr.out⟩;have cn:=bQ.trans ((Gs ab av.out).mono bQ.size);exact cn.trans (aK.to_below (λk e=>by omega) cn.size)):G:=h
theorem Zl1(xn:Bool)(xA:Option Addr)(xk xc:Nat)(xm:Bool)(xB:Option Addr)(xj xd:Nat)(yn:Bool)(yA:Option Addr)(yk yc:Nat)(ym:Bool)(yB:Option Addr)(yj yd:Nat)(a b:Rat)(w:World)(ha:Fr w xn xA xk xc xm xB xj xd a)(hb:Fr w yn yA yk yc ym yB yj yd b)(sa:Sm a)(sb:Sm b) :
    Calls Tryz.prog 96 #[.agg #[.bool xn,.slice xA xk xc,.bool xm,.slice xB xj xd],.agg #[.bool yn,.slice yA yk yc,.bool ym,.slice yB yj yd]] w (Zdp w (a-b)):=by
 obtain⟨W0,J,h,⟨q0,q1,q2⟩,s0⟩:=Zb2 w 41 #[.bool xn,.slice xA xk xc,.bool xm,.slice xB xj xd] 41 #[.bool yn,.slice yA yk yc,.bool ym,.slice yB yj yd] 41 #[.bool false,.slice none 0 0,.bool false,.slice none 0 0];obtain⟨a0,a1,a2,a3,-⟩:=q0.four;obtain⟨b0,b1,b2,b3,-⟩:=q1.four;obtain⟨gR,y⟩:=Gz (w.heap.size+1+1);rw[y]at q2;have hA:=ha.below h;have hD:=hb.below h;go_in;go_wp2_with fail;(try rw[J]);refine(Zyc xn xm yn ym xA xB yA yB xk xc xj xd yk yc yj yd a b W0 hA hD sa sb).mono ?_;rintro e w1 ⟨ab,pn,pA,pk,pc,pm,pB,pj,pd,rfl,hf⟩;replace q2:=Ze ab q2;clear a0 a1 a2 a3 b0 b1 b2 b3 q0 q1 hA hD;obtain⟨V1,V,o,t0,tz⟩:=Zao w1 41 #[.bool false,.slice none 0 0,.bool false,.slice none 0 0];have Y:=Ze o q2;obtain⟨gn,u⟩:=Gz w1.heap.size
 have U:gR<gn:=by
  have h1:=ab.size;omega
 rw[u]at t0;obtain⟨υ0,υ1,υ2,υ3,v0,v1,v2,v3⟩:=t0.four;obtain⟨V2,T,p2,I,s2⟩:=Za2 pn pA pk pc pm pB pj pd t0;have av:Below w1.heap.size w1 V2:=o.trans (I.to_below (λk e=>by omega) o.size);have f:=Ze av q2;have C:=hf.below av;obtain⟨o0,o1,o2,o3,-⟩:=p2.four;obtain⟨c0,c1,c2,c3,z0,z1,z2,z3⟩:=f.four;obtain⟨W5,O,q5,aK,s5⟩:=Za2 pn pA pk pc pm pB pj pd f;have hr:=C.keptN aK f (Zbf _ _ _ _ _ _ _ _);have bQ:=h;replace av:=Zd av;replace hr:=Zd hr;clear hf C;go_wp2_with fail;(try rw[u]);(try rw[T]);(try rw[y]);go_wp2_with fail;(try rw[O]);obtain⟨r0,r1,r2,r3,-⟩:=q5.four;refine bodyPost_ret (v:=.agg #[.bool pn,.slice pA pk pc,.bool pm,.slice pB pj pd]) (by simp[results,Tryz.results96,go_sem,r0,r1,r2,r3]) rfl ?_;exact Ed
theorem Zlw(xn:Bool)(xA:Option Addr)(xk xc:Nat)(xm:Bool)(xB:Option Addr)(xj xd:Nat)(yn:Bool)(yA:Option Addr)(yk yc:Nat)(ym:Bool)(yB:Option Addr)(yj yd:Nat)(a b:Rat)(w:World)(ha:Fr w xn xA xk xc xm xB xj xd a)(hb:Fr w yn yA yk yc ym yB yj yd b)(sa:Sm a)(sb:Sm b) :
    Calls Tryz.prog 49 #[.agg #[.bool xn,.slice xA xk xc,.bool xm,.slice xB xj xd],.agg #[.bool yn,.slice yA yk yc,.bool ym,.slice yB yj yd]] w (Zdp w (a*b)):=by
 obtain⟨W0,J,h,⟨q0,q1,q2⟩,s0⟩:=Zb2 w 41 #[.bool xn,.slice xA xk xc,.bool xm,.slice xB xj xd] 41 #[.bool yn,.slice yA yk yc,.bool ym,.slice yB yj yd] 41 #[.bool false,.slice none 0 0,.bool false,.slice none 0 0];obtain⟨a0,a1,a2,a3,-⟩:=q0.four;obtain⟨b0,b1,b2,b3,-⟩:=q1.four;obtain⟨gR,y⟩:=Gz (w.heap.size+1+1);rw[y]at q2;have hA:=ha.below h;have hD:=hb.below h;go_in;go_wp2_with fail;(try rw[J]);refine(Zox xn xm yn ym xA xB yA yB xk xc xj xd yk yc yj yd a b W0 hA hD sa sb).mono ?_;rintro e w1 ⟨ab,pn,pA,pk,pc,pm,pB,pj,pd,rfl,hf⟩;replace q2:=Ze ab q2;clear a0 a1 a2 a3 b0 b1 b2 b3 q0 q1 hA hD;obtain⟨V1,V,o,t0,tz⟩:=Zao w1 41 #[.bool false,.slice none 0 0,.bool false,.slice none 0 0];have Y:=Ze o q2;obtain⟨gn,u⟩:=Gz w1.heap.size
 have U:gR<gn:=by
  have h1:=ab.size;omega
 rw[u]at t0;obtain⟨υ0,υ1,υ2,υ3,v0,v1,v2,v3⟩:=t0.four;obtain⟨V2,T,p2,I,s2⟩:=Za2 pn pA pk pc pm pB pj pd t0;have av:Below w1.heap.size w1 V2:=o.trans (I.to_below (λk e=>by omega) o.size);have f:=Ze av q2;have C:=hf.below av;obtain⟨o0,o1,o2,o3,-⟩:=p2.four;obtain⟨c0,c1,c2,c3,z0,z1,z2,z3⟩:=f.four;obtain⟨W5,O,q5,aK,s5⟩:=Za2 pn pA pk pc pm pB pj pd f;have hr:=C.keptN aK f (Zbf _ _ _ _ _ _ _ _);have bQ:=h;replace av:=Zd av;replace hr:=Zd hr;clear hf C;go_wp2_with fail;(try rw[u]);(try rw[T]);(try rw[y]);go_wp2_with fail;(try rw[O]);obtain⟨r0,r1,r2,r3,-⟩:=q5.four;refine bodyPost_ret (v:=.agg #[.bool pn,.slice pA pk pc,.bool pm,.slice pB pj pd]) (by simp[results,Tryz.results49,go_sem,r0,r1,r2,r3]) rfl ?_;exact Ed
theorem Zmn(xn:Bool)(xA:Option Addr)(xk xc:Nat)(xm:Bool)(xB:Option Addr)(xj xd:Nat)(yn:Bool)(yA:Option Addr)(yk yc:Nat)(ym:Bool)(yB:Option Addr)(yj yd:Nat)(a b:Rat)(w:World)(ha:Fr w xn xA xk xc xm xB xj xd a)(hb:Fr w yn yA yk yc ym yB yj yd b)(sa:Sm a)(sb:Sm b)(h0:b≠0) :
    Calls Tryz.prog 95 #[.agg #[.bool xn,.slice xA xk xc,.bool xm,.slice xB xj xd],.agg #[.bool yn,.slice yA yk yc,.bool ym,.slice yB yj yd]] w (Zdp w (a/b)):=by
 obtain⟨W0,J,h,⟨q0,q1,q2⟩,s0⟩:=Zb2 w 41 #[.bool xn,.slice xA xk xc,.bool xm,.slice xB xj xd] 41 #[.bool yn,.slice yA yk yc,.bool ym,.slice yB yj yd] 41 #[.bool false,.slice none 0 0,.bool false,.slice none 0 0];obtain⟨a0,a1,a2,a3,-⟩:=q0.four;obtain⟨b0,b1,b2,b3,-⟩:=q1.four;obtain⟨gR,y⟩:=Gz (w.heap.size+1+1);rw[y]at q2;have hA:=ha.below h;have hD:=hb.below h;go_in;go_wp2_with fail;(try rw[J]);refine(Z05 xn xm yn ym xA xB yA yB xk xc xj xd yk yc yj yd a b W0 hA hD sa sb h0).mono ?_;rintro e w1 ⟨ab,pn,pA,pk,pc,pm,pB,pj,pd,rfl,hf⟩;replace q2:=Ze ab q2;clear a0 a1 a2 a3 b0 b1 b2 b3 q0 q1 hA hD;obtain⟨V1,V,o,t0,tz⟩:=Zao w1 41 #[.bool false,.slice none 0 0,.bool false,.slice none 0 0];have Y:=Ze o q2;obtain⟨gn,u⟩:=Gz w1.heap.size
 have U:gR<gn:=by
  have h1:=ab.size;omega
 rw[u]at t0;obtain⟨υ0,υ1,υ2,υ3,v0,v1,v2,v3⟩:=t0.four;obtain⟨V2,T,p2,I,s2⟩:=Za2 pn pA pk pc pm pB pj pd t0;have av:Below w1.heap.size w1 V2:=o.trans (I.to_below (λk e=>by omega) o.size);have f:=Ze av q2;have C:=hf.below av;obtain⟨o0,o1,o2,o3,-⟩:=p2.four;obtain⟨c0,c1,c2,c3,z0,z1,z2,z3⟩:=f.four;obtain⟨W5,O,q5,aK,s5⟩:=Za2 pn pA pk pc pm pB pj pd f;have hr:=C.keptN aK f (Zbf _ _ _ _ _ _ _ _);have bQ:=h;replace av:=Zd av;replace hr:=Zd hr;clear hf C;go_wp2_with fail;(try rw[u]);(try rw[T]);(try rw[y]);go_wp2_with fail;(try rw[O]);obtain⟨r0,r1,r2,r3,-⟩:=q5.four;refine bodyPost_ret (v:=.agg #[.bool pn,.slice pA pk pc,.bool pm,.slice pB pj pd]) (by simp[results,Tryz.results95,go_sem,r0,r1,r2,r3]) rfl ?_;exact Ed
theorem Zos(A:Option Addr)(n c:Nat)(es:List FX)(w:World)(h:FXL w A n c es)(b:Bool)(hb:Zc2 es=b) :
    Calls Tryz.prog 56 #[.slice A n c] w λe w'=>e=.returned (.bool b)/\Below w.heap.size w w':=by
 have hl:=h.1;have a9:=h.2.1;have Y:=h.2.2.1;unfold maxLen at Y;replace hl:=Zd hl;replace hb:=Zd hb;replace h:=Zd h;go_in;go_wp2_with fail
 go_loopw [3] (λiv wr=>∃ i:Nat,i<=n/\iv=.int .i64 i/\Hid (∀ j e,j<i->es[j]?=some e->e.fine64=true)/\Below w.heap.size w wr) (λiv _=>n-(intOf iv).toNat)
 case atStart=>exact⟨0,Qm _,rfl,Zd (λj e hj=>by omega),Qw _ _⟩
 case round =>
  obtain⟨i,a8,rfl,aw,u⟩:=hrel;by_cases hin:i<n
  case neg =>
   obtain rfl:n=i:=Gk;have a0:decide ((n:Int)<(n:Int))=false:=Gh
   obtain rfl:b=true:=by
    rw[<- hb.out];unfold Zc2;exact EZ
   go_wp2_with fail;go_ret;exact⟨rfl,u⟩
  have a0:decide ((i:Int)<(n:Int))=true:=Gv Gk;obtain⟨g,o,e,rfl,he,hc,I,C⟩:=(h.out.below u).at_ hin;obtain⟨c0,c1,c2,c3⟩:=hc;have a5:=I.2.1;have V:=I.2.2.1;have a4:=C.2.1;have y:=C.2.2.1;have J:=Qd a5 V;have O:=Qd a4 y;unfold maxLen at V y
  have bad:e.fine64=false->b=false:=λhf=>by
   rw[<- hb.out];unfold Zc2;rw[List.all_eq_false];exact⟨e,Qh he,by rw[hf];decide⟩
  replace bad:=Zd bad;have hF:=Zd (λW1=>Zp1 e.na e.nb e.A e.B e.n e.c e.m e.d W1 J O);obtain⟨x,hx⟩:=Gz e.ok;have hC:=Zd (λW1 (hb:Below wr.heap.size wr W1)=>Zsn e.na e.nb e.A e.B e.n e.c e.m e.d e.la e.lb W1 (I.below hb) (C.below hb) x hx);obtain⟨k,hk⟩:=Gz (max e.n e.m);have a7:k<=9223372036854775807:=by unfold maxLen at J O;omega
  rw[hk]at hF;replace hk:=Zd hk;clear I C J O;by_cases h1:64<k
  ·have t1:decide ((64:Int)<(k:Int))=true:=Gv Gk
   obtain rfl:b=false:=bad.out (by unfold FX.fine64 FX.few;rw[hk.out,Gu Gk];rfl);replace he:=Zd he;replace hx:=Zd hx;clear hC;go_wp2_with fail;refine(hF.out _).mono ?_;rintro e' w1 ⟨rfl,y⟩;go_wp2_with fail;go_ret;exact⟨rfl,(by first|exact Gs u y|exact(Zh u _).trans (y.mono u.size))⟩
  have t1:decide ((64:Int)<(k:Int))=false:=Gu Gk;cases x
  ·obtain rfl:b=false:=bad.out (by unfold FX.fine64;rw[hx];simp)
   replace he:=Zd he;clear hx;go_wp2_with fail;refine(hF.out _).mono ?_;rintro e' w1 ⟨rfl,f⟩;have a1:=Zc f c0;have a2:=Zc f c1;have a3:=Zc f c2;have a6:=Zc f c3;go_wp2_with fail;refine(hC.out _ (by first|exact f|exact Zh f _)).mono ?_;rintro e' w2 ⟨rfl,T⟩;simp only[Zfq,Bool.false_eq_true,if_false];go_wp2_with fail;go_ret;exact⟨rfl,u.trans ((Gs f T).mono u.size)⟩
  have U:Hid (∀ j e,j<i+1->es[j]?=some e->e.fine64=true):=Zd (λj e' hj he'=>by
    rcases Nat.lt_or_ge j i with h'|h';exact aw.out j e' h' he';obtain rfl:j=i:=Gk;rw[he]at he';cases he';unfold FX.fine64 FX.few;rw[hx,hk.out,Gv Gk];rfl)
  replace he:=Zd he;clear hx;go_wp2_with fail;refine(hF.out _).mono ?_;rintro e' w1 ⟨rfl,f⟩;have a1:=Zc f c0;have a2:=Zc f c1;have a3:=Zc f c2;have a6:=Zc f c3;go_wp2_with fail;refine(hC.out _ (by first|exact f|exact Zh f _)).mono ?_;rintro e' w2 ⟨rfl,T⟩;simp only[Zfq,if_true];go_wp2_with fail
  go_roundw
  case rel=>exact⟨i+1,by omega,by go_num,U,u.trans ((Gs f T).mono u.size)⟩
  case measure=>simp[intOf];omega
