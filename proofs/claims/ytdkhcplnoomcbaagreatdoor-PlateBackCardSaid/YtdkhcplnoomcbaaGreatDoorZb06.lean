/- The reference of layer 1: digit. The reference of layer 1: -/
import Derived.Deep.CutBlock
import Derived.Deep.DeepCutAuto
import Derived.BigQuiet
import Derived.Deep.QuietTactic
import Derived.Test.YtdkhcplnoomcbaaGreatDoorZb05
set_option maxRecDepth 100000
set_option maxHeartbeats 4000000
set_option linter.unusedSimpArgs false
set_option linter.unusedVariables false
namespace Go.Proofs.YtdkhcplnoomcbaaGreatDoor
open Go.RowKit
open Nat renaming le_refl→Qa,eq_zero_or_pos→Qb,lt_of_le_of_lt→Qe,mul_assoc→Qf,zero_add→Qg,mul_zero→Qh,mod_lt→Qi,div_lt_iff_lt_mul→Qk,and_two_pow_sub_one_eq_mod→Ql,mul_le_mul_left→Qm,mul_add→Qn,mul_lt_mul_of_pos_left→Qo,mul_comm→Qp,div_le_self→Qs,mul_one→Qt,pow_pos→Qu,add_zero→Qw,lt_or_ge→Qx,lt_trans→Qy,lt_trichotomy→Qz,mod_eq_of_lt→QA
open World renaming cell?_setCell_other→Qc,cell?_of_block→Qv
open List renaming length_set→Qd,length_take→QB
open Below renaming refl→Qj
open Int renaming fdiv→Qq,fmod→Qr
attribute [local go_sem] Zf
theorem Zmn{l l0 v:List Nat}{i c s c':Nat}(hi:i<l.length)(hI:val (l.take i)+pw i*c=val (l0.take i)+val (v.take i))(he:s+4294967296*c'=c+l0[i]?.getD 0+v[i]?.getD 0) :
    val ((l.set i s).take (i+1))+pw (i+1)*c'=val (l0.take (i+1))+val (v.take (i+1)):=by
 rw[Z3,Z3 v,Z3 l0,List.take_set_of_le (Qa i),List.getElem?_set_self hi,Zbh];simp only[Option.getD_some];have e:pw i*s+pw i*(4294967296*c')=pw i*c+pw i*l0[i]?.getD 0+pw i*v[i]?.getD 0:=by rw[<- Qn,<- Qn,<- Qn,he]
 have e2:4294967296*pw i*c'=pw i*(4294967296*c'):=by rw[Qp 4294967296,Qf]
 rw[e2];omega
theorem Zgv{q v:Nat}(h:0<q):(q-1)*v+v=q*v:=by
 obtain⟨k,rfl⟩:∃ k,q=k+1:=⟨q-1,by omega⟩;rw[Nat.add_sub_cancel,Nat.succ_mul]
theorem Zth{q v1 v2 r u2 top:Nat}(h1:q*v1+r=top)(h2:r*4294967296+u2<q*v2):top*4294967296+u2<q*(v1*4294967296+v2):=by
 have e:q*(v1*4294967296+v2)=q*v1*4294967296+q*v2:=by rw[Qn,Qf]
 rw[e,<- h1,Nat.add_mul,Nat.add_assoc];exact Nat.add_lt_add_left h2 _
def WinF(w:World)(g off n:Nat)(w':World):Prop:=
 w.grownBy w' (some g)/\(∀ j,(j<off \/ off+n<=j)->w'.cell? ⟨g,j,none⟩=w.cell? ⟨g,j,none⟩)/\(∀ j,w'.frozen? ⟨g,j,none⟩=w.frozen? ⟨g,j,none⟩)
theorem WinF.refl(w:World)(g off n:Nat):WinF w g off n w:=⟨World.grownBy.refl w _,λ_ _=>rfl,λ_=>rfl⟩
theorem WinF.set_{w w':World}{g off n i:Nat}(h:WinF w g off n w')(hi:i<n)(u:Value):WinF w g off n (w'.setCell ⟨g,off+i,none⟩ u):=
 ⟨Zgx h.1,λj hj=>(Qc _ _ _ _ Gf).trans (h.2.1 j hj),λj=>(World.frozen?_setCell _ _ _ _).trans (h.2.2 j)⟩
theorem WinF.drewN{w w':World}{g off n:Nat}(h:WinF w g off n w')(k:Nat):WinF w g off n (w'.drewN k):=⟨⟨h.1.os,h.1.tape,h.1.output,h.1.size,h.1.block⟩,h.2.1,h.2.2⟩
theorem Zrn{w w':World}{g k:Nat}{u l:List Nat}(h:MutL w g 0 u)(hk:k+l.length<=u.length)(hf:WinF w g k l.length w')(hl:MutL w' g k l):MutL w' g 0 (splice u k l):=λj hj=>by
 rw[Zd9 hk]at hj;rw[Qg];by_cases hin:k<=j/\j<k+l.length
 ·obtain⟨i,rfl⟩:∃ i,j=k+i:=⟨j-k,by omega⟩
  rw[Zml hk Gk];exact hl i Gk
 rw[Zlm hk Gk];have:=h j hj;rw[Qg]at this;exact⟨(hf.2.1 j Gk).trans this.1,(hf.2.2 j).trans this.2⟩
def Zv2(w:World)(g off:Nat)(u v:List Nat)(e:Ending)(w':World):Prop:=
 ∃ l,e=.returned (limb (val u/val v))/\l.length=u.length/\Lt32 l/\val l=val u%val v/\MutL w' g off l/\WinF w g off u.length w'
def DSub(w:World)(g off n q:Nat)(u v:List Nat)(i cy b:Nat)(wr:World):Prop:=
 ∃ l,MutL wr g off l/\l.length=n+1/\Lt32 l/\(∀ j,i<=j->l[j]?.getD 0=u[j]?.getD 0)/\val (l.take i)+q*val (v.take i)=val (u.take i)+pw i*(cy+b)/\WinF w g off (n+1) wr
def DAdd(w:World)(g off n:Nat)(l0 v:List Nat)(i c:Nat)(wr:World):Prop:=
 ∃ l,MutL wr g off l/\l.length=n+1/\Lt32 l/\(∀ j,i<=j->l[j]?.getD 0=l0[j]?.getD 0)/\val (l.take i)+pw i*c=val (l0.take i)+val (v.take i)/\WinF w g off (n+1) wr
theorem FG{G:Prop}(h:G:=by
 go_wp2_with fail
 go_quiet (fail)
 go_wp2_with fail
 go_meet
 exact⟨q,rfl,fC,by omega,_,(by first|rfl|exact World.drewN_drewN _ _ _)⟩):G:=h
theorem Cs{G:Prop}(h:G:=by
 go_wp2_with fail
 go_quiet (fail)
 go_wp2_with fail;exact fL.out _ _ ((by first|rfl|exact World.drewN_drewN _ _ _))):G:=h
theorem Eu{G:Prop}(h:G:=by
 have ii:0<q:=Gk
 have je:r+v1<18446744073709551616:=by
  have h1:=eP.out;have h2:(q-1)*v1+v1=q*v1:=Zgv ii;omega
 have ek:Hid ((q-1)*v1+(r+v1)=top):=by
  have h1:=eP.out;have h2:(q-1)*v1+v1=q*v1:=Zgv ii;unfold Hid;omega
 have jh:IntKind.u64.wrap ((r:Int)+(v1:Int))=((r+v1:Nat):Int):=by rw[IntKind.wrap_u64];omega
 obtain⟨r1,fG⟩:=Gz (r+v1);rw[fG]at jh je ek;replace fG:=Zb fG;have eB:((q:Int)-1)=((q-1:Nat):Int):=Gk;replace eB:=Zb eB;by_cases hbrk:4294967296<=r1/\q-1<4294967296
 ·obtain⟨k1,k2⟩:=hbrk
  have d7:decide (4294967296<=r1)=true:=by simpa using k1
  have d8:decide ((4294967296:Int)<=(r1:Int))=true:=by simp;omega
  have d9:decide ((q:Int)-1<4294967296)=true:=by simp;omega
  go_wp2_with fail
  go_quiet (fail)
  go_wp2_with fail
  go_meet
  exact⟨q-1,by rw[eB.out],by omega,k2,_,(by first|rfl|exact World.drewN_drewN _ _ _)⟩
 have fL:Hid (∀ (k:Nat) (wx:World),wx=w.drewN k->((∃ q_1 r_1:Nat,Value.int IntKind.u64 ((q:Int)-1)=Value.int IntKind.u64 (q_1:Int)/\Value.int IntKind.u64 (r1:Int)=Value.int IntKind.u64 (r_1:Int)/\Q<=q_1/\q_1<8589934592/\Hid (q_1*v1+r_1=top)/\∃ m,wx=w.drewN m)/\(intOf (Value.int IntKind.u64 ((q:Int)-1))).toNat<(intOf (Value.int IntKind.u64 (q:Int))).toNat)):=
   λk wx hk=>⟨⟨q-1,r1,by rw[eB.out],rfl,by omega,by omega,ek,k,hk⟩,by simp[intOf];omega⟩
 by_cases k1:4294967296<=r1
 ·have k2:¬ q-1<4294967296:=λh=>hbrk ⟨k1,h⟩
  have d7:decide (4294967296<=r1)=true:=by simpa using k1
  have d8:decide ((4294967296:Int)<=(r1:Int))=true:=by simp;omega
  have d9:decide ((q:Int)-1<4294967296)=false:=by simp;omega
  exact Cs
 have d7:decide (4294967296<=r1)=false:=by simpa using k1
 have d8:decide ((4294967296:Int)<=(r1:Int))=false:=by simp;omega
 exact Cs):G:=h
theorem Ztv(g off n c d:Nat)(bv ov:Nat)(u v:List Nat)(w:World)(hu:MutL w g off u)(a4:u.length=n+1)(hut:Lt32 u)(hnc:n+1<=c)(hcm:c<=maxLen)(hn9:n<=1000000)(hn0:2<=n)
    (hv:Lim w (some ⟨bv,ov,none⟩) n d v) (hne:bv≠g) (hlt:val u<4294967296*val v) (htop:2147483648<=v[n-1]?.getD 0) :
    Calls Tryz.prog 131 #[.slice (some ⟨g,off,none⟩) (n+1) c,.slice (some ⟨bv,ov,none⟩) n d] w (Zv2 w g off u v):=by
 unfold maxLen at hcm;have h9:=hv.2.1;have f5:=hv.2.2.1;unfold maxLen at f5;have a3:=hv.len
 have hV:0<val v:=by
  rcases Qb (val v)with h0|h0;rw[h0]at hlt;omega;exact h0
 have e5:=top2_le a3 Gk;have c5:=top3_lt a4 Gk hut;have i1:=hv.cell (k:=n-1) Gk;have g5:=hv.cell (k:=n-2) Gk;have h6:=(hu n Gk).1;have h4:=(hu (n-1) Gk).1;have g7:=(hu (n-2) Gk).1;have g2:=hv.lt.get (n-1);have g9:=hv.lt.get (n-2);have g6:=hut.get n;have h7:=hut.get (n-1);have g0:=hut.get (n-2);have e7:=Zn3 a3 Gk;have c4:=Zsf a4 Gk hut;generalize e9:v[n-1]?.getD 0=v1 at *;generalize c7:v[n-2]?.getD 0=v2 at *;generalize e6:u[n]?.getD 0=u0 at *;generalize c8:u[n-1]?.getD 0=u1 at *;generalize d0:u[n-2]?.getD 0=u2 at *;obtain⟨Q,hQ⟩:=Gz (val u/val v);have f8:Q<4294967296:=by rw[<- hQ,Qk hV];exact hlt
 obtain⟨top,a1⟩:=Gz (u0*4294967296+u1);rw[a1]at c5 c4;have c0:top<18446744073709551616:=Gk;have a0:Q<=top/v1:=by rw[<- hQ];exact Zna Gk e7 c4
 have c6:top/v1<8589934592:=by rw[Qk Gk];omega
 have b1:top/v1*v1+top%v1=top:=by rw[Qp];exact Nat.div_add_mod _ _
 have a2:∀ q r,q*v1+r=top->r*4294967296+u2<q*v2->Q<q:=λq r h1 h2=>by
  rw[<- hQ];exact Znr e5 c5 (Zth h1 h2)
 replace a2:=Zb a2;replace b1:=Zb b1;replace a1:=Zb a1;replace hQ:=Zb hQ;replace a4:=Zb a4;replace a3:=Zb a3;replace e9:=Zb e9;replace c7:=Zb c7;replace e6:=Zb e6;replace c8:=Zb c8;replace d0:=Zb d0;clear e5 c5 e7 c4;go_in;go_wp2_with fail
 go_quiet (fail)
 go_wp2_with fail
 go_quiet (fail)
 go_upto_block 0 with fail
 have ecast:((u0:Int)*4294967296+(u1:Int))=(top:Int):=by have:=a1.out;omega
 rw[ecast,show (top:Int)/(v1:Int)=((top/v1:Nat):Int) from rfl,show (top:Int)%(v1:Int)=((top%v1:Nat):Int) from rfl];replace ecast:=Zb ecast;generalize top/v1=q0 at *;generalize top%v1=r0 at *;have h5:WinF w g off (n+1) (w.drewN 0):=WinF.refl _ _ _ _
 go_cut [7,8] (λqv _ wx=>∃ q:Nat,qv=.int .u64 q/\Q<=q/\q<4294967296/\∃ m,wx=w.drewN m)
 case first =>
  go_wp2_with fail
  go_loopw [7,8] (λqv rv wr=>∃ q r:Nat,qv=.int .u64 q/\rv=.int .u64 r/\Q<=q/\q<8589934592/\Hid (q*v1+r=top)/\∃ m,wr=w.drewN m) (λqv _ _=>(intOf qv).toNat)
  case atStart=>exact⟨q0,r0,rfl,rfl,a0,c6,b1,_,World.drewN_drewN _ _ _⟩
  case round =>
   obtain⟨q,r,rfl,rfl,fC,b3,eP,m0,rfl⟩:=hrel;clear a0 c6 b1;have h8:r<18446744073709551616:=by have:=eP.out;omega
   by_cases hb32:4294967296<=q
   ·have d1:decide (4294967296<=q)=true:=by simpa using hb32
    have d2:decide ((4294967296:Int)<=(q:Int))=true:=by simp;omega
    exact Eu
   have d1:decide (4294967296<=q)=false:=by simpa using hb32
   have d2:decide ((4294967296:Int)<=(q:Int))=false:=by simp;omega
   by_cases hr32:r<4294967296
   ·have d3:decide (r<4294967296)=true:=by simpa using hr32
    have d4:decide ((r:Int)<(4294967296:Int))=true:=by simp;omega
    obtain⟨p2,b0⟩:=Gz (q*v2);have f9:p2<18446744073709551616:=by rw[<- b0];exact Qe (Nat.mul_le_mul (show q<=4294967295 by omega) (show v2<=4294967295 by omega)) Gi
    have hw:IntKind.u64.wrap ((q:Int)*(v2:Int))=(p2:Int):=by
     rw[show (q:Int)*(v2:Int)=(p2:Int) by rw[<- b0];push_cast;rfl,IntKind.wrap_u64];omega
    replace b0:=Zb b0;by_cases ht5:r*4294967296+u2<p2
    ·have d5:decide (r*4294967296+u2<p2)=true:=Gv ht5
     have d6:decide ((r:Int)*4294967296+(u2:Int)<(p2:Int))=true:=Gv Gk;have i0:Q<q:=a2.out q r eP.out (by rw[b0.out];exact ht5);exact Eu
    have d5:decide (r*4294967296+u2<p2)=false:=Gu ht5;have d6:decide ((r:Int)*4294967296+(u2:Int)<(p2:Int))=false:=Gu Gk;exact FG
   have d3:decide (r<4294967296)=false:=by simpa using hr32
   have d4:decide ((r:Int)<(4294967296:Int))=false:=by simp;omega
   exact FG
 case rest =>
  obtain⟨q,rfl,fC,b3,m0,rfl⟩:=hcut;clear a0 c6 b1 a2;go_wp2_with fail;have f4:MutL (w.drewN m0) g off u:=hu;have b4:∀ (wr:World),WinF w g off (n+1) wr->Lim wr (some ⟨bv,ov,none⟩) n d v:=λwr h=>⟨hv.1,hv.2.1,hv.2.2.1,hv.2.2.2.1,λhn=>⟨bv,ov,rfl,λk hk=>(Qv (a:=⟨bv,ov+k,none⟩) (h.1.block bv (Zn (hv.cell (k:=0) Gk)) (λe=>hne (by injection e)))).trans (hv.cell hk)⟩⟩;replace b4:=Zb b4
  go_loopw [11,10,9] (λiv cv bw wr=>∃ i cy b:Nat,i<=n+1/\iv=.int .i64 i/\cy<4294967296/\cv=.int .u64 cy/\b<=1/\bw=.int .i64 b/\DSub w g off n q u v i cy b wr/\(i=n+1->cy=0)) (λiv _ _ _=>n+1-(intOf iv).toNat)
  case atStart=>exact⟨0,0,0,by omega,rfl,by omega,rfl,by omega,rfl,⟨u,f4,a4.out,hut,λ_ _=>rfl,by simp[val],(WinF.refl _ _ _ _).drewN m0⟩,by omega⟩
  case round =>
   obtain⟨i,cy,b,f6,rfl,c1,rfl,f0,rfl,⟨l,hl,C,I,f,hI,hF⟩,c9⟩:=hrel;replace C:=Zb C;replace f:=Zb f;replace hI:=Zb hI;have hy:=hut.get i;rcases Qz i n with hi|hi|hi
   ·obtain⟨Y,c3⟩:=hl i (by rw[C.out];omega)
    rw[f.out i (Qa _)]at Y;have c2:=(b4.out _ hF).cell (k:=i) hi;have hx:=hv.lt.get i
    have o:∀ lo c' d' b':Nat,lo+4294967296*c'=cy+q*v[i]?.getD 0->d'+lo+b=u[i]?.getD 0+4294967296*b'->val ((l.set i d').take (i+1))+q*val (v.take (i+1))=val (u.take (i+1))+pw (i+1)*(c'+b'):=
     λlo c' d' b' h1 h2=>Zim (by rw[C.out];omega) hI.out h1 h2
    replace o:=Zb o;obtain⟨x,a6⟩:=Gz (v[i]?.getD 0);obtain⟨y,J⟩:=Gz (u[i]?.getD 0);rw[a6]at c2 hx o;rw[J]at Y hy o;replace a6:=Zb a6;replace J:=Zb J;have hw:=Zp5 c1 b3 hx
    have c0:cy+q*x<18446744073709551616:=by
     have h:q*x<=4294967295*4294967295:=Nat.mul_le_mul Gk Gk;omega
    obtain⟨T,hT⟩:=Gz (cy+q*x);rw[hT]at hw c0 o
    have b7:bits BinOp.and IntKind.u64 (T:Int) 4294967295=((T%4294967296:Nat):Int):=by
     rw[show (4294967295:Int)=((4294967295:Nat):Int) from rfl,u64_and_nat _ _ c0 Gk,show 4294967295=2^32-1 by rfl,Ql]
    have e0:T/4294967296<4294967296:=Gk;replace hT:=Zb hT;have f3:T%4294967296<4294967296:=Qi _ Gi;obtain⟨lo,a8⟩:=Gz (T%4294967296);rw[a8]at b7 f3;replace a8:=Zb a8;have hh:Hid (lo+4294967296*(T/4294967296)=T):=by unfold Hid;rw[<- a8.out];exact Nat.mod_add_div _ _
    by_cases hneg:(y:Int)-lo-b<0
    ·have d1:decide ((y:Int)-lo-b<0)=true:=Gv hneg
     go_wp2_with fail;obtain⟨d',a5⟩:∃ d':Nat,(y:Int)-lo-b+4294967296=(d':Int):=⟨((y:Int)-lo-b+4294967296).toNat,by omega⟩;rw[a5];have O:d'<4294967296:=Gk;have hfin:=o.out lo (T/4294967296) d' 1 hh.out Gk;refine⟨⟨i+1,(T/4294967296),1,by omega,by go_num,e0,rfl,by omega,rfl,⟨l.set i d',hl.set_ (by rw[C.out];omega) d',by rw[Qd];exact C.out,I.set i O,λj hj=>by rw[getD_set_ne _ Gk];exact f.out j Gk,hfin,hF.set_ Gk _⟩,by omega⟩,by simp[intOf] <;> omega⟩
    have d1:decide ((y:Int)-lo-b<0)=false:=Gu hneg;go_wp2_with fail;obtain⟨d',a5⟩:∃ d':Nat,(y:Int)-lo-b=(d':Int):=⟨((y:Int)-lo-b).toNat,by omega⟩;rw[a5];have O:d'<4294967296:=Gk;have hfin:=o.out lo (T/4294967296) d' 0 hh.out Gk;refine⟨⟨i+1,(T/4294967296),0,by omega,by go_num,e0,rfl,by omega,rfl,⟨l.set i d',hl.set_ (by rw[C.out];omega) d',by rw[Qd];exact C.out,I.set i O,λj hj=>by rw[getD_set_ne _ Gk];exact f.out j Gk,hfin,hF.set_ Gk _⟩,by omega⟩,by simp[intOf] <;> omega⟩
   ·subst hi
    obtain⟨Y,c3⟩:=hl i (by rw[C.out];omega);rw[f.out i (Qa _)]at Y
    have o:∀ d' b':Nat,d'+cy+b=u[i]?.getD 0+4294967296*b'->val ((l.set i d').take (i+1))+q*val (v.take (i+1))=val (u.take (i+1))+pw (i+1)*(0+b'):=
     λd' b' h2=>Zim (by rw[C.out];omega) hI.out (by rw[getD_none (by rw[a3.out];exact Qa _),Qh,Qh,Qw]) h2
    replace o:=Zb o;obtain⟨y,J⟩:=Gz (u[i]?.getD 0);rw[J]at Y hy o;replace J:=Zb J
    have b7:bits BinOp.and IntKind.u64 (cy:Int) 4294967295=(cy:Int):=by
     rw[show (4294967295:Int)=((4294967295:Nat):Int) from rfl,u64_and_nat _ _ Gk Gk,show 4294967295=2^32-1 by rfl,Ql,QA c1]
    have g8:(cy:Int)/4294967296=0:=Gk;by_cases hneg:(y:Int)-cy-b<0
    ·have d1:decide ((y:Int)-cy-b<0)=true:=Gv hneg
     go_wp2_with fail;obtain⟨d',a5⟩:∃ d':Nat,(y:Int)-cy-b+4294967296=(d':Int):=⟨((y:Int)-cy-b+4294967296).toNat,by omega⟩;rw[a5];have O:d'<4294967296:=Gk;have hfin:=o.out d' 1  Gk;refine⟨⟨i+1,0,1,by omega,by go_num,(by omega),by go_num,by omega,rfl,⟨l.set i d',hl.set_ (by rw[C.out];omega) d',by rw[Qd];exact C.out,I.set i O,λj hj=>by rw[getD_set_ne _ Gk];exact f.out j Gk,hfin,hF.set_ Gk _⟩,by omega⟩,by simp[intOf] <;> omega⟩
    have d1:decide ((y:Int)-cy-b<0)=false:=Gu hneg;go_wp2_with fail;obtain⟨d',a5⟩:∃ d':Nat,(y:Int)-cy-b=(d':Int):=⟨((y:Int)-cy-b).toNat,by omega⟩;rw[a5];have O:d'<4294967296:=Gk;have hfin:=o.out d' 0  Gk;refine⟨⟨i+1,0,0,by omega,by go_num,(by omega),by go_num,by omega,rfl,⟨l.set i d',hl.set_ (by rw[C.out];omega) d',by rw[Qd];exact C.out,I.set i O,λj hj=>by rw[getD_set_ne _ Gk];exact f.out j Gk,hfin,hF.set_ Gk _⟩,by omega⟩,by simp[intOf] <;> omega⟩
   obtain rfl:i=n+1:=Gk;obtain rfl:cy=0:=c9 rfl
   have a7:Hid (val l+q*val v=val u+pw (n+1)*b):=by
    have h1:=hI.out;rw[Z8 (by rw[C.out];exact Qa _),Z8 (by rw[a3.out];omega),Z8 (by rw[a4.out];exact Qa _),Qg]at h1;exact h1
   clear hI f c9;have b9:Q<=q:=fC;go_wp2_with fail
   go_loopw [9,7] (λbw qw wr=>∃ (q b:Nat) (l:List Nat),bw=.int .i64 b/\qw=.int .u64 q/\b<=1/\Q<=q/\q<4294967296/\MutL wr g off l/\l.length=n+1/\Lt32 l/\Hid (val l+q*val v=val u+pw (n+1)*b)/\WinF w g off (n+1) wr) (λ_ qw _=>(intOf qw).toNat)
   case atStart=>exact⟨q,b,l,rfl,rfl,f0,b9,b3,hl,C.out,I,a7,hF⟩
   case round =>
    clear a7 hl C I hF;obtain⟨q,b,l,rfl,rfl,f0,b9,b3,hl,C,I,a7,hF⟩:=hrel;replace C:=Zb C;rcases Qb b with rfl|g4
    ·obtain⟨b6,b8⟩:=Zm0 (U:=val u) (q:=q) (W:=val l) hV (by have:=a7.out;rw[Qh]at this;exact this) (by rw[hQ.out];exact b9)
     have hP:Hid (Zv2 w g off u v (.returned (limb q)) wr):=⟨l,by rw[<- b6],by rw[C.out,a4.out],I,b8,hl,by rw[a4.out];exact hF⟩;have g1:((q:Int))%4294967296=(q:Int):=Gk;clear b6 b8 a7;go_wp2_with fail;go_ret;exact hP.out
    obtain rfl:b=1:=Gk
    have f7:Q<q:=by
     have:=Zlp (q:=q) (W:=val l) (M:=pw (n+1)) hV (by have:=a7.out;rw[Qt]at this;exact this) (by have:=Zfn I;rw[C.out]at this;exact this);rw[hQ.out]at this;exact this
    go_wp2_with fail
    go_loopw [13,10] (λiv cv wr=>∃ i cy:Nat,i<=n+1/\iv=.int .i64 i/\cy<=1/\cv=.int .u64 cy/\DAdd w g off n l v i cy wr) (λiv _ _=>n+1-(intOf iv).toNat)
    case atStart=>exact⟨0,0,by omega,rfl,by omega,rfl,l,hl,C.out,I,λ_ _=>rfl,by simp[val],hF⟩
    case round =>
     obtain⟨i,cy,f6,rfl,c1,rfl,l2,a9,E,b2,f,hI,b5⟩:=hrel;replace E:=Zb E;replace f:=Zb f;replace hI:=Zb hI;have e8:=I.get i;rcases Qz i n with hi|hi|hi
     ·obtain⟨Y,c3⟩:=a9 i (by rw[E.out];omega)
      rw[f.out i (Qa _)]at Y;have c2:=(b4.out _ b5).cell (k:=i) hi;have hx:=hv.lt.get i
      have o:∀ s c':Nat,s+4294967296*c'=cy+l[i]?.getD 0+v[i]?.getD 0->val ((l2.set i s).take (i+1))+pw (i+1)*c'=val (l.take (i+1))+val (v.take (i+1)):=
       λs c' h=>Zmn (by rw[E.out];omega) hI.out h
      replace o:=Zb o;obtain⟨x,a6⟩:=Gz (v[i]?.getD 0);obtain⟨y,J⟩:=Gz (l[i]?.getD 0);rw[a6]at c2 hx o;rw[J]at Y e8 o;replace a6:=Zb a6;replace J:=Zb J;go_wp2_with fail;have e1:((cy:Int)+y+x)%4294967296=(((cy+y+x)%4294967296:Nat):Int):=Gk;have e2:((cy:Int)+y+x)/4294967296=(((cy+y+x)/4294967296:Nat):Int):=Gk;rw[e1,e2];refine⟨⟨i+1,(cy+y+x)/4294967296,by omega,by go_num,by omega,rfl,l2.set i ((cy+y+x)%4294967296),a9.set_ (by rw[E.out];omega) _,by rw[Qd];exact E.out,b2.set i Gk,λj hj=>by rw[getD_set_ne _ Gk];exact f.out j Gk,o.out _ _ Gk,b5.set_ Gk _⟩,by simp[intOf] <;> omega⟩
     ·subst hi
      obtain⟨Y,c3⟩:=a9 i (by rw[E.out];omega);rw[f.out i (Qa _)]at Y
      have o:∀ s c':Nat,s+4294967296*c'=cy+l[i]?.getD 0->val ((l2.set i s).take (i+1))+pw (i+1)*c'=val (l.take (i+1))+val (v.take (i+1)):=
       λs c' h=>Zmn (by rw[E.out];omega) hI.out (by rw[getD_none (l:=v) (by rw[a3.out];exact Qa _),Qw];exact h)
      replace o:=Zb o;obtain⟨y,J⟩:=Gz (l[i]?.getD 0);rw[J]at Y e8 o;replace J:=Zb J;go_wp2_with fail;have e1:((cy:Int)+y)%4294967296=(((cy+y)%4294967296:Nat):Int):=Gk;have e2:((cy:Int)+y)/4294967296=(((cy+y)/4294967296:Nat):Int):=Gk;rw[e1,e2];refine⟨⟨i+1,(cy+y)/4294967296,by omega,by go_num,by omega,rfl,l2.set i ((cy+y)%4294967296),a9.set_ (by rw[E.out];omega) _,by rw[Qd];exact E.out,b2.set i Gk,λj hj=>by rw[getD_set_ne _ Gk];exact f.out j Gk,o.out _ _ Gk,b5.set_ Gk _⟩,by simp[intOf] <;> omega⟩
     obtain rfl:i=n+1:=Gk
     have hfin:Hid (val l2+(q-1)*val v=val u+pw (n+1)*(1-cy)):=by
      have h1:=hI.out;rw[Z8 (by rw[E.out];exact Qa _),Z8 (by rw[C.out];exact Qa _),Z8 (by rw[a3.out];omega)]at h1;have h2:=a7.out;have h3:=Zgv (v:=val v) (show 0<q by omega);rw[Qt]at h2;unfold Hid;rcases Qb cy with rfl|h0
      ·rw[Qh]at h1
       rw[Nat.sub_zero,Qt];omega
      obtain rfl:cy=1:=Gk;rw[Qt]at h1;rw[Nat.sub_self,Qh];omega
     clear hI f;have e3:((q:Int)-1)=((q-1:Nat):Int):=Gk;have e4:((1:Int)-cy)=((1-cy:Nat):Int):=Gk;replace e3:=Zb e3;replace e4:=Zb e4;go_wp2_with fail
     go_roundw
     case rel=>exact⟨q-1,1-cy,l2,by rw[<- e4.out],by rw[<- e3.out],by omega,by omega,by omega,a9,E.out,b2,hfin,b5⟩
     case measure=>simp[intOf] <;> omega
theorem DivR.step2{w wr w5:World}{g q:Nat}{A:Option Addr}{c m nq:Nat}{vl lu lq:List Nat}{a b s k:Nat}{l:List Nat}(hD:DivI (2^s*a) (2^s*b) m lu lq (k+1))(hq:lq.length=nq)(hM:MutL wr g 0 lu)(hB:Blk wr q 143 (Zt lq))
    (hL:Lim wr A m c vl) (hw:Below w.heap.size w wr) (hv:val vl=2^s*b) (hlen:l.length=m+1) (hlt:Lt32 l) (hl:val l=val ((lu.drop k).take (m+1))%val vl) (hQ:val ((lu.drop k).take (m+1))/val vl<4294967296)
    (hl5:MutL w5 g k l) (hF:WinF wr g k (m+1) w5) (hgq:g≠q) (hA:∀ b o,A=some ⟨b,o,none⟩->b≠g/\b≠q) (hg:w.heap.size<=g) (hqs:w.heap.size<=q) :
    DivR w g q A c m nq vl a b s k (w5.setCell ⟨q,k,none⟩ (limb (val ((lu.drop k).take (m+1))/val vl))):=by
 have h:2^s*b<=pw m:=by rw[<- hv];exact Nat.le_of_lt hL.lt_pw
 have f:k+l.length<=lu.length:=by have:=hD.2.2.1;have:=hD.2.2.2.1;omega
 have u:Blk w5 q 143 (Zt lq):=(hF.1.block q hB.lt (λe=>hgq (by injection e with e;exact e.symm))).trans hB
 refine⟨splice lu k l,lq.set k (val ((lu.drop k).take (m+1))/val vl),hD.step h hlen hlt hQ (by rw[hv]) (by rw[<- hv];exact hl),by rw[Qd];exact hq,
  (Zrn hM f (by rw[hlen];exact hF) hl5).far hgq,?_,Lim.far ?_ (λb o e=>(hA b o e).2),?_⟩
 rw[<- Zbw];exact u.set_ _ _
 ·exact⟨hL.1,hL.2.1,hL.2.2.1,hL.2.2.2.1,λhn=>by
    obtain⟨b,o,e,hc⟩:=hL.2.2.2.2 hn;exact⟨b,o,e,λj hj=>(Qv (a:=⟨b,o+j,none⟩) (hF.1.block b (Zn (hc 0 hn)) (λe2=>(hA b o e).1 (by injection e2)))).trans (hc j hj)⟩⟩
 exact(hw.grown hF.1 hw.size (λj hj=>by injection hj with hj;omega)).setCell (p:=⟨q,k,none⟩) hqs _
def ShiftI(x:Nat)(sv:Value):Prop:=∃ s:Nat,sv=.int .u64 (s:Int)/\s<=31/\2^s*x<4294967296
def ShrR(w0:World)(s:Nat)(rest:List Nat)(i:Nat)(v:Value)(wr:World):Prop:=
 ∃ o,OwnL 143 wr w0.heap.size v o/\o.length=i/\val o+pw i*(val (rest.drop i)/2^s)=val rest/2^s/\Below w0.heap.size w0 wr
theorem Zum(A B:Option Addr)(n c m d:Nat)(a b:Nat)(w:World)(ha:Lim w A n c (digits a))(hb:Lim w B m d (digits b))(hn:n<=100000)(h:a<b) :
    Calls Tryz.prog 100 #[.slice A n c,.slice B m d] w (Zoi w a b):=by
 have E:Hid (Zch (digits a) (digits b)<0):=by
  have:=(Zgp (va:=a) (vb:=b));unfold Hid;omega
 obtain⟨cv,f⟩:∃ x:Int,Zch (digits a) (digits b)=x:=⟨_,rfl⟩;have J:cv<0:=by rw[<- f];exact E.out
 have HC:=Zb f;clear E f;go_in;go_wp2_with fail;refine(Zc2 _ _ _ _ _ _ _ _ _ ha hb).mono ?_;rintro e w1 ⟨C,u⟩;rw[HC.out]at C;subst C;go_wp2_with fail;refine(Zdx _ _ _ _ _ (ha.below u) Gk).mono ?_;rintro e w2 ⟨A2,n2,c2,l2,rfl,hL,o,I⟩;replace o:=Zb o;go_wp2_with fail
 go_ret2
 have hB:Below w.heap.size w w2:=Gs u I;exact⟨_,_,_,_,_,_,rfl,by rw[Nat.div_eq_of_lt h,Zaq];exact Lim.nil _ _ _ (Nat.zero_le _),by rw[QA h];have:=o.out;rw[Zh]at this;rw[<- this];exact hL,hB⟩
theorem Zvl(A B:Option Addr)(n c m d:Nat)(a b:Nat)(w:World)(ha:Lim w A n c (digits a))(hb:Lim w B m d (digits b))(hn:n<=100000)(h:b<=a)(hm:m=1) :
    Calls Tryz.prog 100 #[.slice A n c,.slice B m d] w (Zoi w a b):=by
 subst hm;have a7:=ha.2.1;have a1:=ha.2.2.1;have a8:=hb.2.1;have a3:=hb.2.2.1;unfold maxLen at a1 a3;obtain⟨cv,u⟩:∃ x:Int,Zch (digits a) (digits b)=x:=⟨_,rfl⟩;have E:¬ cv<0:=by rw[<- u];have:=(Zgp (va:=a) (vb:=b));omega
 have a2:decide (cv<0)=false:=by simpa using E
 have HC:=Zb u;clear u E;obtain⟨I,a5,J⟩:=Zki hb.len;obtain⟨g,o,rfl,f⟩:=hb.at_ (k:=0) Gk;rw[I]at f;simp at f;replace I:=Zb I;have a4:=Zb (Zh a);go_in;go_wp2_with fail;refine(Zc2 _ _ _ _ _ _ _ _ _ ha hb).mono ?_;rintro e w1 ⟨U,C⟩;rw[HC.out]at U;subst U;have a0:=Za C f;go_wp2_with fail;refine(Zrq _ _ _ b _ _ (ha.below C) a5 J Gk).mono ?_;rintro e w2 ⟨A2,n2,c2,A3,n3,c3,rfl,Y,O,a6⟩;rw[a4.out]at Y O;go_wp2_with fail
 go_ret2
 exact⟨_,_,_,_,_,_,rfl,Y,O,Gs C a6⟩
theorem Ej{G:Prop}(h:G:=by
 go_wp2_with (at_builtin;refine Zp _ rfl (.tmp 101) (.tmp 106) 28 rfl wo.heap.size 143 i0 _ 1 4 Tryz.underlying28 hi iu iw ix rfl Gk _ i (o.map limb) rfl (by have:=aI.out;subst this;exact ah.1.alloc _) _ _ 1 1 _ rfl (Zbo _ _ _) (by simp[Value.oneCell']) (by simp only[maxLen];omega) Gk Ge ?_;intro v1 w1 ax bM iT);have ab:=(hB.alloc hB.size _).grown bM Ge ah.row_ge
 go_roundw
 case rel=>((repeat apply Exists.intro);exact⟨⟨i+1,by omega,by go_num,ja.out _ _ _ (by first|exact fO.out _ fp.out|exact cZ.out _ fp.out) ax ab⟩,rfl⟩)
 case measure=>simp[intOf];omega):G:=h
theorem Ztt(A B:Option Addr)(n c m d:Nat)(a b:Nat)(w:World)(ha:Lim w A n c (digits a))(hb:Lim w B m d (digits b))(hn:n<=100000)(h:b<=a)(hm:2<=m) :
    Calls Tryz.prog 100 #[.slice A n c,.slice B m d] w (Zoi w a b):=by
 have m2:=ha.2.1;have j9:=ha.2.2.1;have l6:=hb.2.1;have k1:=hb.2.2.1;unfold maxLen at j9 k1;have ie:m<=n:=by have:=Zw h;rw[ha.len,hb.len]at this;exact this
 obtain⟨i0,hi,iu,iw,ix⟩:=info_parts Zdc;have m1:=Zgm (P:=Tryz.prog) 28 143 Tryz.underlying28 hi iu iw ix ((n:Int)+1-m) (n+1-m) Gk Gk;obtain⟨cv,a6⟩:∃ x:Int,Zch (digits a) (digits b)=x:=⟨_,rfl⟩;have b2:¬ cv<0:=by rw[<- a6];have:=(Zgp (va:=a) (vb:=b));omega
 have i9:decide (cv<0)=false:=by simpa using b2
 have HC:=Zb a6;clear a6 b2;have m5:((m:Int) == 1)=false:=by simp;omega
 obtain⟨g,o,rfl,I⟩:=hb.at_ (k:=m-1) Gk;have f:=hb.len;have c0:=Ze4 (v:=b) Gk;have e6:=Zn3 f Gk;have b1:=hb.lt.get (m-1);have h7:=Zdm b;rw[f]at c0 h7;have a4:=Zha f Gk hb.lt;rw[Zh]at e6 a4;obtain⟨x,hx⟩:=Gz ((digits b)[m-1]?.getD 0);rw[hx]at I c0 e6 b1 a4;replace f:=Zb f;replace hx:=Zb hx;have cA:=Zb (Zh a);have cB:=Zb (Zh b);go_in;go_wp2_with fail;refine(Zc2 _ _ _ _ _ _ _ _ _ ha hb).mono ?_;rintro e w1 ⟨f8,O⟩;rw[HC.out]at f8;subst f8;have a9:=Za O I;have j2:0<x:=Gk;go_wp2_with fail
 go_loop [7] (λsv=>ShiftI x sv) (λsv=>31-(intOf sv).toNat)
 case atStart=>exact⟨0,rfl,by omega,by simpa using b1⟩
 case round =>
  obtain⟨s,rfl,l0,i5⟩:=hrel
  have k0:IntKind.u32.wrap ((x:Int)*2^s)=((2^s*x:Nat):Int):=by
   have e1:((x:Int)*2^s)=((2^s*x:Nat):Int):=by push_cast;rw[Int.mul_comm]
   rw[e1,IntKind.wrap_u32];omega
  obtain⟨y,hy⟩:=Gz (2^s*x);rw[hy]at k0 i5;by_cases hlt2:y<2147483648
  ·have k9:s<31:=by
     rcases Qx s 31 with h'|h';exact h';exfalso;obtain rfl:s=31:=Gk;have:2^31*1<=2^31*x:=Qm _ j2;rw[hy]at this;simp at this;omega
   have j3:2^(s+1)*x<4294967296:=by rw[Nat.pow_succ,Qp (2^s),Qf,hy];omega
   replace hy:=Zb hy;have d1:decide (y<2147483648)=true:=Gv hlt2;have d2:decide ((y:Int)<2147483648)=true:=Gv Gk;clear hlt2;go_wp2_with fail;exact⟨⟨s+1,by go_num,by omega,j3⟩,by simp[intOf];omega⟩
  replace hy:=Zb hy;have d1:decide (y<2147483648)=false:=Gu hlt2;have d2:decide ((y:Int)<2147483648)=false:=Gu Gk;clear hlt2;go_wp2_with fail;have l5:2147483648<=y:=by have:=of_decide_eq_false d1;omega
  clear d1 d2;have hs:s<32:=Gk
  have hxs:x+1<=2^(32-s):=by
   have h1:2^s*x<2^s*2^(32-s):=by
    rw[<- Nat.pow_add,show s+(32-s)=32 by omega,hy.out];exact i5
   exact Nat.lt_of_mul_lt_mul_left h1
  have i8:=ha.below O;have f6:=hb.below O;refine(Znd _ m d s (digits b) _ f6 hs Gk).mono ?_;rintro e w3 ⟨v3,o3,rfl,d0,a1,a5,a7⟩;obtain⟨g3,c3,a0,m0,l2,g8,b6,g1⟩:=d0.mut Gk;rw[a1]at a0 g8;subst a0;have j1:Lim w3 (some ⟨g3,0,none⟩) (m+1) c3 o3:=g1.lim a1 g8 b6 d0.2;unfold maxLen at b6;replace a1:=Zb a1;replace a5:=Zb a5;clear d0 g1;go_wp2_with fail;refine(Znd A n c s (digits a) _ (i8.below a7) hs Gk).mono ?_;rintro e w4 ⟨v4,o4,rfl,dK,cK,cL,e9⟩;obtain⟨g4,c4,b9,m3,l1,g5,g2,eG⟩:=dK.mut Gk;rw[cK]at b9 g5;subst b9;unfold maxLen at g2;replace cK:=Zb cK;replace cL:=Zb cL;go_wp2_with fail;replace cB:=cB.out;replace cA:=cA.out;rw[cB]at a5;rw[cA]at cL;have b4:=a1.out;have a0:=a5.out
  have g6:2^s*(x+1)<=4294967296:=by
   exact Iz
  have b7:2^s*b<pw m:=by
   have h1:2^s*b<2^s*((x+1)*pw (m-1)):=Qo a4 (Qu Gk);have h2:2^s*((x+1)*pw (m-1))<=4294967296*pw (m-1):=by rw[<- Qf];exact Nat.mul_le_mul_right _ g6
   rw[<- Zbh,show m-1+1=m by omega]at h2;omega
  have a3:val (o3.take m)=2^s*b:=by
   exact FO
  have aX:=(j1.take (k:=m) Gk).below e9
  have a8:y*pw (m-1)<=2^s*b:=by
   have h1:2^s*(x*pw (m-1))<=2^s*b:=Qm _ e6;rw[<- Qf,hy.out]at h1;exact h1
  have h9:2147483648<=(o3.take m)[m-1]?.getD 0:=by
   have h1:=Zha (v:=o3.take m) (n:=m) (by rw[QB,b4];omega) Gk aX.lt;rw[a3]at h1;have h2:=Nat.lt_of_mul_lt_mul_right (Qe a8 h1);omega
  have en:Below w.heap.size w w4:=(Gs O a7).trans (e9.mono (Nat.le_trans O.size a7.size))
  have b0:DivR w g4 w4.heap.size (some ⟨g3,0,none⟩) c3 m (n+1-m) (o3.take m) a b s (n+1-m) (w4.alloc (.cells (Zt (List.replicate (n+1-m) 0)) 143)):=by
   exact EP
  have k3:∀ b o,some (⟨g3,0,none⟩:Addr)=some ⟨b,o,none⟩->b≠g4/\b≠w4.heap.size:=λb o e=>by
   injection e with e
   injection e with e1 e2
   have:=e9.size;omega
  have j7:w.heap.size<=g4:=by have:=O.size;have:=a7.size;omega
  have f0:g4≠w4.heap.size:=Gk;have c5:g3≠g4:=Gk;clear eG dK cK cL a5 a1 cA cB I a9 a0 b4;replace a3:=Zb a3;replace a8:=Zb a8
  go_loopw [11] (λjv wr=>∃ k:Nat,k<=n+1-m/\jv=.int .i64 ((k:Int)-1)/\DivR w g4 w4.heap.size (some ⟨g3,0,none⟩) c3 m (n+1-m) (o3.take m) a b s k wr) (λjv _=>(intOf jv+1).toNat)
  case atStart=>exact⟨n+1-m,Qa _,rfl,b0⟩
  case round =>
   obtain⟨k,hk,rfl,lu,lq,hD,hq,hM,bF,i3,e3⟩:=hrel;replace hq:=Zb hq;rcases k with _|k
   ·obtain⟨e1,e2⟩:=hD.stop
    have j4:0<b:=by
     rcases Qb b with h0|h0
     ·subst h0
      rw[Zaq]at f;have:=f.out;simp at this;omega
     exact h0
    have c2:Lim wr (some ⟨g4,0,none⟩) (n+1) c4 lu:=hM.lim (by have:=hD.2.2.1;have:=hq.out;omega) g5 (by unfold maxLen;omega) hD.1
    have k7:Lim wr (some ⟨w4.heap.size,0,none⟩) (n+1-m) (n+1-m) lq:=by
     exact Id
    have h5:val (lu.take m)=2^s*(a%b):=by
     have h1:=Zaa lu m (by rw[c2.len];omega);have h2:2^s*(a%b)<2^s*b:=Qo (Qi _ j4) (Qu Gk);rcases Qb (val (lu.drop m))with h0|h0;rw[h0]at h1;omega;have:=Qm (pw m) h0;omega
    have a2:=c2.take (k:=m) Gk
    have i4:Hid (val (lu.take m)/2^s=a%b):=by
     unfold Hid;rw[h5,Nat.mul_div_cancel_left _ (Qu Gk)]
    obtain⟨rs,i1⟩:=Gz (lu.take m);rw[i1]at a2 i4;have c9:=Zb a2.len;replace e1:=Zb e1;clear hD e2 h5 i1 hM bF c2 a8 a3 h9 b7;go_wp2_with fail;obtain⟨wo,rfl⟩:=Gy wr
    go_loopw [14,13] (λiv ov wr=>∃ i:Nat,i<=m/\iv=.int .i64 i/\ShrR wo s rs i ov wr) (λiv _ _=>m-(intOf iv).toNat)
    case atStart=>exact⟨0,Nat.zero_le _,rfl,[],OwnL.nil _ _ _,rfl,by simp[val,Zd6],Qj _ _⟩
    case round =>
     obtain⟨i,l9,rfl,o,ah,aI,hI,hB⟩:=hrel;replace aI:=Zb aI;replace hI:=Zb hI;have b8:=a2.below hB;by_cases him:i<m
     ·have E:=Zvi (r:=rs) (i:=i) (s:=s) Gk (by rw[c9.out];exact him) a2.lt
      have g7:=b8.cell him;rw[Qg]at g7;have j8:=a2.lt.get i;have k6:=a2.lt.get (i+1);obtain⟨p,hp⟩:=Gz (2^s);have m6:0<p:=by rw[<- hp];exact Qu Gk
      have l3:(0:Int)<(p:Int):=Gk;have e0:((2:Int)^s)=(p:Int):=by rw[<- hp];push_cast;rfl
      rw[hp]at E;obtain⟨y0,e4⟩:=Gz (rs[i]?.getD 0);obtain⟨y1,C⟩:=Gz (rs[i+1]?.getD 0);rw[e4]at g7 j8 E;rw[C]at k6 E;replace E:=Zb E;replace e4:=Zb e4;obtain⟨X,hX⟩:=Gz (y0+4294967296*y1);rw[hX]at E;have m4:X<18446744073709551616:=Gk
      have ja:Hid (∀ (v1:Value) (w1:World) (Z:Int),Z=((X/p%4294967296:Nat):Int)->w1.ownsRow wo.heap.size 143 1 v1 (i+1) (o.map limb ++ [.int .u32 Z])->Below wo.heap.size wo w1->ShrR wo s rs (i+1) v1 w1):=λv1 w1 Z hZ h1 h2=>by
       refine⟨o ++ [X/p%4294967296],OwnL.snoc aI.out.symm h1 ah.2 hZ (Qi _ Gi),by rw[List.length_append,aI.out];rfl,?_,h2⟩;rw[Zeb,aI.out,hp];have h3:=hI.out;rw[hp,E.out]at h3;rw[<- h3,Zbh,Qn,Qp 4294967296 (pw i),Qf];omega
      have cZ:∀ Y:Int,Y=(X:Int)->Y/2^s%4294967296=((X/p%4294967296:Nat):Int):=λY hY=>by
       rw[hY,e0,show (X:Int)/(p:Int)=((X/p:Nat):Int) from rfl];generalize X/p=z at *;omega
      have fO:∀ Y:Int,Y=(X:Int)->IntKind.u32.wrap (Y/2^s)=((X/p%4294967296:Nat):Int):=λY hY=>by
       rw[IntKind.wrap_u32];exact cZ Y hY
      replace cZ:=Zb cZ;replace fO:=Zb fO;replace e0:=Zb e0;replace hp:=Zb hp;by_cases him2:i+1<m
      ·have f5:=b8.cell him2
       rw[Qg]at f5;have fp:Hid ((y0:Int)+(y1:Int)*4294967296=(X:Int)):=by unfold Hid;omega
       replace hX:=Zb hX;rw[C]at f5;replace C:=Zb C;exact Ej
      have fp:Hid ((y0:Int)=(X:Int)):=by
        have:y1=0:=by rw[<- C];exact getD_none (by rw[c9.out];omega)
        unfold Hid;omega
      replace hX:=Zb hX;replace C:=Zb C;have d9:decide (i+1<m)=false:=Gu him2;have d8:decide ((i:Int)+1<(m:Int))=false:=Gu Gk;exact Ej
     obtain rfl:i=m:=Gk
     have k2:Hid (val o=a%b):=by
      have h1:=hI.out;rw[List.drop_of_length_le (by rw[c9.out];exact Qa _)]at h1;simp only[val,Nat.zero_div,Qh,Qw]at h1;unfold Hid;rw[h1];exact i4.out
     obtain⟨A6,c6,g0,f3⟩:=ah.lim;rw[aI.out]at g0 f3;subst g0;have i2:=k7.below hB;go_wp2_with fail;refine(Zdx _ _ _ _ _ i2 Gk).mono ?_;rintro e w7 ⟨A7,n7,c7,l7,rfl,g9,rfl,e8⟩;go_wp2_with fail;refine(Zdx _ _ _ _ _ (f3.below e8) Gk).mono ?_;rintro e w8 ⟨A8,n8,c8,l8,rfl,h6,rfl,f9⟩;rw[e1.out]at g9;rw[k2.out]at h6;go_wp2_with fail
     go_ret2
     have e7:Below w.heap.size w wr:=Gs e3 hB;exact⟨_,_,_,_,_,_,rfl,g9.below f9,h6,(Gs e7 e8).trans (f9.mono (Nat.le_trans e7.size e8.size))⟩
   have k8:=hD;obtain⟨d1,d2,d3,d4,d5,d6,d7⟩:=k8;replace d3:=Zb d3;replace d5:=Zb d5;replace d7:=Zb d7;have h4:=bF.cell k;rw[Zaz lq k (by rw[hq.out];omega)]at h4;have k4:=bF.frozen k;go_wp2_with fail;have k5:2^s*b<=pw m:=Nat.le_of_lt b7;obtain⟨f7,f4⟩:=hD.win k5;have J:((lu.drop k).take (m+1)).length=m+1:=by rw[QB,List.length_drop,d3.out];omega
   have j0:MutL wr g4 k ((lu.drop k).take (m+1)):=by
    have:=hM.win (k:=k) (n:=m+1) (by rw[d3.out];omega)
    rwa [Qg]at this
   have U:val ((lu.drop k).take (m+1))<4294967296*val (o3.take m):=by rw[f7,a3.out];exact f4
   rw[show k+m+1-k=m+1 by omega];refine(Ztv g4 k m (c4-k) c3 g3 0 _ _ _ j0 J ((d1.drop k).take (m+1)) Gk (by unfold maxLen;omega) Gk Gk i3 c5 U h9).mono ?_;rintro e w5 ⟨l,rfl,e5,h8,i6,j6,c1⟩
   have b5:val ((lu.drop k).take (m+1))/val (o3.take m)<4294967296:=by
    have j5:0<val (o3.take m):=by
     rcases Qb (val (o3.take m))with h0|h0;rw[h0]at U;omega;exact h0
    rw[Qk j5];exact U
   rw[J]at e5 c1;have hfin:=DivR.step2 (wr:=wr) hD hq.out hM bF i3 e3 a3.out e5 h8 i6 b5 j6 c1 f0 k3 j7 en.size;have b3:Blk w5 w4.heap.size 143 (Zt lq):=(c1.1.block _ bF.lt (λe=>f0 (by injection e with e;exact e.symm))).trans bF;have i7:=b3.cell k;rw[Zaz lq k (by rw[hq.out];omega)]at i7;have l4:=b3.frozen k;obtain⟨Q,hQ⟩:=Gz (val ((lu.drop k).take (m+1))/val (o3.take m));rw[hQ]at hfin b5 ⊢;clear h4 k4 i6 e5 hQ f7 J U f4;exact FK
theorem Zif(A B:Option Addr)(n c m d:Nat)(a b:Nat)(w:World)(ha:Lim w A n c (digits a))(hb:Lim w B m d (digits b))(hn:n<=100000)(hb0:0<b) :
    Calls Tryz.prog 100 #[.slice A n c,.slice B m d] w (Zoi w a b):=by
 rcases Qx a b with h|h;exact Zum A B n c m d a b w ha hb hn h;rcases Qx m 2 with h2|h2
 ·have h1:0<(digits b).length:=length_digits_pos.2 hb0
  rw[hb.len]at h1;exact Zvl A B n c m d a b w ha hb hn h Gk
 exact Ztt A B n c m d a b w ha hb hn h h2
theorem Zoc(na nb:Bool)(A B:Option Addr)(n c m d:Nat)(za zb:Int)(w:World)(ha:Wd w na A n c za)(hb:Wd w nb B m d zb) :
    Calls Tryz.prog 71 #[.agg #[.bool na,.slice A n c],.agg #[.bool nb,.slice B m d]] w (ResW w (Nat.gcd za.natAbs zb.natAbs:Nat)):=by
 have a4:=ha.lim;have a2:=hb.lim;have hn:=ha.2.1;have hm:=hb.2.1;have J:∀ X Y Z:Obj,Below w.heap.size w (((w.alloc X).alloc Y).alloc Z):=λX Y Z=>(((Qj w.heap.size w).alloc (Qa _) _).alloc Gh _).alloc Gg _;have J:=Zb J;have C:Hid ((okW na (digits za.natAbs) && okW nb (digits zb.natAbs))=true):=by unfold Hid;rw[ha.ok,hb.ok];rfl
 clear ha hb;generalize za.natAbs=va at *;generalize zb.natAbs=vb at *;obtain⟨G,hG⟩:=Gz (Nat.gcd va vb);rw[hG];replace hG:=Zb hG;go_in;go_wp2_with fail;refine(Zig (((a4.alloc _).alloc _).alloc _) (((a2.alloc _).alloc _).alloc _) C.out).mono ?_;rintro e w1 ⟨rfl,f⟩;obtain⟨E,a8⟩:=Zdf f;have b1:w.heap.size+1+1<w1.heap.size:=by have:=f.size;simp at this;omega
 have o:Below w.heap.size w w1:=(J.out _ _ _).trans (f.mono Gg);have g1:w1.cell? ⟨w.heap.size,1,none⟩=some (.slice A n c):=by simp[E,go_sem]
 have g2:w1.cell? ⟨w.heap.size+1,1,none⟩=some (.slice B m d):=by simp[E,go_sem]
 have g7:Blk w1 (w.heap.size+1+1) 30 #[.bool false,.slice none 0 0]:=by
  refine Zc f ?_;exact Ev
 have a1:=a4.below o;have O:=a2.below o;replace g7:=Zb g7;clear E a8;go_wp2_with fail
 go_quiet (fail)
 have m7:Hid (Blk (w1.drewN nq) (w.heap.size+1+1) 30 #[.bool false,.slice none 0 0]):=Blk.drewN g7.out nq;have a6:Below w.heap.size w (w1.drewN nq):=Zg o nq;go_wp2_with fail
 go_loopw [6,7] (λxv yv wr=>GcdR w 30 G xv yv wr) (λ_ yv wr=>val (Ziu wr yv))
 case atStart=>exact⟨va,vb,_,_,_,_,_,_,rfl,rfl,a1,O,hn,hm,hG.out,m7.out,a6⟩
 case round =>
  obtain⟨u,v,A5,n5,c5,B5,m5,d5,rfl,rfl,a0,aX,b0,ic,hg,az,di⟩:=hrel;replace hg:=Zb hg;replace az:=Zb az;by_cases hm0:0<m5
  ·have cY:0<v:=by rw[<- aX.len]at hm0;exact length_digits_pos.1 hm0
   have eh:=Zb aX.mem;go_wp2_with fail;refine(Zif _ _ _ _ _ _ u v _ a0 aX Gk cY).mono ?_;exact EQ
  obtain rfl:m5=0:=Gk
  have cY:v=0:=by
   exact Ih
  subst cY;have a5:Hid (u=G):=by have:=hg.out;rw[Nat.gcd_zero_right]at this;exact this
  have g8:=az.out;have g3:=g8.cell 0;have g4:=g8.cell 1;have g5:=g8.frozen 0;have g6:=g8.frozen 1;simp at g3 g4;clear g8;go_wp2_with fail;refine(Zb8 _ _ _ _ _ _ a0 Gk).mono ?_;rintro e w6 ⟨a3,U,A7,n7,c7,I,rfl,a7⟩;have a9:Below w.heap.size w w6:=Gs di a3;have m8:=Zc a3 az.out;have m3:=m8.cell 0;have m4:=m8.cell 1;have m5:=m8.frozen 0;have m6:=m8.frozen 1;simp at m3 m4;replace m8:=Zb m8;go_wp2_with fail;have HZ:sg false (val (digits u))=(G:Int):=by rw[Zh,a5.out];rfl
  refine bodyPost_ret (v:=.tuple #[.agg #[.bool U,.slice A7 n7 c7],.int .i64 I]) (by simp[results,Tryz.results71,go_sem,m3,m4]) rfl ?_;exact ResW.box (HZ▸a7) a9 Gk m8.out
theorem Ex{G:Prop}(h:G:=by
 rw[Zh,be.out]at bV;rcases bV with ⟨-,rfl,jb⟩|⟨aY,-⟩
 case inr =>
  exfalso;have h1:=be.out;rw[<- h1,Z0]at aY;omega
 have eK:Below w3.heap.size w3 (w3.alloc (.cells #[.bool av,.slice A3 n3 c3] 30)):=(Below.refl _ _).alloc (Nat.le_refl _) _;have bp:=Blk.new w3 30 #[.bool av,.slice A3 n3 c3];have jK:w.heap.size+1+1+1<w3.heap.size:=by have:=aa.size;have:=ae.size;omega
 have iH:=Za eK eW;have iK:=Za eK eY;go_wp2_with fail;refine(Zb8 _ _ _ _ _ _ ((aP.below ae).below eK) Gk).mono ?_;rintro e w4 ⟨dz,cC,A4,n4,c4,gw,rfl,gJ⟩;have cH:Below w3.heap.size w3 w4:=eK.trans (dz.mono Gh);have iC:=Zb (Zc dz bp);have jj:w3.heap.size<w4.heap.size:=by have:=dz.size;simp at this;omega
 have gG:Below w.heap.size w w4:=Gs aO cH;have iG:=Za cH eW;have iI:=Za cH gz;have iJ:=Za cH eY;have iL:=Za cH gD;have iD:Hid (Blk _ _ _ _):=Zc cH fV.out;have iE:Hid (Blk _ _ _ _):=Zc cH fY.out;rw[Zh,bl.out]at gJ;rcases gJ with ⟨-,rfl,jd⟩|⟨aY,-⟩
 case inr =>
  exfalso;have h1:=bl.out;rw[<- h1,Z0]at aY;omega
 have jc:=jb.below cH;have cI:Below w4.heap.size w4 (w4.alloc (.cells #[.bool cC,.slice A4 n4 c4] 30)):=(Below.refl _ _).alloc (Nat.le_refl _) _;have bs:=Blk.new w4 30 #[.bool cC,.slice A4 n4 c4];have eA:=Gm cI iC;have au:=Gs gG cI;have p0:=eA.out.cell 0;have p1:=eA.out.cell 1;have p2:=eA.out.frozen 0;have p3:=eA.out.frozen 1;simp at p0 p1;replace bs:=Zb bs;clear iH iK;have jB:=Za cI iG;have jC:=Za cI iI;have jD:=Za cI iJ;have jE:=Za cI iL;have ay:Hid (Blk _ _ _ _):=Zc cI iD.out;have dQ:Hid (Blk _ _ _ _):=Zc cI iE.out;have ct:=jc.below cI;have fH:=jd.below cI;go_wp2_with fail;generalize iq:w4.alloc _=w5 at *;have ik:w5.heap.size=w4.heap.size+1:=by rw[<- iq];simp
 replace ik:=Zb ik;clear iq;have s0:=bs.out.cell 0;have s1:=bs.out.cell 1;have s2:=bs.out.frozen 0;have s3:=bs.out.frozen 1;simp at s0 s1;have q1:=ay.out.cell 0;have q2:=ay.out.cell 1;have q3:=ay.out.frozen 0;have q4:=ay.out.frozen 1;have r1:=dQ.out.cell 0;have r2:=dQ.out.cell 1;have r3:=dQ.out.frozen 0;have r4:=dQ.out.frozen 1;simp at q1 q2 r1 r2
 go_region
 go_wp2
 generalize hw9:((((w5.setCell ⟨w.heap.size+1+1,0,none⟩ (.bool av)).setCell ⟨w.heap.size+1+1,1,none⟩ (.slice A3 n3 c3)).setCell ⟨w.heap.size+1+1+1,0,none⟩ (.bool cC)).setCell ⟨w.heap.size+1+1+1,1,none⟩ (.slice A4 n4 c4)).drew=w9;have b1:=(ay.out.set_ 0 (.bool av)).set_ 1 (.slice A3 n3 c3);have b2:=(dQ.out.far (p:=⟨w.heap.size+1+1,0,none⟩) Gf (.bool av)).far (p:=⟨w.heap.size+1+1,1,none⟩) Gf (.slice A3 n3 c3);have b3:Blk w9 (w.heap.size+1+1) 30 #[.bool av,.slice A3 n3 c3]:=by rw[<- hw9];exact(b1.far Gf _).far Gf _
 have b4:Blk w9 (w.heap.size+1+1+1) 30 #[.bool cC,.slice A4 n4 c4]:=by rw[<- hw9];exact(b2.set_ 0 _).set_ 1 _
 have dy:Below w.heap.size w w9:=by rw[<- hw9];exact Zg ((((au.setCell (p:=⟨w.heap.size+1+1,0,none⟩) Gf _).setCell (p:=⟨w.heap.size+1+1,1,none⟩) Gf _).setCell (p:=⟨w.heap.size+1+1+1,0,none⟩) Gf _).setCell (p:=⟨w.heap.size+1+1+1,1,none⟩) Gf _) 1
 have cu:∀ (A:Option Addr) (n c:Nat) (l:List Nat),Lim w5 A n c l->Lim w9 A n c l:=λA n c l h=>by
  rw[<- hw9];exact Lim.set_box (Lim.set_box (Lim.set_box (Lim.set_box h ay.out (NoLimb.box _ _ _ _) 0 _) (ay.out.set_ 0 _) (NoLimb.box _ _ _ _) 1 _) b2 (NoLimb.box _ _ _ _) 0 _) (b2.set_ 0 _) (NoLimb.box _ _ _ _) 1 _
 have t1:=b3.cell 0;have t2:=b3.cell 1;have t3:=b4.cell 0;have t4:=b4.cell 1;simp at t1 t2 t3 t4;refine bodyPost_ret (v:=.tuple #[.agg #[.bool av,.slice A3 n3 c3],.agg #[.bool cC,.slice A4 n4 c4],.int .i64 0]) (by simp[results,Tryz.results119,go_sem,t1,t2,t3,t4]) rfl ?_;exact hfin.out _ _ ⟨dy,_,_,_,_,_,_,_,_,rfl,⟨ct.1,ct.2.1,cu _ _ _ _ ct.2.2⟩,⟨fH.1,fH.2.1,cu _ _ _ _ fH.2.2⟩⟩):G:=h
theorem Zn1(na nb:Bool)(A B:Option Addr)(n c m d:Nat)(za zb:Int)(w:World)(ha:Wd w na A n c za)(hb:Wd w nb B m d zb)(h0:zb≠0)(hy:za.natAbs%zb.natAbs=0) :
    Calls Tryz.prog 119 #[.agg #[.bool na,.slice A n c],.agg #[.bool nb,.slice B m d]] w (Ziq w za zb):=by
 have a8:=ha.lim;have f:=hb.lim;have hn:=ha.2.1;have hm:=hb.2.1;have b5:=f.2.2.1;have d5:=f.2.1;unfold maxLen at b5;have a1:∀ X Y Z V:Obj,Below w.heap.size w ((((w.alloc X).alloc Y).alloc Z).alloc V):=λX Y Z V=>((((Qj w.heap.size w).alloc (Qa _) _).alloc Gh _).alloc Gg _).alloc Gg _;have a1:=Zb a1;have J:Hid ((okW na (digits za.natAbs) && okW nb (digits zb.natAbs))=true):=by unfold Hid;rw[ha.ok,hb.ok];rfl
 have a0:=ha.sgEq;have a2:=hb.sgEq;rw[Zh]at a0 a2;have hU:=ha.small;have hV:=hb.small;clear ha hb;have E:0<zb.natAbs:=Gk;have d3:0<m:=by rw[<- f.len];exact length_digits_pos.2 E
 have c9:((m:Int) == 0)=false:=by simp;omega
 obtain⟨I,O⟩:=Zg2 na nb za.natAbs zb.natAbs E (Or.inl hy);rw[a0,a2]at I O;clear a0 a2 h0;generalize za.natAbs=U at *;generalize zb.natAbs=V at *;have hxs:U/V<pw 4096:=Qe (Qs _ _) hU;have b7:U%V<pw 4096:=Qy (Qi _ E) hV;have hfin:Hid (∀ (e:Ending) (w':World),(Below w.heap.size w w'/\∃ nq Aq kq cq nr Ar kr cr,e=.returned (.tuple #[.agg #[.bool nq,.slice Aq kq cq],.agg #[.bool nr,.slice Ar kr cr],.int .i64 0])/\Wd w' nq Aq kq cq (Qq za zb)/\Wd w' nr Ar kr cr (Qr za zb))->Ziq w za zb e w'):=λ_ _ h=>h;generalize Qq za zb=ZQ at *;generalize Qr za zb=ZR at *;have bl:sg na (U%V)=ZR:=by rw[O,hy];simp[sg]
 have be:sg (na != nb) (U/V)=ZQ:=I.symm;replace bl:=Zb bl;replace be:=Zb be;replace hy:=Zb hy;clear I O;go_in;go_wp2_with fail;refine(Zig ((((a8.alloc _).alloc _).alloc _).alloc _) ((((f.alloc _).alloc _).alloc _).alloc _) J.out).mono ?_;rintro e w1 ⟨rfl,o⟩;obtain⟨u,c5⟩:=Zdf o;have d0:w.heap.size+1+1+1<w1.heap.size:=by have:=o.size;simp at this;omega
 have C:Below w.heap.size w w1:=(a1.out _ _ _ _).trans (o.mono Gg);have g0:w1.cell? ⟨w.heap.size,0,none⟩=some (.bool na):=by simp[u,go_sem]
 have g1:w1.cell? ⟨w.heap.size,1,none⟩=some (.slice A n c):=by simp[u,go_sem]
 have g2:w1.cell? ⟨w.heap.size+1,0,none⟩=some (.bool nb):=by simp[u,go_sem]
 have g3:w1.cell? ⟨w.heap.size+1,1,none⟩=some (.slice B m d):=by simp[u,go_sem]
 have bq:Hid (Blk w1 (w.heap.size+1+1) 30 #[.bool false,.slice none 0 0]):=by
  refine Zc o (Blk.alloc ?_ _);exact Ev
 have br:Hid (Blk w1 (w.heap.size+1+1+1) 30 #[.bool false,.slice none 0 0]):=by
  refine Zc o ?_;exact IF
 have a6:=a8.below C;have a4:=f.below C;clear u c5;go_wp2_with fail;refine(Zif _ _ _ _ _ _ U V _ a6 a4 Gk E).mono ?_;rintro e w2 ⟨A2,n2,c2,B2,m2,d2,rfl,a5,aP,aa⟩;have a9:Below w.heap.size w w2:=Gs C aa;have a7:=aP.2.2.1;have c7:=aP.2.1;unfold maxLen at a7;have d4:n2<=4096:=by rw[<- a5.len];exact(Zo _ _).2 hxs
 have c8:m2<=4096:=by rw[<- aP.len];exact(Zo _ _).2 b7
 have b9:=Za aa g0;have c0:=Za aa g1;have c1:=Za aa g2;have c6:=Za aa g3;have b0:Hid (Blk _ _ _ _):=Zc aa bq.out;have b6:Hid (Blk _ _ _ _):=Zc aa br.out
 have b8:m2=0:=by
  exact Iu
 subst b8;go_wp2_with fail;refine(Zb8 _ _ _ _ _ _ a5 Gk).mono ?_;rintro e w3 ⟨ae,av,A3,n3,c3,a3,rfl,bV⟩;have aO:Below w.heap.size w w3:=Gs a9 ae;have eW:=Za ae b9;have gz:=Za ae c0;have eY:=Za ae c1;have gD:=Za ae c6;have fV:Hid (Blk _ _ _ _):=Zc ae b0.out;have fY:Hid (Blk _ _ _ _):=Zc ae b6.out;change ResP w3 (sg (na != nb) _) av A3 n3 c3 a3 at bV;exact Ex
theorem Zno(na nb:Bool)(A B:Option Addr)(n c m d:Nat)(za zb:Int)(w:World)(ha:Wd w na A n c za)(hb:Wd w nb B m d zb)(h0:zb≠0)(hy:0<za.natAbs%zb.natAbs)(hs:na=nb) :
    Calls Tryz.prog 119 #[.agg #[.bool na,.slice A n c],.agg #[.bool nb,.slice B m d]] w (Ziq w za zb):=by
 have a7:=ha.lim;have f:=hb.lim;have hn:=ha.2.1;have hm:=hb.2.1;have b0:=f.2.2.1;have d6:=f.2.1;unfold maxLen at b0;have a1:∀ X Y Z V:Obj,Below w.heap.size w ((((w.alloc X).alloc Y).alloc Z).alloc V):=λX Y Z V=>((((Qj w.heap.size w).alloc (Qa _) _).alloc Gh _).alloc Gg _).alloc Gg _;have a1:=Zb a1;have J:Hid ((okW na (digits za.natAbs) && okW nb (digits zb.natAbs))=true):=by unfold Hid;rw[ha.ok,hb.ok];rfl
 have a0:=ha.sgEq;have a2:=hb.sgEq;rw[Zh]at a0 a2;have hU:=ha.small;have hV:=hb.small;clear ha hb;have E:0<zb.natAbs:=Gk;have d3:0<m:=by rw[<- f.len];exact length_digits_pos.2 E
 have c9:((m:Int) == 0)=false:=by simp;omega
 obtain⟨I,O⟩:=Zg2 na nb za.natAbs zb.natAbs E (Or.inr hs);rw[a0,a2]at I O;clear a0 a2 h0;generalize za.natAbs=U at *;generalize zb.natAbs=V at *;have hxs:U/V<pw 4096:=Qe (Qs _ _) hU;have b6:U%V<pw 4096:=Qy (Qi _ E) hV;have hfin:Hid (∀ (e:Ending) (w':World),(Below w.heap.size w w'/\∃ nq Aq kq cq nr Ar kr cr,e=.returned (.tuple #[.agg #[.bool nq,.slice Aq kq cq],.agg #[.bool nr,.slice Ar kr cr],.int .i64 0])/\Wd w' nq Aq kq cq (Qq za zb)/\Wd w' nr Ar kr cr (Qr za zb))->Ziq w za zb e w'):=λ_ _ h=>h;generalize Qq za zb=ZQ at *;generalize Qr za zb=ZR at *;subst hs;have c1:(na != na)=false:=Gh;have bl:sg na (U%V)=ZR:=O.symm;have be:sg false (U/V)=ZQ:=by rw[I,c1]
 replace bl:=Zb bl;replace be:=Zb be;clear I O;go_in;go_wp2_with fail;refine(Zig ((((a7.alloc _).alloc _).alloc _).alloc _) ((((f.alloc _).alloc _).alloc _).alloc _) J.out).mono ?_;rintro e w1 ⟨rfl,o⟩;obtain⟨u,c0⟩:=Zdf o;have d0:w.heap.size+1+1+1<w1.heap.size:=by have:=o.size;simp at this;omega
 have C:Below w.heap.size w w1:=(a1.out _ _ _ _).trans (o.mono Gg);have g0:w1.cell? ⟨w.heap.size,0,none⟩=some (.bool na):=by simp[u,go_sem]
 have g1:w1.cell? ⟨w.heap.size,1,none⟩=some (.slice A n c):=by simp[u,go_sem]
 have g2:w1.cell? ⟨w.heap.size+1,0,none⟩=some (.bool na):=by simp[u,go_sem]
 have g3:w1.cell? ⟨w.heap.size+1,1,none⟩=some (.slice B m d):=by simp[u,go_sem]
 have bq:Hid (Blk w1 (w.heap.size+1+1) 30 #[.bool false,.slice none 0 0]):=by
  refine Zc o (Blk.alloc ?_ _);exact IE
 have br:Hid (Blk w1 (w.heap.size+1+1+1) 30 #[.bool false,.slice none 0 0]):=by
  refine Zc o ?_;exact Cy
 have a5:=a7.below C;have a3:=f.below C;clear u c0;go_wp2_with fail;refine(Zif _ _ _ _ _ _ U V _ a5 a3 Gk E).mono ?_;rintro e w2 ⟨A2,n2,c2,B2,m2,d2,rfl,a4,aP,aa⟩;have a8:Below w.heap.size w w2:=Gs C aa;have a6:=aP.2.2.1;have c7:=aP.2.1;unfold maxLen at a6;have d5:n2<=4096:=by rw[<- a4.len];exact(Zo _ _).2 hxs
 have c8:m2<=4096:=by rw[<- aP.len];exact(Zo _ _).2 b6
 have b7:=Za aa g0;have b8:=Za aa g1;have b9:=Za aa g2;have c6:=Za aa g3;have a9:Hid (Blk _ _ _ _):=Zc aa bq.out;have b5:Hid (Blk _ _ _ _):=Zc aa br.out;have d4:0<m2:=by rw[<- aP.len];exact length_digits_pos.2 hy
 go_wp2_with fail;refine(Zb8 _ _ _ _ _ _ a4 Gk).mono ?_;rintro e w3 ⟨ae,av,A3,n3,c3,c5,rfl,bV⟩;have aO:Below w.heap.size w w3:=Gs a8 ae;have eW:=Za ae b7;have gz:=Za ae b8;have eY:=Za ae b9;have gD:=Za ae c6;have fV:Hid (Blk _ _ _ _):=Zc ae a9.out;have fY:Hid (Blk _ _ _ _):=Zc ae b5.out;exact Ex
theorem Zmb(na nb:Bool)(A B:Option Addr)(n c m d:Nat)(za zb:Int)(w:World)(ha:Wd w na A n c za)(hb:Wd w nb B m d zb)(h0:zb≠0)(hy:0<za.natAbs%zb.natAbs)(hs:na≠nb) :
    Calls Tryz.prog 119 #[.agg #[.bool na,.slice A n c],.agg #[.bool nb,.slice B m d]] w (Ziq w za zb):=by
 have i6:=ha.lim;have a9:=hb.lim;have hn:=ha.2.1;have hm:=hb.2.1;have m0:=a9.2.2.1;have p5:=a9.2.1;unfold maxLen at m0;have f5:∀ X Y Z V:Obj,Below w.heap.size w ((((w.alloc X).alloc Y).alloc Z).alloc V):=λX Y Z V=>((((Qj w.heap.size w).alloc (Qa _) _).alloc Gh _).alloc Gg _).alloc Gg _;have f5:=Zb f5;have f0:Hid ((okW na (digits za.natAbs) && okW nb (digits zb.natAbs))=true):=by unfold Hid;rw[ha.ok,hb.ok];rfl
 have f4:=ha.sgEq;have a7:=hb.sgEq;rw[Zh]at f4 a7;have hU:=ha.small;have hV:=hb.small;clear ha hb;have bW:0<zb.natAbs:=Gk;have p8:0<m:=by rw[<- a9.len];exact length_digits_pos.2 bW
 have p4:((m:Int) == 0)=false:=by simp;omega
 obtain⟨d7,d9⟩:=Zmp na nb za.natAbs zb.natAbs bW hy hs;rw[f4,a7]at d7 d9;clear f4 h0;replace a7:=Zb a7;generalize za.natAbs=U at *;generalize zb.natAbs=V at *;have hxs:U/V<pw 4096:=Qe (Qs _ _) hU;have m3:U%V<pw 4096:=Qy (Qi _ bW) hV
 have g6:(sg (na != nb) (U/V+1)).natAbs<pw 4096:=by
  exact Fk
 have h3:(sg nb (V-U%V)).natAbs<pw 4096:=by rw[Z0];omega
 rw[<- d7]at g6;rw[<- d9]at h3;have hfin:Hid (∀ (e:Ending) (w':World),(Below w.heap.size w w'/\∃ nq Aq kq cq nr Ar kr cr,e=.returned (.tuple #[.agg #[.bool nq,.slice Aq kq cq],.agg #[.bool nr,.slice Ar kr cr],.int .i64 0])/\Wd w' nq Aq kq cq (Qq za zb)/\Wd w' nr Ar kr cr (Qr za zb))->Ziq w za zb e w'):=λ_ _ h=>h;generalize Qq za zb=ZQ at *;generalize Qr za zb=ZR at *;have b6:(na != nb)=true:=by simpa using hs
 have q8:(na == nb)=false:=by simpa using hs
 have l7:Hid (sg true (U/V)+-1=ZQ):=by unfold Hid;rw[d7,b6];simp only[sg,if_true];omega
 have j4:Hid (sg na (U%V)+zb=ZR):=by
  unfold Hid;rw[d9,<- a7.out];have:=Qi U bW;cases na <;> cases nb <;> simp[sg]at hs ⊢ <;> omega
 replace b6:=Zb b6;clear d7 d9;go_in;go_wp2_with fail;refine(Zig ((((i6.alloc _).alloc _).alloc _).alloc _) ((((a9.alloc _).alloc _).alloc _).alloc _) f0.out).mono ?_;rintro e w1 ⟨rfl,b9⟩;obtain⟨c5,o5⟩:=Zdf b9;have q6:w.heap.size+1+1+1<w1.heap.size:=by have:=b9.size;simp at this;omega
 have c8:Below w.heap.size w w1:=(f5.out _ _ _ _).trans (b9.mono Gg);have g0:w1.cell? ⟨w.heap.size,0,none⟩=some (.bool na):=by simp[c5,go_sem]
 have g1:w1.cell? ⟨w.heap.size,1,none⟩=some (.slice A n c):=by simp[c5,go_sem]
 have g2:w1.cell? ⟨w.heap.size+1,0,none⟩=some (.bool nb):=by simp[c5,go_sem]
 have g3:w1.cell? ⟨w.heap.size+1,1,none⟩=some (.slice B m d):=by simp[c5,go_sem]
 have bq:Hid (Blk w1 (w.heap.size+1+1) 30 #[.bool false,.slice none 0 0]):=by
  refine Zc b9 (Blk.alloc ?_ _);exact Ev
 have br:Hid (Blk w1 (w.heap.size+1+1+1) 30 #[.bool false,.slice none 0 0]):=by
  refine Zc b9 ?_;exact IF
 have i1:=i6.below c8;have h8:=a9.below c8;clear c5 o5;go_wp2_with fail;refine(Zif _ _ _ _ _ _ U V _ i1 h8 Gk bW).mono ?_;rintro e w2 ⟨A2,n2,c2,B2,m2,d2,rfl,h9,c0,a1⟩;have h7:Below w.heap.size w w2:=Gs c8 a1;have i4:=c0.2.2.1;have o8:=c0.2.1;unfold maxLen at i4;have q7:n2<=4096:=by rw[<- h9.len];exact(Zo _ _).2 hxs
 have o9:m2<=4096:=by rw[<- c0.len];exact(Zo _ _).2 m3
 have m7:=Za a1 g0;have o2:=Za a1 g1;have o3:=Za a1 g2;have k2:=Za a1 g3;have n0:Hid (Blk _ _ _ _):=Zc a1 bq.out;have k8:Hid (Blk _ _ _ _):=Zc a1 br.out;have q0:0<m2:=by rw[<- c0.len];exact length_digits_pos.2 hy
 go_wp2_with fail;refine(Zb8 _ _ _ _ _ _ h9 Gk).mono ?_;rintro e w3 ⟨J,e9,A3,n3,c3,k4,rfl,f6⟩;have g5:Below w.heap.size w w3:=Gs h7 J;have i7:=Za J m7;have n8:=Za J o2;have f8:=Za J o3;have m8:=Za J k2;have l0:Hid (Blk _ _ _ _):=Zc J n0.out;have k9:Hid (Blk _ _ _ _):=Zc J k8.out;rw[Zh]at f6;rcases f6 with ⟨-,rfl,k0⟩|⟨a3,-⟩
 case inr =>
  exfalso;rw[Z0]at a3;omega
 have d6:Below w3.heap.size w3 (w3.alloc (.cells #[.bool e9,.slice A3 n3 c3] 30)):=(Qj _ _).alloc (Qa _) _;have bp:=Blk.new w3 30 #[.bool e9,.slice A3 n3 c3];have p6:w.heap.size+1+1+1<w3.heap.size:=by have:=a1.size;have:=J.size;omega
 have l8:=Za d6 i7;have l3:=Za d6 f8;go_wp2_with fail;refine(Zb8 _ _ _ _ _ _ ((c0.below J).below d6) Gk).mono ?_;rintro e w4 ⟨b5,a6,A4,n4,c4,m6,rfl,j0⟩;have a4:Below w3.heap.size w3 w4:=d6.trans (b5.mono Gh);have l4:=Zb (Zc b5 bp);have o7:w3.heap.size<w4.heap.size:=by have:=b5.size;simp at this;omega
 have h4:Below w.heap.size w w4:=Gs g5 a4;have k7:=Za a4 i7;have k3:=Za a4 n8;have l2:=Za a4 f8;have l5:=Za a4 m8;have j8:Hid (Blk _ _ _ _):=Zc a4 l0.out;have j9:Hid (Blk _ _ _ _):=Zc a4 k9.out;rw[Zh]at j0;rcases j0 with ⟨-,rfl,m9⟩|⟨a3,-⟩
 case inr =>
  exfalso;rw[Z0]at a3;omega
 have k5:=k0.below a4;have E:Below w4.heap.size w4 (w4.alloc (.cells #[.bool a6,.slice A4 n4 c4] 30)):=(Qj _ _).alloc (Qa _) _;have bs:=Blk.new w4 30 #[.bool a6,.slice A4 n4 c4];have b0:=Gm E l4;have f3:=Gs h4 E;have p0:=b0.out.cell 0;have p1:=b0.out.cell 1;have p2:=b0.out.frozen 0;have p3:=b0.out.frozen 1;simp at p0 p1;replace bs:=Zb bs;clear l8 l3;have j3:=Za E k7;have j6:=Za E k3;have g4:=Za E l2;have i5:=Za E l5;have m4:Hid (Blk _ _ _ _):=Zc E j8.out;have j7:Hid (Blk _ _ _ _):=Zc E j9.out;have o0:=k5.below E;have l9:=m9.below E;go_wp2_with fail;generalize hw5:w4.alloc _=w5 at *;have g8:w5.heap.size=w4.heap.size+1:=by rw[<- hw5];simp
 replace g8:=Zb g8;clear hw5;have s0:=bs.out.cell 0;have s1:=bs.out.cell 1;have s2:=bs.out.frozen 0;have s3:=bs.out.frozen 1;simp at s0 s1
 go_region_with (first
  | (go_at_call 63;refine(Ze7 (-1) _ Gk Gk).mono ?_;rintro e w6 ⟨m1,o6,A6,n6,c6,rfl,d0⟩;have u:=Zq m1;have u0:=Za u p0;have u1:=Za u p1;have u2:=Zl u p0 p2;have u3:=Zl u p1 p3;have e5:=o0.below u)
  | (go_at_call 152;refine(Zo9 _ _ _ _ _ _ _ _ _ _ _ e5.lim d0.lim e5.2.1 d0.2.1).mono ?_;rintro e w7 ⟨b8,f,A7,n7,c7,l1,rfl,j2⟩;have v0:=Za b8 u0;have v1:=Za b8 u1;have v2:=Zl b8 u0 u2;have v3:=Zl b8 u1 u3))
 all_goals
  have e1:=e5.sgEq;have e2:=d0.sgEq;rw[Zh]at e1 e2;rw[e1,e2,l7.out]at j2;rcases j2 with ⟨-,rfl,e0⟩|⟨a3,-⟩
  case inr=>exact absurd g6 Gk
  clear e1 e2 e5 d0;have o:Below w5.heap.size w5 w7:=Gs u b8;have i2:Hid (Blk _ _ _ _):=Zc o m4.out;have f7:Hid (Blk _ _ _ _):=Zc o j7.out;have e3:Hid (Blk _ _ _ _):=Zc o b0.out;have i3:Hid (Blk _ _ _ _):=Zc o bs.out;have g9:=Za o g4;have i8:=Za o i5;have d5:=l9.below o;have i0:=((a9.below f3)).below o;have n1:=Gs f3 o;clear u0 u1 u2 u3 s0 s1 s2 s3 p0 p1 p2 p3 j3 j6 g4 i5
  go_upto_region 10 with fail
  generalize hw8:(w7.setCell ⟨w3.heap.size,0,none⟩ (.bool f)).setCell ⟨w3.heap.size,1,none⟩ (.slice A7 n7 c7)=w8;have l6:Hid (Blk w8 (w.heap.size+1+1) 30 #[.bool false,.slice none 0 0]):=by rw[<- hw8];exact(i2.out.far Gf _).far Gf _
  have m5:Hid (Blk w8 (w.heap.size+1+1+1) 30 #[.bool false,.slice none 0 0]):=by rw[<- hw8];exact(f7.out.far Gf _).far Gf _
  have o1:Hid (Blk w8 w3.heap.size 30 #[.bool f,.slice A7 n7 c7]):=by rw[<- hw8];exact(e3.out.set_ 0 _).set_ 1 _
  have d4:Hid (Blk w8 w4.heap.size 30 #[.bool a6,.slice A4 n4 c4]):=by rw[<- hw8];exact(i3.out.far Gf _).far Gf _
  have p7:w8.cell? ⟨w.heap.size+1,0,none⟩=some (.bool nb):=by rw[<- hw8];exact(Qc _ _ _ _ Gf).trans ((Qc _ _ _ _ Gf).trans g9)
  have q5:w8.cell? ⟨w.heap.size+1,1,none⟩=some (.slice B m d):=by rw[<- hw8];exact(Qc _ _ _ _ Gf).trans ((Qc _ _ _ _ Gf).trans i8)
  have O:∀ (A:Option Addr) (n c:Nat) (l:List Nat),Lim w7 A n c l->Lim w8 A n c l:=λA n c l h=>by
   rw[<- hw8];exact Lim.set_box (Lim.set_box h e3.out (NoLimb.box _ _ _ _) 0 _) (e3.out.set_ 0 _) (NoLimb.box _ _ _ _) 1 _
  have f9:Wd w8 f A7 n7 c7 ZQ:=⟨e0.1,e0.2.1,O _ _ _ _ e0.2.2⟩;have d8:Wd w8 a6 A4 n4 c4 (sg na (U%V)):=⟨d5.1,d5.2.1,O _ _ _ _ d5.2.2⟩;have h6:=O _ _ _ _ i0;have i9:Below w.heap.size w w8:=by rw[<- hw8];exact(n1.setCell (p:=⟨w3.heap.size,0,none⟩) (by simp only[];omega) _).setCell (p:=⟨w3.heap.size,1,none⟩) (by simp only[];omega) _
  have p9:Hid (w4.heap.size<w8.heap.size):=d4.out.lt;have s0:=d4.out.cell 0;have s1:=d4.out.cell 1;simp at s0 s1;clear v0 v1 v2 v3 O hw8 i2 f7 e3 i3 g9 i8 e0 d5;go_wp2_with fail;refine(Zo9 _ _ _ _ _ _ _ _ _ _ _ d8.lim h6 d8.2.1 hm).mono ?_;rintro e w9 ⟨a8,I,A9,n9,c9,n5,rfl,h5⟩;have e1:=d8.sgEq;rw[Zh]at e1;rw[e1,a7.out,j4.out]at h5;rcases h5 with ⟨-,rfl,e4⟩|⟨a3,-⟩
  case inr=>exact absurd h3 Gk
  clear e1;have j5:Hid (Blk _ _ _ _):=Zc a8 l6.out;have k1:Hid (Blk _ _ _ _):=Zc a8 m5.out;have k6:Hid (Blk _ _ _ _):=Zc a8 o1.out;have a5:Hid (Blk _ _ _ _):=Zc a8 d4.out;have d3:=f9.below a8;have o4:=Gs i9 a8;have s0:=a5.out.cell 0;have s1:=a5.out.cell 1;have s2:=a5.out.frozen 0;have s3:=a5.out.frozen 1;simp at s0 s1;go_wp2_with fail;generalize hw10:(w9.setCell ⟨w4.heap.size,0,none⟩ (.bool I)).setCell ⟨w4.heap.size,1,none⟩ (.slice A9 n9 c9)=w10;have C:Hid (Blk w10 (w.heap.size+1+1) 30 #[.bool false,.slice none 0 0]):=by rw[<- hw10];exact(j5.out.far Gf _).far Gf _
  have a2:Hid (Blk w10 (w.heap.size+1+1+1) 30 #[.bool false,.slice none 0 0]):=by rw[<- hw10];exact(k1.out.far Gf _).far Gf _
  have e7:Hid (Blk w10 w3.heap.size 30 #[.bool f,.slice A7 n7 c7]):=by rw[<- hw10];exact(k6.out.far Gf _).far Gf _
  have e8:Hid (Blk w10 w4.heap.size 30 #[.bool I,.slice A9 n9 c9]):=by rw[<- hw10];exact(a5.out.set_ 0 _).set_ 1 _
  have a0:∀ (A:Option Addr) (n c:Nat) (l:List Nat),Lim w9 A n c l->Lim w10 A n c l:=λA n c l h=>by
   rw[<- hw10];exact Lim.set_box (Lim.set_box h a5.out (NoLimb.box _ _ _ _) 0 _) (a5.out.set_ 0 _) (NoLimb.box _ _ _ _) 1 _
  have c1:Wd w10 f A7 n7 c7 ZQ:=⟨d3.1,d3.2.1,a0 _ _ _ _ d3.2.2⟩;have b7:Wd w10 I A9 n9 c9 ZR:=⟨e4.1,e4.2.1,a0 _ _ _ _ e4.2.2⟩;have g7:Below w.heap.size w w10:=by rw[<- hw10];exact(o4.setCell (p:=⟨w4.heap.size,0,none⟩) (by simp only[];omega) _).setCell (p:=⟨w4.heap.size,1,none⟩) (by simp only[];omega) _
  clear a0 hw10 s0 s1 s2 s3 f9 d8 d3 e4;have p0:=e7.out.cell 0;have p1:=e7.out.cell 1;have s0:=e8.out.cell 0;have s1:=e8.out.cell 1;simp at p0 p1 s0 s1;have q1:=C.out.cell 0;have q2:=C.out.cell 1;have q3:=C.out.frozen 0;have q4:=C.out.frozen 1;have r1:=a2.out.cell 0;have r2:=a2.out.cell 1;have r3:=a2.out.frozen 0;have r4:=a2.out.frozen 1;simp at q1 q2 r1 r2
  go_region
  go_wp2
  generalize hw12:((((w10.setCell ⟨w.heap.size+1+1,0,none⟩ (.bool f)).setCell ⟨w.heap.size+1+1,1,none⟩ (.slice A7 n7 c7)).setCell ⟨w.heap.size+1+1+1,0,none⟩ (.bool I)).setCell ⟨w.heap.size+1+1+1,1,none⟩ (.slice A9 n9 c9)).drew=w12;have b1:=(C.out.set_ 0 (.bool f)).set_ 1 (.slice A7 n7 c7);have b2:=(a2.out.far (p:=⟨w.heap.size+1+1,0,none⟩) Gf (.bool f)).far (p:=⟨w.heap.size+1+1,1,none⟩) Gf (.slice A7 n7 c7);have b3:Blk w12 (w.heap.size+1+1) 30 #[.bool f,.slice A7 n7 c7]:=by rw[<- hw12];exact(b1.far Gf _).far Gf _
  have b4:Blk w12 (w.heap.size+1+1+1) 30 #[.bool I,.slice A9 n9 c9]:=by rw[<- hw12];exact(b2.set_ 0 _).set_ 1 _
  have j1:Below w.heap.size w w12:=by rw[<- hw12];exact Zg ((((g7.setCell (p:=⟨w.heap.size+1+1,0,none⟩) Gf _).setCell (p:=⟨w.heap.size+1+1,1,none⟩) Gf _).setCell (p:=⟨w.heap.size+1+1+1,0,none⟩) Gf _).setCell (p:=⟨w.heap.size+1+1+1,1,none⟩) Gf _) 1
  have e6:∀ (A:Option Addr) (n c:Nat) (l:List Nat),Lim w10 A n c l->Lim w12 A n c l:=λA n c l h=>by
   rw[<- hw12];exact Lim.set_box (Lim.set_box (Lim.set_box (Lim.set_box h C.out (NoLimb.box _ _ _ _) 0 _) (C.out.set_ 0 _) (NoLimb.box _ _ _ _) 1 _) b2 (NoLimb.box _ _ _ _) 0 _) (b2.set_ 0 _) (NoLimb.box _ _ _ _) 1 _
  have t1:=b3.cell 0;have t2:=b3.cell 1;have t3:=b4.cell 0;have t4:=b4.cell 1;simp at t1 t2 t3 t4;refine bodyPost_ret (v:=.tuple #[.agg #[.bool f,.slice A7 n7 c7],.agg #[.bool I,.slice A9 n9 c9],.int .i64 0]) (by simp[results,Tryz.results119,go_sem,t1,t2,t3,t4]) rfl ?_;exact hfin.out _ _ ⟨j1,_,_,_,_,_,_,_,_,rfl,⟨c1.1,c1.2.1,e6 _ _ _ _ c1.2.2⟩,⟨b7.1,b7.2.1,e6 _ _ _ _ b7.2.2⟩⟩
theorem Zk6(na nb:Bool)(A B:Option Addr)(n c m d:Nat)(za zb:Int)(w:World)(ha:Wd w na A n c za)(hb:Wd w nb B m d zb)(h0:zb≠0) :
    Calls Tryz.prog 119 #[.agg #[.bool na,.slice A n c],.agg #[.bool nb,.slice B m d]] w (Ziq w za zb):=by
 rcases Qb (za.natAbs%zb.natAbs)with hy|hy;exact Zn1 na nb A B n c m d za zb w ha hb h0 hy;by_cases hs:na=nb;exact Zno na nb A B n c m d za zb w ha hb h0 hy hs;exact Zmb na nb A B n c m d za zb w ha hb h0 hy hs
