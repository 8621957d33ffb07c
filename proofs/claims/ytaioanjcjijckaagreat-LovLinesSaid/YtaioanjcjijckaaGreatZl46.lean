/- Arguments opened: a fraction. Arguments opened: a row of -/
import Derived.OpenShut
import Derived.Carry
import Derived.Test.YtaioanjcjijckaaGreatZl45
set_option maxRecDepth 100000
set_option linter.unusedSimpArgs false
set_option linter.unusedVariables false
namespace Go.Proofs.YtaioanjcjijckaaGreat
open Go.ChangeShapes Go.WideShapes Go.Deep Go.RowKit
theorem Zp2 {z : Int} (h : (Lit.int .u32 z).wf = true) : 0 <= z /\ z <= 4294967295:=by
 simp only [Lit.wf,Bool.and_eq_true,decide_eq_true_eq] at h;exact h
section
variable {H : Type} {enc : TypeId × Value -> H} {w : World} {base : Nat} {spare : Nat -> Bool} {held : Bool}
theorem Zqi {fuel : Nat} {cs : List Value} {x : DataW H × List MemPlace} (h : DataW.trod enc Tryz.prog w base spare held fuel 25 cs = some x) : ∃ (A : Option Addr) (n c : Nat) (l : List Nat),cs = [.slice A n c] /\ Lim w A n c l:=by
 rcases open_ints Tryz.underlying25 Tryz.underlying147 (by kernel_rfl) h with ⟨rfl,_⟩ | ⟨a,len,cap,zs,rfl,_,hl,hm,hz,_,hcell,hwf⟩
 ·exact ⟨none,0,0,[],rfl,Lim.nil _ _ _ (Nat.zero_le _)⟩
 ·have hlz : len <= zs.length:=by rw [hz];split <;> omega
  refine ⟨some a,len,cap,(zs.take len).map Int.toNat,rfl,by simp;omega,hl,hm,fun v hv=>?_,fun hn=>?_⟩
  ·obtain ⟨z,hz1,rfl⟩:=List.mem_map.1 hv
   have:=Zp2 (hwf z (List.mem_of_mem_take hz1));omega
  ·have h0:=hcell 0 (by omega)
   have hp:=Zgc h0
   obtain ⟨b,o,s⟩ : ∃ b o,a = ⟨b,o,none⟩:=by
    obtain ⟨b,o,s⟩:=a;refine ⟨b,o,?_⟩;unfold Addr.add at hp
    split at hp <;> simp_all
   subst s;refine ⟨b,o,rfl,fun k hk=>?_⟩;have hc:=hcell k (by omega);rw [Zg] at hc;rw [hc]
   have hkz : k < zs.length:=by omega
   have hw:=Zp2 (hwf zs[k] (List.getElem_mem hkz));rw [List.getElem?_map,List.getElem?_take,if_pos hk,List.getElem?_eq_getElem hkz,List.getD_eq_getElem?_getD,List.getElem?_eq_getElem hkz]
   simp [limb]
   omega
theorem Zig {fuel : Nat} {cs : List Value} {x : DataW H × List MemPlace} (h : DataW.trod enc Tryz.prog w base spare held fuel 27 cs = some x) : ∃ (na : Bool) (A : Option Addr) (n c : Nat) (l : List Nat),cs = [.bool na,.slice A n c] /\ Lim w A n c l:=by
 obtain ⟨xs,n',_,_,hl,hxl,hfl⟩:=DataW.trod_struct Tryz.underlying27 h
 have c2 : Tryz.prog.cellsOf 27 = 2:=by kernel_rfl
 have c0 : Tryz.prog.cellsOf 4 = 1:=by kernel_rfl
 have c1 : Tryz.prog.cellsOf 25 = 1:=by kernel_rfl
 rw [c2] at hl
 obtain ⟨x,y,rfl⟩ : ∃ x y,cs = [x,y]:=by
  match cs,hl with
  | [x,y],_=>exact ⟨x,y,rfl⟩
 have f0:=hfl 0 _ rfl;have f1:=hfl 1 _ rfl;simp only [List.getElem_toArray,List.getElem_cons_zero,List.getElem_cons_succ] at f0 f1;rw [c0] at f0;rw [c1] at f1;have g0 : xs[0]? = some (xs[0]'(by rw [hxl];decide)):=List.getElem?_eq_getElem _;have g1 : xs[1]? = some (xs[1]'(by rw [hxl];decide)):=List.getElem?_eq_getElem _;rw [g0] at f0;rw [g1] at f1;obtain ⟨b,e0,_⟩:=DataW.trod_bool Tryz.underlying4 f0;obtain ⟨A,n,c,l,e1,hL⟩:=Zqi f1
 simp at e0 e1
 subst e0 e1;exact ⟨b,A,n,c,l,rfl,hL⟩
theorem Zon {fuel : Nat} {cs : List Value} {x : DataW H × List MemPlace} (h : DataW.trod enc Tryz.prog w base spare held fuel 29 cs = some x) :
    ∃ (na nb : Bool) (A B : Option Addr) (n c m d : Nat) (la lb : List Nat),cs = [.bool na,.slice A n c,.bool nb,.slice B m d] /\ Lim w A n c la /\ Lim w B m d lb:=by
 obtain ⟨xs,n',_,_,hl,hxl,hfl⟩:=DataW.trod_struct Tryz.underlying29 h
 have c4 : Tryz.prog.cellsOf 29 = 4:=by kernel_rfl
 have c2 : Tryz.prog.cellsOf 27 = 2:=by kernel_rfl
 rw [c4] at hl
 obtain ⟨x,y,z,u,rfl⟩ : ∃ x y z u,cs = [x,y,z,u]:=by
  match cs,hl with
  | [x,y,z,u],_=>exact ⟨x,y,z,u,rfl⟩
 have f0:=hfl 0 _ rfl;have f1:=hfl 1 _ rfl;simp only [List.getElem_toArray,List.getElem_cons_zero,List.getElem_cons_succ] at f0 f1;rw [c2] at f0 f1;have g0 : xs[0]? = some (xs[0]'(by rw [hxl];decide)):=List.getElem?_eq_getElem _;have g1 : xs[1]? = some (xs[1]'(by rw [hxl];decide)):=List.getElem?_eq_getElem _;rw [g0] at f0;rw [g1] at f1;obtain ⟨na,A,n,c,la,e0,h0⟩:=Zig f0;obtain ⟨nb,B,m,d,lb,e1,h1⟩:=Zig f1
 simp at e0 e1
 obtain ⟨rfl,rfl⟩:=e0;obtain ⟨rfl,rfl⟩:=e1;exact ⟨na,nb,A,B,n,c,m,d,la,lb,rfl,h0,h1⟩
end
section
variable {H : Type} {enc : TypeId × Value -> H} {w : World} {base : Nat} {spare : Nat -> Bool} {held : Bool}
theorem Zoc {fuel : Nat} {cs : List Value} {x : DataW H × List MemPlace} (h : DataW.trod enc Tryz.prog w base spare held fuel 23 cs = some x) : ∃ (A : Option Addr) (n c : Nat) (es : List FX),cs = [.slice A n c] /\ FXL w A n c es:=by
 have c4 : Tryz.prog.cellsOf 29 = 4:=by kernel_rfl
 rcases open_slice Tryz.underlying23 h with ⟨hcs,_⟩ | ⟨a,n,c,m,f,D,Pl,hcs,_,hl,hm,hmm,_,hi⟩
 ·exact ⟨none,0,0,[],hcs,rfl,Nat.le_refl _,Nat.zero_le _,fun e he=>(by cases he),fun h=>absurd h (by omega)⟩
 ·have hlm : n <= m:=by rw [hmm];split <;> omega
  rw [c4] at hi
  obtain ⟨es,he1,he2⟩:=Zpw (fun i (e : FX)=>w.cell? (a.add (i * 4 + 0)) = some (.bool e.na) /\ w.cell? (a.add (i * 4 + 1)) = some (.slice e.A e.n e.c) /\ w.cell? (a.add (i * 4 + 2)) = some (.bool e.nb) /\ w.cell? (a.add (i * 4 + 3)) = some (.slice e.B e.m e.d) /\ e.in_ w) n (fun i hin=>by
   obtain ⟨cs',hc,ht⟩:=hi i (by omega);obtain ⟨na,nb,A,B,n1,c1,m1,d1,la,lb,rfl,h1,h2⟩:=Zon ht;obtain ⟨_,_,hat⟩:=World.cells?_some hc;have g0:=hat 0 (by simp);have g1:=hat 1 (by simp);have g2:=hat 2 (by simp);have g3:=hat 3 (by simp);rw [Go.Deep.add_add] at g0 g1 g2 g3
   exact ⟨⟨na,A,n1,c1,la,nb,B,m1,d1,lb⟩,by simpa using g0,by simpa using g1,by simpa using g2,by simpa using g3,h1,h2⟩)
  refine ⟨some a,n,c,es,hcs,he1,hl,hm,fun e he=>?_,fun hn=>?_⟩
  ·obtain ⟨k,hk,rfl⟩:=List.getElem_of_mem he
   exact (he2 k _ (List.getElem?_eq_getElem hk)).2.2.2.2
  ·obtain ⟨b,o,rfl⟩ : ∃ b o,a = ⟨b,o,none⟩:=by
     have h0:=he2 0 _ (List.getElem?_eq_getElem (by omega));have hp:=Zgc h0.1;obtain ⟨b,o,s⟩:=a;refine ⟨b,o,?_⟩;unfold Addr.add at hp
     split at hp <;> simp_all
   refine ⟨b,o,rfl,fun k e hk=>?_⟩;have h0:=he2 k e hk;rw [Zg,Zg,Zg,Zg] at h0;exact ⟨h0.1,by rw [Nat.add_assoc];exact h0.2.1,by rw [Nat.add_assoc];exact h0.2.2.1,by rw [Nat.add_assoc];exact h0.2.2.2.1⟩
theorem Zqp {fuel : Nat} {cs : List Value} {x : DataW H × List MemPlace} (h : DataW.trod enc Tryz.prog w base spare held fuel 22 cs = some x) : ∃ (A : Option Addr) (n c : Nat) (rs : List RX),cs = [.slice A n c] /\ MXL w A n c rs:=by
 have c1 : Tryz.prog.cellsOf 23 = 1:=by kernel_rfl
 rcases open_slice Tryz.underlying22 h with ⟨hcs,_⟩ | ⟨a,n,c,m,f,D,Pl,hcs,_,hl,hm,hmm,_,hi⟩
 ·exact ⟨none,0,0,[],hcs,rfl,Nat.le_refl _,Nat.zero_le _,fun e he=>(by cases he),fun h=>absurd h (by omega)⟩
 ·have hlm : n <= m:=by rw [hmm];split <;> omega
  rw [c1] at hi
  obtain ⟨rs,he1,he2⟩:=Zpw (fun i (r : RX)=>w.cell? (a.add i) = some (.slice r.A r.n r.c) /\ FXL w r.A r.n r.c r.es) n (fun i hin=>by
   obtain ⟨cs',hc,ht⟩:=hi i (by omega);obtain ⟨A,n1,c1,es,rfl,h1⟩:=Zoc ht;obtain ⟨_,_,hat⟩:=World.cells?_some hc;have g0:=hat 0 (by simp);rw [Go.Deep.add_add] at g0
   exact ⟨⟨A,n1,c1,es⟩,by simpa using g0,h1⟩)
  refine ⟨some a,n,c,rs,hcs,he1,hl,hm,fun r hr=>?_,fun hn=>?_⟩
  ·obtain ⟨k,hk,rfl⟩:=List.getElem_of_mem hr
   exact (he2 k _ (List.getElem?_eq_getElem hk)).2
  ·obtain ⟨b,o,rfl⟩ : ∃ b o,a = ⟨b,o,none⟩:=by
     have h0:=he2 0 _ (List.getElem?_eq_getElem (by omega));have hp:=Zgc h0.1;obtain ⟨b,o,s⟩:=a;refine ⟨b,o,?_⟩;unfold Addr.add at hp
     split at hp <;> simp_all
   refine ⟨b,o,rfl,fun k r hk=>?_⟩;have h0:=he2 k r hk;rw [Zg] at h0;exact h0.1
theorem Zr1 {r : Reach} {b0 : Nat} {v : Value} {d : DataW H} {p : List MemPlace} (hv : Value.okWide Tryz.prog w r b0 22 v) (h : DataW.Trod enc Tryz.prog w base spare held 22 v d p) :
    ∃ (A : Option Addr) (n c : Nat) (rs : List RX),v = .slice A n c /\ MXL w A n c rs:=by
 obtain ⟨A,n,c,rfl⟩:=okWide_slice Tryz.underlying22 hv;obtain ⟨fuel,hf⟩:=h;obtain ⟨A',n',c',rs,e,hM⟩:=Zqp hf
 simp [Value.cells] at e
 obtain ⟨rfl,rfl,rfl⟩:=e;exact ⟨_,_,_,rs,rfl,hM⟩
end
section
variable {H : Type} {enc : TypeId × Value -> H} {w : World} {base : Nat} {spare : Nat -> Bool} {held : Bool}
theorem Zfy {fuel : Nat} {v : Value} {x : DataW H × List MemPlace} (h : DataW.trod enc Tryz.prog w base spare held fuel 2 [v] = some x) : ∃ z : Int,v = .int .i64 z:=by
 obtain ⟨z,e,-,-⟩:=DataW.trod_int Tryz.underlying2 h
 cases e
 exact ⟨z,rfl⟩
theorem Zhz {fuel : Nat} {cs : List Value} {x : DataW H × List MemPlace} (h : DataW.trod enc Tryz.prog w base spare held fuel 44 cs = some x) : ∃ a b c : Int,cs = [.int .i64 a,.int .i64 b,.int .i64 c]:=by
 obtain ⟨xs,n',_,_,hl,hxl,hfl⟩:=DataW.trod_array Tryz.underlying44 h
 have c3 : Tryz.prog.cellsOf 44 = 3:=by kernel_rfl
 have c1 : Tryz.prog.cellsOf 2 = 1:=by kernel_rfl
 rw [c3] at hl
 obtain ⟨x,y,z,rfl⟩ : ∃ x y z,cs = [x,y,z]:=by
  match cs,hl with
  | [x,y,z],_=>exact ⟨x,y,z,rfl⟩
 have f0:=hfl 0 (by decide);have f1:=hfl 1 (by decide);have f2:=hfl 2 (by decide);rw [c1] at f0 f1 f2;have g0 : xs[0]? = some (xs[0]'(by rw [hxl];decide)):=List.getElem?_eq_getElem _;have g1 : xs[1]? = some (xs[1]'(by rw [hxl];decide)):=List.getElem?_eq_getElem _;have g2 : xs[2]? = some (xs[2]'(by rw [hxl];decide)):=List.getElem?_eq_getElem _;rw [g0] at f0;rw [g1] at f1;rw [g2] at f2;obtain ⟨a,rfl⟩:=Zfy f0;obtain ⟨b,rfl⟩:=Zfy f1;obtain ⟨c,rfl⟩:=Zfy f2;exact ⟨a,b,c,rfl⟩
theorem Zne {fuel : Nat} {cs : List Value} {x : DataW H × List MemPlace} (h : DataW.trod enc Tryz.prog w base spare held fuel 46 cs = some x) :
    ∃ s : St,cs = [.int .i64 s.t,.int .i64 s.p0,.int .i64 s.p1,.int .i64 s.p2,.int .i64 s.v0,.int .i64 s.v1,.int .i64 s.v2]:=by
 obtain ⟨xs,n',_,_,hl,hxl,hfl⟩:=DataW.trod_struct Tryz.underlying46 h
 have c7 : Tryz.prog.cellsOf 46 = 7:=by kernel_rfl
 have c3 : Tryz.prog.cellsOf 44 = 3:=by kernel_rfl
 have c1 : Tryz.prog.cellsOf 2 = 1:=by kernel_rfl
 rw [c7] at hl
 obtain ⟨t,a,b,c,d,e,f,rfl⟩ : ∃ t a b c d e f,cs = [t,a,b,c,d,e,f]:=by
  match cs,hl with
  | [t,a,b,c,d,e,f],_=>exact ⟨t,a,b,c,d,e,f,rfl⟩
 have f0:=hfl 0 _ rfl;have f1:=hfl 1 _ rfl;have f2:=hfl 2 _ rfl;simp only [List.getElem_toArray,List.getElem_cons_zero,List.getElem_cons_succ] at f0 f1 f2;rw [c1] at f0;rw [c3] at f1 f2;have g0 : xs[0]? = some (xs[0]'(by rw [hxl];decide)):=List.getElem?_eq_getElem _;have g1 : xs[1]? = some (xs[1]'(by rw [hxl];decide)):=List.getElem?_eq_getElem _;have g2 : xs[2]? = some (xs[2]'(by rw [hxl];decide)):=List.getElem?_eq_getElem _;rw [g0] at f0;rw [g1] at f1;rw [g2] at f2;obtain ⟨z0,rfl⟩:=Zfy f0;obtain ⟨z1,z2,z3,e1⟩:=Zhz f1;obtain ⟨z4,z5,z6,e2⟩:=Zhz f2
 simp at e1 e2
 obtain ⟨rfl,rfl,rfl⟩:=e1;obtain ⟨rfl,rfl,rfl⟩:=e2;exact ⟨⟨z0,z1,z2,z3,z4,z5,z6⟩,rfl⟩
theorem Zpi {r : Reach} {b0 : Nat} {v : Value} {d : DataW H} {p : List MemPlace} (hv : Value.okWide Tryz.prog w r b0 46 v) (h : DataW.Trod enc Tryz.prog w base spare held 46 v d p) :
    ∃ s : St,v = .agg #[.int .i64 s.t,.int .i64 s.p0,.int .i64 s.p1,.int .i64 s.p2,.int .i64 s.v0,.int .i64 s.v1,.int .i64 s.v2]:=by
 obtain ⟨cs,rfl,hsz⟩:=okWide_struct Tryz.underlying46 hv;obtain ⟨fuel,hf⟩:=h;obtain ⟨s,e⟩:=Zne hf;refine ⟨s,?_⟩
 congr 1
 apply Array.toList_inj.1
 exact e
theorem Zhk {z : Int} (h : (Lit.int .i64 z).wf = true) : -9223372036854775808 <= z /\ z <= 9223372036854775807:=by
 simp only [Lit.wf,Bool.and_eq_true,decide_eq_true_eq] at h;exact h
end
section
variable {H : Type} {enc : TypeId × Value -> H} {P : Program} {w : World} {base : Nat} {spare : Nat -> Bool} {held : Bool}
theorem Zl3 {t0 t1 t2 t3 t4 : TypeId} {args : Array Value} {ds : List (DataW H)} {ps : List MemPlace} (h : DataW.TrodAll enc P w base spare held [t0,t1,t2,t3,t4] args.toList ds ps) :
    ∃ v0 v1 v2 v3 v4 d0 d1 d2 d3 d4 p0 p1 p2 p3 p4,args = #[v0,v1,v2,v3,v4] /\ ds = [d0,d1,d2,d3,d4] /\ ps = p0 ++ p1 ++ p2 ++ p3 ++ p4 /\ DataW.Trod enc P w base spare held t0 v0 d0 p0 /\ DataW.Trod enc P w base spare held t1 v1 d1 p1 /\ DataW.Trod enc P w base spare held t2 v2 d2 p2 /\ DataW.Trod enc P w base spare held t3 v3 d3 p3 /\ DataW.Trod enc P w base spare held t4 v4 d4 p4:=by
 obtain ⟨v0,vs,d0,ds',p0,q,hargs,rfl,rfl,hd,hrest⟩:=trodAll_cons h;obtain ⟨v1,vs',d1,ds'',p1,q',rfl,rfl,rfl,hd',hrest'⟩:=trodAll_cons hrest;obtain ⟨v2,vs'',d2,ds''',p2,q'',rfl,rfl,rfl,hd'',hrest''⟩:=trodAll_cons hrest';obtain ⟨v3,vs3,d3,ds3,p3,q3,rfl,rfl,rfl,hd3,hrest3⟩:=trodAll_cons hrest'';obtain ⟨v4,vs4,d4,ds4,p4,q4,rfl,rfl,rfl,hd4,hrest4⟩:=trodAll_cons hrest3;obtain ⟨rfl,rfl,rfl⟩:=trodAll_nil hrest4;exact ⟨v0,v1,v2,v3,v4,d0,d1,d2,d3,d4,p0,p1,p2,p3,p4,by cases args;simp_all,rfl,by simp,hd,hd',hd'',hd3,hd4⟩
theorem Zmv {t0 t1 t2 t3 t4 : TypeId} {v0 v1 v2 v3 v4 : Value} {d0 d1 d2 d3 d4 : DataW H} {p0 p1 p2 p3 p4 : List MemPlace} (h0 : DataW.Trod enc P w base spare held t0 v0 d0 p0) (h1 : DataW.Trod enc P w base spare held t1 v1 d1 p1) (h2 : DataW.Trod enc P w base spare held t2 v2 d2 p2) (h3 : DataW.Trod enc P w base spare held t3 v3 d3 p3) (h4 : DataW.Trod enc P w base spare held t4 v4 d4 p4) :
    DataW.TrodAll enc P w base spare held [t0,t1,t2,t3,t4] [v0,v1,v2,v3,v4] [d0,d1,d2,d3,d4] (p0 ++ (p1 ++ (p2 ++ (p3 ++ p4)))):=⟨p0,p1 ++ (p2 ++ (p3 ++ p4)),h0,trodAll_mk4 h1 h2 h3 h4,rfl⟩
end
end Go.Proofs.YtaioanjcjijckaaGreat
