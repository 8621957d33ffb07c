/- Arguments opened: lists of int64, and lists of such lists. -/
import Derived.Test.YtigdclhagmnopaaGreatZq46
set_option maxRecDepth 100000
set_option linter.unusedSimpArgs false
set_option linter.unusedVariables false
namespace Go.Proofs.YtigdclhagmnopaaGreat
open Go.ChangeShapes Go.WideShapes Go.Deep Go.RowKit
theorem Zwy {z:Int} (h:(Lit.int .i64 z).wf=true):I64 z:=by
 simp only [Lit.wf,Bool.and_eq_true,decide_eq_true_eq] at h;exact h
section
variable {H:Type} {enc:TypeId × Value->H} {w:World} {base:Nat} {spare:Nat->Bool} {held:Bool}
theorem Zkh {t e:TypeId} {fuel:Nat} {cs:List Value} {x:DataW H × List MemPlace} (ht:Tryz.prog.underlying t=some (.slice e)) (he:Tryz.prog.underlying e=some (.int .i64)) (hc:Tryz.prog.cellsOf e=1) (h:DataW.trod enc Tryz.prog w base spare held fuel t cs=some x):∃ (A:Option Addr) (n c:Nat) (l:List Int),cs=[.slice A n c]/\LimI w A n c l:=by
 rcases open_ints ht he hc h with ⟨rfl,_⟩ | ⟨a,len,cap,zs,rfl,_,hl,hm,hz,_,hcell,hwf⟩
 ·exact ⟨none,0,0,[],rfl,rfl,Nat.zero_le _,Nat.zero_le _,by simp,fun h=>absurd h (by omega)⟩
 ·have hlz:len <= zs.length:=by rw [hz];split <;> omega
  refine ⟨some a,len,cap,zs.take len,rfl,by simp;omega,hl,hm,fun v hv=>Zwy (hwf v (List.mem_of_mem_take hv)),fun hn=>?_⟩;have h0:=hcell 0 (by omega);have hp:=Zio h0
  obtain ⟨b,o,s⟩:∃ b o,a=⟨b,o,none⟩:=by
   obtain ⟨b,o,s⟩:=a;refine ⟨b,o,?_⟩;unfold Addr.add at hp
   split at hp <;> simp_all
  subst s;refine ⟨b,o,rfl,fun k hk=>?_⟩;have hc:=hcell k (by omega);rw [Zh] at hc;rw [hc]
  have hkz:k < zs.length:=by omega
  rw [List.getElem?_take,if_pos hk,List.getD_eq_getElem?_getD]
theorem Zlw {r:Reach} {b0:Nat} {v:Value} {d:DataW H} {p:List MemPlace} (hv:Value.okWide Tryz.prog w r b0 34 v) (h:DataW.Trod enc Tryz.prog w base spare held 34 v d p):∃ (A:Option Addr) (n c:Nat) (l:List Int),v=.slice A n c/\LimI w A n c l:=by
 obtain ⟨A,n,c,rfl⟩:=okWide_slice Tryz.underlying34 hv;obtain ⟨fuel,hf⟩:=h;obtain ⟨A',n',c',l,hcs,hL⟩:=Zkh Tryz.underlying34 Tryz.underlying2 (by kernel_rfl) hf
 simp [Value.cells] at hcs
 obtain ⟨rfl,rfl,rfl⟩:=hcs;exact ⟨A,n,c,l,rfl,hL⟩
theorem Zro {fuel:Nat} {cs:List Value} {x:DataW H × List MemPlace} (h:DataW.trod enc Tryz.prog w base spare held fuel 33 cs=some x):∃ (A:Option Addr) (n c:Nat) (rs:List RI),cs=[.slice A n c]/\MIL w A n c rs:=by
 have c1:Tryz.prog.cellsOf 34=1:=by kernel_rfl
 rcases open_slice Tryz.underlying33 h with ⟨hcs,_⟩ | ⟨a,n,c,m,f,D,Pl,hcs,_,hl,hm,hmm,_,hi⟩
 ·exact ⟨none,0,0,[],hcs,rfl,Nat.le_refl _,Nat.zero_le _,fun e he=>(by cases he),fun h=>absurd h (by omega)⟩
 ·have hlm:n <= m:=by rw [hmm];split <;> omega
  rw [c1] at hi
  obtain ⟨rs,he1,he2⟩:=Zoq (fun i (r:RI)=>w.cell? (a.add i)=some (.slice r.A r.n r.c)/\LimI w r.A r.n r.c r.l) n (fun i hin=>by
   obtain ⟨cs',hc,ht⟩:=hi i (by omega);obtain ⟨A,n1,c1,l,rfl,h1⟩:=Zkh Tryz.underlying34 Tryz.underlying2 (by kernel_rfl) ht;obtain ⟨_,_,hat⟩:=World.cells?_some hc;have g0:=hat 0 (by simp);rw [Go.Deep.add_add] at g0
   exact ⟨⟨A,n1,c1,l⟩,by simpa using g0,h1⟩)
  refine ⟨some a,n,c,rs,hcs,he1,hl,hm,fun r hr=>?_,fun hn=>?_⟩
  ·obtain ⟨k,hk,rfl⟩:=List.getElem_of_mem hr
   exact (he2 k _ (List.getElem?_eq_getElem hk)).2
  ·obtain ⟨b,o,rfl⟩:∃ b o,a=⟨b,o,none⟩:=by
     have h0:=he2 0 _ (List.getElem?_eq_getElem (by omega));have hp:=Zio h0.1;obtain ⟨b,o,s⟩:=a;refine ⟨b,o,?_⟩;unfold Addr.add at hp
     split at hp <;> simp_all
   refine ⟨b,o,rfl,fun k r hk=>?_⟩;have h0:=he2 k r hk;rw [Zh] at h0;exact h0.1
theorem Zqp {r:Reach} {b0:Nat} {v:Value} {d:DataW H} {p:List MemPlace} (hv:Value.okWide Tryz.prog w r b0 33 v) (h:DataW.Trod enc Tryz.prog w base spare held 33 v d p) :
    ∃ (A:Option Addr) (n c:Nat) (rs:List RI),v=.slice A n c/\MIL w A n c rs:=by
 obtain ⟨A,n,c,rfl⟩:=okWide_slice Tryz.underlying33 hv;obtain ⟨fuel,hf⟩:=h;obtain ⟨A',n',c',rs,e,hM⟩:=Zro hf
 simp [Value.cells] at e
 obtain ⟨rfl,rfl,rfl⟩:=e;exact ⟨_,_,_,rs,rfl,hM⟩
end
theorem wf_int8 {z:Int} (h:(Lit.int .i8 z).wf=true):-128 <= z/\z <= 127:=by
 simp only [Lit.wf,Bool.and_eq_true,decide_eq_true_eq] at h;exact h
section
variable {H:Type} {enc:TypeId × Value->H} {w:World} {base:Nat} {spare:Nat->Bool} {held:Bool}
theorem Zr7 {t e:TypeId} {fuel:Nat} {cs:List Value} {x:DataW H × List MemPlace} (ht:Tryz.prog.underlying t=some (.slice e)) (he:Tryz.prog.underlying e=some (.int .i8)) (hc:Tryz.prog.cellsOf e=1) (h:DataW.trod enc Tryz.prog w base spare held fuel t cs=some x):∃ (A:Option Addr) (n c:Nat) (l:List Int),cs=[.slice A n c]/\Lim8 w A n c l:=by
 rcases open_ints ht he hc h with ⟨rfl,_⟩ | ⟨a,len,cap,zs,rfl,_,hl,hm,hz,_,hcell,hwf⟩
 ·exact ⟨none,0,0,[],rfl,rfl,Nat.zero_le _,Nat.zero_le _,by simp,fun h=>absurd h (by omega)⟩
 ·have hlz:len <= zs.length:=by rw [hz];split <;> omega
  refine ⟨some a,len,cap,zs.take len,rfl,by simp;omega,hl,hm,fun v hv=>wf_int8 (hwf v (List.mem_of_mem_take hv)),fun hn=>?_⟩;have h0:=hcell 0 (by omega);have hp:=Zio h0
  obtain ⟨b,o,s⟩:∃ b o,a=⟨b,o,none⟩:=by
   obtain ⟨b,o,s⟩:=a;refine ⟨b,o,?_⟩;unfold Addr.add at hp
   split at hp <;> simp_all
  subst s;refine ⟨b,o,rfl,fun k hk=>?_⟩;have hc:=hcell k (by omega);rw [Zh] at hc;rw [hc]
  have hkz:k < zs.length:=by omega
  rw [List.getElem?_take,if_pos hk,List.getD_eq_getElem?_getD]
theorem Zuf {r:Reach} {b0:Nat} {v:Value} {d:DataW H} {p:List MemPlace} (hv:Value.okWide Tryz.prog w r b0 75 v) (h:DataW.Trod enc Tryz.prog w base spare held 75 v d p):∃ (A:Option Addr) (n c:Nat) (l:List Int),v=.slice A n c/\Lim8 w A n c l:=by
 obtain ⟨A,n,c,rfl⟩:=okWide_slice Tryz.underlying75 hv;obtain ⟨fuel,hf⟩:=h;obtain ⟨A',n',c',l,hcs,hL⟩:=Zr7 Tryz.underlying75 Tryz.underlying80 (by kernel_rfl) hf
 simp [Value.cells] at hcs
 obtain ⟨rfl,rfl,rfl⟩:=hcs;exact ⟨A,n,c,l,rfl,hL⟩
end
end Go.Proofs.YtigdclhagmnopaaGreat
