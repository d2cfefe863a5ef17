/-  -/
import Derived.Test.YtefjbnhpjdhjmaaGreatDoorWrong
import Derived.Deep.QuietTactic
import Derived.BigQuiet
import Derived.Deep.LoopGhost
import Derived.WalkLawsBesides
namespace Go.Proofs.YtefjbnhpjdhjmaaGreatDoor
set_option linter.all false
open Go.RowKit
set_option maxRecDepth 100000
set_option maxHeartbeats 400000
def yj (_:Int) (p:aA) (_:Nat):Int×Bool:=(dS p,dS p==0)
def Jv (c:Nat) (e:Int) (w:World):Prop:=gG w c 32 (.int .i64 e)
theorem Uh (c:Nat) (st:Int) (p:aA) (b o d:Nat) (S:Nat→Prop) (w:World) (hI:Jv c st w) (hp:dH w S b o p) :
  Calls Tryz.prog 63 #[.pointer (some ⟨b,o,none⟩),.int .i64 (d:Nat),.pointer (some ⟨c,0,none⟩)] w
   (xA (Jv c) (· = c) (yj st p d) w):=by
 have q1:=hI.cell;have f1:=hI.free
 have K:∀u,u=dS p→xA (Jv c) (· = c) (yj st p d) w (.returned (.bool (u==0))) (w.setCell ⟨c,0,none⟩ (.int .i64 u)):=by
  rintro u rfl;exact ⟨rfl,hI.set _,(Kept.refl _ w).setCell (.inl (by simp)) _⟩
 have HK:=ah K;clear K
 clear hI
 go_enter Tryz.func63, Tryz.ntmps63
 go_wp2_with fail
 refine (Xu p b o S _ hp).mono ?_
 rintro e w1 ⟨rfl,rfl⟩
 go_wp2_with fail
 go_ret
 exact HK.out _ rfl
def bW (p:aA):Int:=if (jX jr (0,0) p 1).2 then (jX yj 0 p 1).1 else 4
theorem xR (p:aA) (v:Value) (w:World) (hp:gV w (· < w.heap.size) v p) (hsz:sizeT p≤100000000) :
  Calls Tryz.prog 28 #[v] w (fun e w'=>e=.returned (.int .i64 (bW p))∧Kept aC w w'):=by
 obtain ⟨c,hv,hb⟩:=hp.box 27 (fun b hb=>hb)
 have hp0:=hp
 obtain ⟨ka,cap,rfl,hz,hk⟩:=hp
 simp only [Value.agg.injEq] at hv;subst hv
 have hmf:∀(fn:Fn) (first cap:Array Value) (w:World),(Instr.makeFunc fn first cap).run Tryz.prog w=.ok (.func fn first cap) w:=fun _ _ _ _=>rfl
 go_enter Tryz.func28, Tryz.ntmps28
 go_wp2_with fail
 refine (size_any p _ _ ⟨ka,cap,rfl,hz,aI.same (fun b hb=>Below.heap_alloc _ _ _ hb) (fun b hb=>by simp;omega) _ _ hk⟩ hsz).mono ?_
 rintro e w1 ⟨rfl,hk1⟩
 have iG:Hid (Kept aC w w1):=((Kept.refl aC w).alloc _).quiet hk1
 have hb1:=hb.kept hk1 (fun b hb=>⟨by simp;omega,fun h=>h⟩)
 have hsz1:w.heap.size+1≤w1.heap.size:=by have:=hk1.size;simpa using this
 clear hk hp0 hb hk1
 cases hr:jX jr (0,0) p 1 with
 | mk st ok =>
 obtain ⟨n,d⟩:=st
 have e1:BO p=BP ((n,d),ok):=by simp [BO,hr]
 cases ok with
 | false =>
  have Hf:Hid (bW p=4):=by simp [bW,hr,Hid]
  rw [e1];clear hr e1
  dsimp only [BP]
  go_wp2_with fail
  go_ret
  exact ⟨Bl Hf.out.symm,iG.out⟩
 | true =>
  have Hf:Hid (bW p=(jX yj 0 p 1).1):=by simp [bW,hr,Hid]
  rw [e1];clear hr e1
  dsimp only [BP]
  go_wp2_with fail
  refine (walk_any 63 #[.pointer (some ⟨w1.heap.size,0,none⟩)] (fun _ _=>by kernel_rfl) (Jv w1.heap.size) (fun _ _=>True) yj
   (fun _ _ _ _ _ _=>trivial) (· = w1.heap.size) (fun b=>b<w.heap.size∨b=w.heap.size) 500000000 (by omega) ?cl 100000000 p 0 0 w.heap.size 0 1 _ hsz (by omega) ?i trivial ?pt ?sf).mono ?_
  case cl =>
   intro _ st p b o d w' hi _ hp' _ hd
   exact Uh _ st p b o d _ w' hi hp'
  case i=>exact gG.new' rfl
  case pt=>exact dH.same (fun b hb=>by rw [Below.heap_alloc];omega) (fun _ h=>h) _ _ _ hb1
  case sf=>intro b hb;simp;omega
  rintro e w2 ⟨rfl,hI2,hk2⟩
  have uZ:Hid (Kept aC w w2):=(iG.out.alloc _).step hk2 (by simp;omega)
  have q1:=hI2.cell;have f1:=hI2.free
  clear hb1 hk2 hI2
  go_wp2_with fail
  go_ret
  exact ⟨Bl Hf.out.symm,uZ.out⟩
end Go.Proofs.YtefjbnhpjdhjmaaGreatDoor

namespace Go.Proofs.YtefjbnhpjdhjmaaGreatDoor
set_option linter.all false
open Go.RowKit
mutual
def allT:aA→List aA
 | .mk k t n nm kids=>.mk k t n nm kids::allL kids
def allL:List aA→List aA
 | []=>[]
 | p::ps=>allT p++allL ps
end
mutual
def eP:aA→Nat
 | .mk _ _ _ _ kids=>1+iq kids
def iq:List aA→Nat
 | []=>0
 | p::ps=>max (eP p) (iq ps)
end
theorem lW (p:aA):1≤sizeT p:=by cases p;simp only [sizeT];omega
theorem yM (p:aA):1≤eP p:=by cases p;simp only [eP];omega
mutual
theorem DT:∀(p:aA) (n m d:Nat),n≤4096→
  (n+sizeT p≤4096∧d+eP p≤201→jX jr (n,m) p d=((n+sizeT p,max m (d+eP p-1)),true))∧
  (¬(n+sizeT p≤4096∧d+eP p≤201)→(jX jr (n,m) p d).2=false)
 | .mk k t n' nm kids,n,m,d,hn=>by
  have ih:=H9 kids (n+1) (max m d) (d+1)
  rw [sizeT,eP,jX]
  have e:jr (n,m) (.mk k t n' nm kids) d=((n+1,max m d),decide (n+1≤4096)&&decide (d≤200)):=rfl
  rw [e]
  by_cases h1:n+1≤4096∧d≤200
  ·rw [ak h1.1,ak h1.2,Bool.and_true]
   obtain ⟨a,b⟩:=ih h1.1 (by omega)
   refine ⟨fun h=>?_,fun h=>b (by omega)⟩
   show iM jr (n+1,max m d) kids (d+1)=_
   rw [a (by omega)]
   refine Prod.ext (Prod.ext (by dsimp only;omega) ?_) rfl
   dsimp only
   cases kids with
   | nil=>rw [if_pos rfl,iq];omega
   | cons q qs =>
    have:1≤iq (q::qs):=by have:=yM q;rw [iq];omega
    rw [if_neg (by simp)];omega
  ·have:(decide (n+1≤4096)&&decide (d≤200))=false:=by rw [Bool.and_eq_false_iff];simp only [decide_eq_false_iff_not];omega
   rw [this]
   exact ⟨fun h=>absurd h (by omega),fun _=>rfl⟩
theorem H9:∀(l:List aA) (n m d:Nat),n≤4096→d≤201→
  (n+aS l≤4096∧d+iq l≤201→iM jr (n,m) l d=((n+aS l,if l=[] then m else max m (d+iq l-1)),true))∧
  (¬(n+aS l≤4096∧d+iq l≤201)→(iM jr (n,m) l d).2=false)
 | [],n,m,d,hn,hd=>by
  rw [iM,aS,iq]
  exact ⟨fun _=>rfl,fun h=>absurd (by omega) h⟩
 | p::ps,n,m,d,hn,hd=>by
  obtain ⟨a1,b1⟩:=DT p n m d hn
  have hp:=yM p
  rw [iM,aS,iq]
  by_cases c1:n+sizeT p≤4096∧d+eP p≤201
  ·rw [a1 c1]
   obtain ⟨a2,b2⟩:=H9 ps (n+sizeT p) (max m (d+eP p-1)) d c1.1 hd
   refine ⟨fun h=>?_,fun h=>b2 (by omega)⟩
   show iM jr _ ps d=_
   rw [a2 (by omega)]
   refine Prod.ext (Prod.ext (by dsimp only;omega) ?_) rfl
   dsimp only
   rw [if_neg (by simp:¬(p::ps=[]))]
   cases ps with
   | nil=>rw [if_pos rfl,iq];omega
   | cons q qs=>rw [if_neg (by simp)];omega
  ·have h1:=b1 c1
   refine ⟨fun h=>absurd h (by omega),fun _=>?_⟩
   cases hr:jX jr (n,m) p d with
   | mk st ok=>rw [hr] at h1;dsimp only at h1;subst h1;rfl
end
def fits (p:aA):Prop:=sizeT p≤4096∧eP p≤200
instance (p:aA):Decidable (fits p):=by unfold fits;exact inferInstance
theorem XK (p:aA):BO p=if fits p then .tuple #[.int .i64 (sizeT p),.int .i64 (eP p),.int .i64 0] else .tuple #[.int .i64 0,.int .i64 0,.int .i64 4]:=by
 obtain ⟨a,b⟩:=DT p 0 0 1 (by omega)
 have hd:=yM p
 unfold BO
 by_cases h:fits p
 ·have h':=h;unfold fits at h'
  rw [a (by omega),if_pos h]
  simp [BP]
 ·have h':=h;unfold fits at h'
  have:=b (by omega)
  rw [if_neg h]
  simp [BP,this]
theorem Nk (p:aA):(jX jr (0,0) p 1).2=true↔fits p:=by
 obtain ⟨a,b⟩:=DT p 0 0 1 (by omega)
 unfold fits
 by_cases h:sizeT p≤4096∧eP p≤200
 ·rw [a (by omega)];simp [h]
 ·rw [b (by omega)];simp;omega
def wS {σ:Type} (f:σ→aA→σ×Bool):σ→List aA→σ×Bool
 | st,[]=>(st,true)
 | st,p::ps=>match f st p with
  | (st',false)=>(st',false)
  | (st',true)=>wS f st' ps
theorem FB {σ:Type} (f:σ→aA→σ×Bool):∀(l r:List aA) (st:σ),wS f st (l++r)=match wS f st l with|(st',false)=>(st',false)|(st',true)=>wS f st' r
 | [],r,st=>rfl
 | p::ps,r,st=>by
  simp only [List.cons_append,wS]
  cases f st p with
  | mk st1 ok=>cases ok<;>simp [FB f ps r st1]
mutual
theorem Nl {σ:Type} (f:σ→aA→σ×Bool):∀(p:aA) (st:σ) (d:Nat),jX (fun s q _=>f s q) st p d=wS f st (allT p)
 | .mk k t n nm kids,st,d=>by
  simp only [jX,allT,wS]
  cases f st (.mk k t n nm kids) with
  | mk st1 ok=>cases ok<;>simp [Kr f kids st1 (d+1)]
theorem Kr {σ:Type} (f:σ→aA→σ×Bool):∀(l:List aA) (st:σ) (d:Nat),iM (fun s q _=>f s q) st l d=wS f st (allL l)
 | [],st,d=>by simp only [iM,allL,wS]
 | p::ps,st,d=>by
  simp only [iM,allL,FB,Nl f p st d]
  cases wS f st (allT p) with
  | mk st1 ok=>cases ok<;>simp [Kr f ps st1 d]
end
def zH:List aA→Int
 | []=>0
 | p::ps=>if dS p=0 then zH ps else dS p
theorem Kt:∀(l:List aA) (st:Int),l≠[]∨st=0→(wS (fun _ q=>(dS q,dS q==0)) st l).1=zH l
 | [],st,h=>by simp only [wS,zH];simpa using h
 | p::ps,st,_=>by
  simp only [wS,zH]
  by_cases h:dS p=0
  ·rw [if_pos h,h];exact Kt ps 0 (.inr rfl)
  ·have:(dS p==0)=false:=by simpa using h
   rw [this,if_neg h]
theorem aau (p:aA):allT p≠[]:=by cases p;simp [allT]
theorem Ku (p:aA):bW p=if fits p then zH (allT p) else 4:=by
 unfold bW
 by_cases h:fits p
 ·rw [if_pos ((Nk p).2 h),if_pos h]
  exact (congrArg Prod.fst (Nl (fun _ q=>(dS q,dS q==0)) p 0 1)).trans (Kt _ _ (.inl (aau p)))
 ·rw [if_neg (fun e=>h ((Nk p).1 e)),if_neg h]
end Go.Proofs.YtefjbnhpjdhjmaaGreatDoor

namespace Go.Proofs.YtefjbnhpjdhjmaaGreatDoor
set_option linter.all false
open Go.RowKit
def pX (l:List UInt8):aj:=⟨l.toArray⟩
def rM:List aj:=[pX [],pX [],pX [76,69,78],pX [65,78,89],pX [78,79,84,65,78,89],pX [83,80,65,78],pX [66,82,69,65,75],pX [66,82,69,65,75,88],pX [84,65,66],pX [82,84,65,66],pX [80,79,83],pX [82,80,79,83],pX [82,69,77],pX [65,82,66],pX [66,65,76],pX [70,65,73,76],pX [70,69,78,67,69],pX [65,66,79,82,84],pX [],pX [],pX [65,82,66,78,79]]
def nU (W:Nat) (w:World):Prop:=w.heap[W]?=some (.cells (rM.map Value.string).toArray 9 (0,0))
theorem nU.lt {W:Nat} {w:World} (h:nU W w):W<w.heap.size:=(Array.getElem?_eq_some_iff.1 h).1
theorem nU.cell {W:Nat} {w:World} (h:nU W w) (j:Nat) (hj:j<rM.length):w.cell? ⟨W,0+j,none⟩=some (.string (rM.getD j ByteArray.empty)):=by
 rw [cell_of_row w W (0+j) _ _ _ h,Nat.zero_add]
 simp [List.getD_eq_getElem?_getD,List.getElem?_eq_getElem hj]
theorem nU.kept {W:Nat} {w w':World} {X:Nat→Prop} (h:nU W w) (hk:Kept X w w') (hx:¬X W):nU W w':=by
 unfold nU;rw [hk.block W h.lt hx];exact h
end Go.Proofs.YtefjbnhpjdhjmaaGreatDoor

namespace Go.Proofs.YtefjbnhpjdhjmaaGreatDoor
set_option linter.all false
open Go.RowKit
set_option maxRecDepth 100000
set_option maxHeartbeats 1000000
abbrev Er:=Int×Nat
abbrev cZ (α:Type):=Except Er (α×Nat)
def skip (s:aj) (i:Nat):Nat:=i+((s.data.toList.drop i).takeWhile fun c=>c==32).length
def peek (s:aj) (i:Nat):Int:=if h:i<s.size then (s[i].toNat:Int) else -1
theorem drop_cons {s:aj} {i:Nat} (h:i<s.size):s.data.toList.drop i=s[i]::s.data.toList.drop (i+1):=by
 have h':i<s.data.toList.length:=by simpa using h
 rw [List.drop_eq_getElem_cons h'];rfl
theorem drop_end {s:aj} {i:Nat} (h:s.size≤i):s.data.toList.drop i=[]:=List.drop_of_length_le (by simpa using h)
theorem wF {s:aj} {i:Nat} (h:i<s.size) (hb:s[i].toNat=32):skip s i=skip s (i+1):=by
 have:s[i]=32:=UInt8.toNat_inj.1 (by simpa using hb)
 unfold skip
 rw [drop_cons h,List.takeWhile_cons,if_pos (by simp [this]),List.length_cons];omega
theorem Ep {s:aj} {i:Nat} (h:i<s.size) (hb:s[i].toNat≠32):skip s i=i:=by
 unfold skip
 rw [drop_cons h,List.takeWhile_cons,if_neg (by simp;intro e;exact hb (by rw [e];rfl))];simp
theorem CU {s:aj} {i:Nat} (h:s.size≤i):skip s i=i:=by
 unfold skip;rw [drop_end h];simp
theorem kR (s:aj) (i:Nat):i≤skip s i:=by unfold skip;omega
theorem dG {s:aj} {i:Nat} (h:i≤s.size):skip s i≤s.size:=by
 unfold skip
 have:=(List.takeWhile_sublist (fun c=>c==(32:UInt8)) (l:=s.data.toList.drop i)).length_le
 rw [List.length_drop] at this
 have e:s.data.toList.length=s.size:=rfl
 omega
def iK (c:UInt8):Bool:=jO c||dL c
def dn (f:UInt8→Bool) (s:aj) (i:Nat):Nat:=i+((s.data.toList.drop i).takeWhile f).length
theorem xk {f:UInt8→Bool} {s:aj} {i:Nat} (h:i<s.size) (hb:f s[i]=true):dn f s i=dn f s (i+1):=by
 unfold dn
 rw [drop_cons h,List.takeWhile_cons,if_pos hb,List.length_cons];omega
theorem Om {f:UInt8→Bool} {s:aj} {i:Nat} (h:i<s.size) (hb:f s[i]=false):dn f s i=i:=by
 unfold dn
 rw [drop_cons h,List.takeWhile_cons,if_neg (by simp [hb])];simp
theorem run_end {f:UInt8→Bool} {s:aj} {i:Nat} (h:s.size≤i):dn f s i=i:=by
 unfold dn;rw [drop_end h];simp
theorem Oo (f:UInt8→Bool) (s:aj) (i:Nat):i≤dn f s i:=by unfold dn;omega
theorem Oq {f:UInt8→Bool} {s:aj} {i:Nat} (h:i≤s.size):dn f s i≤s.size:=by
 unfold dn
 have:=(List.takeWhile_sublist f (l:=s.data.toList.drop i)).length_le
 rw [List.length_drop] at this
 have e:s.data.toList.length=s.size:=rfl
 omega
def fH (c:Nat) (s:aj) (i:Nat):Bool×Nat:=if peek s (skip s i)=c then (true,skip s i+1) else (false,skip s i)
def dI (c:Nat) (s:aj) (i:Nat):Except Er Nat:=if peek s (skip s i)=c then .ok (skip s i+1) else .error (2,skip s i)
def gX (s:aj) (i:Nat):cZ (aj×Nat) :=
 if 65≤peek s (skip s i)∧peek s (skip s i)≤90 then .ok ((s.extract (skip s i) (dn iK s (skip s i)),skip s i),dn iK s (skip s i)) else .error (2,skip s i)
def nameP (s:aj) (i:Nat):cZ aj :=
 match gX s i with
 | .error e=>.error e
 | .ok ((w,at_),k)=>if 16<w.size then .error (7,at_) else .ok (w,k)
def CV (er:Er):Value:=.iface 150 (.agg #[.int .i64 er.1,.int .i64 er.2])
structure eU (N W:Nat) (s:aj) (i d:Nat) (w:World):Prop where
 blk:w.heap[N]?=some (.cells #[.string s,.int .i64 i,.slice (some ⟨W,0,none⟩) 21 21,.int .i64 d] 153 (0,0))
 ne:N≠W
 words:nU W w
theorem eU.tq {N W i d:Nat} {s:aj} {w:World} (h:eU N W s i d w):W<w.heap.size:=h.words.lt
theorem eU.lt {N W i d:Nat} {s:aj} {w:World} (h:eU N W s i d w):N<w.heap.size:=(Array.getElem?_eq_some_iff.1 h.blk).1
theorem eU.c0 {N W i d:Nat} {s:aj} {w:World} (h:eU N W s i d w):w.cell? ⟨N,0,none⟩=some (.string s):=by rw [cell_of_row w N 0 _ _ _ h.blk];rfl
theorem eU.c1 {N W i d:Nat} {s:aj} {w:World} (h:eU N W s i d w):w.cell? ⟨N,1,none⟩=some (.int .i64 i):=by rw [cell_of_row w N 1 _ _ _ h.blk];rfl
theorem eU.c2 {N W i d:Nat} {s:aj} {w:World} (h:eU N W s i d w):w.cell? ⟨N,2,none⟩=some (.slice (some ⟨W,0,none⟩) 21 21):=by rw [cell_of_row w N 2 _ _ _ h.blk];rfl
theorem eU.c3 {N W i d:Nat} {s:aj} {w:World} (h:eU N W s i d w):w.cell? ⟨N,3,none⟩=some (.int .i64 d):=by rw [cell_of_row w N 3 _ _ _ h.blk];rfl
theorem eU.fr {N W i d:Nat} {s:aj} {w:World} (h:eU N W s i d w) (o:Nat):w.frozen? ⟨N,o,none⟩=false:=by simp [World.frozen?,h.blk]
theorem aK {w:World} {N o:Nat} {cs:Array Value} {t:TypeId} {fr:Nat×Nat} (h:w.heap[N]?=some (.cells cs t fr)) (u:Value) :
  (w.setCell ⟨N,o,none⟩ u).heap[N]?=some (.cells (cs.setIfInBounds o u) t fr):=by
 simp [World.setCell,Array.getElem?_modify,h]
theorem eU.setAt {N W i d:Nat} {s:aj} {w:World} (h:eU N W s i d w) (k:Nat):eU N W s k d (w.setCell ⟨N,1,none⟩ (.int .i64 k)):=⟨by rw [aK h.blk];rfl,h.ne,h.words.kept ((Kept.refl (· = N) w).setCell (.inl rfl) _) (Ne.symm h.ne)⟩
theorem eU.Ot {N W i d:Nat} {s:aj} {w:World} (h:eU N W s i d w) (k:Nat):eU N W s i k (w.setCell ⟨N,3,none⟩ (.int .i64 k)):=⟨by rw [aK h.blk];rfl,h.ne,h.words.kept ((Kept.refl (· = N) w).setCell (.inl rfl) _) (Ne.symm h.ne)⟩
theorem eU.kept {N W i d:Nat} {s:aj} {w w':World} {X:Nat→Prop} (h:eU N W s i d w) (hk:Kept X w w') (hx:¬X N) (hy:¬X W):eU N W s i d w':=⟨by rw [hk.block N h.lt hx];exact h.blk,h.ne,h.words.kept hk hy⟩
theorem eU.drewN {N W i d:Nat} {s:aj} {w:World} (h:eU N W s i d w) (n:Nat):eU N W s i d (w.drewN n):=⟨h.blk,h.ne,h.words⟩
theorem VH (c:UInt8):wrap64 (c.toNat:Int)=c.toNat:=by have:=c.toNat_lt;unfold wrap64;omega
def zT (N W:Nat) (s:aj) (i d:Nat) (w:World) (e:Ending) (w':World):Prop :=
 e=.returned (.int .i64 (peek s (skip s i)))∧eU N W s (skip s i) d w'∧Kept (· = N) w w'
theorem next_any (N W:Nat) (s:aj) (i d:Nat) (w:World) (hr:eU N W s i d w) (hi:i≤s.size) (hs:s.size≤1000000000) :
  Calls Tryz.prog 109 #[.pointer (some ⟨N,0,none⟩)] w (zT N W s i d w):=by
 have HR:=ah hr;clear hr
 go_enter Tryz.func109, Tryz.ntmps109
 go_wp2_with fail
 go_loopg [] (s.size-i) (fun f wr=>∃k,i≤k∧k≤s.size∧f=s.size-k∧Hid (skip s k=skip s i)∧eU N W s k d wr∧Kept (· = N) w wr)
 case atStart=>exact ⟨i,Nat.le_refl _,hi,rfl,rfl,HR.out,Kept.refl _ _⟩
 case round =>
  obtain ⟨k,hk1,hk2,rfl,hsk,hR,hK⟩:=hrel
  have q0:=hR.c0;have q1:=hR.c1;have f1:=hR.fr 1
  have R1:=ah hR;have K1:=ah hK
  clear hR hK
  by_cases hlt:k<s.size
  ·have g1:decide ((k:Int)<(s.size:Int))=true:=ak (by omega)
   have bi:(k:Int)<(s.size:Int):=by omega
   by_cases hb:s[k].toNat=32
   ·have g2:((s[k].toNat:Int)==32)=true:=by simp;omega
    have hs1:Hid (skip s (k+1)=skip s i):=(wF hlt hb).symm.trans hsk.out
    clear hb
    go_wp2_with fail
    go_quiet (fail)
    have R2:=(R1.out.drewN nq).setAt (k+1)
    have K2:=(K1.out.drewN nq).setCell (p:=⟨N,1,none⟩) (.inl rfl) (.int .i64 ((k+1:Nat):Int))
    have RR:=ah R2;have KK:=ah K2;clear R2 K2
    go_wp2_with fail
    go_roundg (s.size-(k+1))
    case measure=>omega
    case rel=>exact ⟨k+1,by omega,by omega,rfl,hs1,RR.out,KK.out⟩
   ·have g2:((s[k].toNat:Int)==32)=false:=by simp;omega
    have e1:Hid (skip s i=k):=hsk.out.symm.trans (Ep hlt hb)
    have bsz:((k:Int)==(s.size:Int))=false:=by simp;omega
    have fin:Hid (∀x w',x=(s[k].toNat:Int)→eU N W s k d w'→Kept (· = N) w w'→zT N W s i d w (.returned (.int .i64 x)) w'):=fun x w' hx h1 h2=>by
     unfold zT;rw [e1.out];exact ⟨by unfold peek;rw [dif_pos hlt,hx],h1,h2⟩
    clear hb
    go_wp2_with fail
    go_quiet (fail)
    go_wp2_with fail
    go_quiet (fail)
    go_wp2_with fail
    go_quiet (fail)
    go_wp2_with fail
    go_ret
    exact fin.out _ _ (VH _) (((R1.out.drewN _).drewN _).drewN _) (((K1.out.drewN _).drewN _).drewN _)
  ·have g1:decide ((k:Int)<(s.size:Int))=false:=au (by omega)
   have bsz:((k:Int)==(s.size:Int))=true:=by simp;omega
   have e1:Hid (skip s i=k):=hsk.out.symm.trans (CU (by omega))
   have fin:Hid (∀w',eU N W s k d w'→Kept (· = N) w w'→zT N W s i d w (.returned (.int .i64 (-1))) w'):=fun w' h1 h2=>by
    unfold zT;rw [e1.out];exact ⟨by unfold peek;rw [dif_neg hlt],h1,h2⟩
   go_wp2_with fail
   go_quiet (fail)
   go_wp2_with fail
   go_quiet (fail)
   go_wp2_with fail
   go_ret
   exact fin.out _ ((R1.out.drewN _).drewN _) ((K1.out.drewN _).drewN _)
end Go.Proofs.YtefjbnhpjdhjmaaGreatDoor

namespace Go.Proofs.YtefjbnhpjdhjmaaGreatDoor
set_option linter.all false
open Go.RowKit
set_option maxRecDepth 100000
set_option maxHeartbeats 1000000
def Threw (er:Er) (e:Ending):Prop:=e=.panicked [{v:=CV er,recovered:=false}]
theorem jv (a:Value) (er:Int) (i:Nat) (w:World):Calls Tryz.prog 110 #[a,.int .i64 er,.int .i64 i] w fun e w'=>Threw (er,i) e∧w=w':=by
 go_enter Tryz.func110, Tryz.ntmps110
 go_wp2_with fail
 exact ⟨rfl,rfl,rfl⟩
def Es (c N W:Nat) (s:aj) (i d:Nat) (w:World) (e:Ending) (w':World):Prop :=
 e=.returned (.bool (fH c s i).1)∧eU N W s (fH c s i).2 d w'∧Kept (· = N) w w'
theorem Et (c N W:Nat) (hc:c<256) (s:aj) (i d:Nat) (w:World) (hr:eU N W s i d w) (hi:i≤s.size) (hs:s.size≤1000000000) :
  Calls Tryz.prog 118 #[.pointer (some ⟨N,0,none⟩),.int .u8 c] w (Es c N W s i d w):=by
 have HR:=ah hr;clear hr
 have hw:wrap64 (c:Int)=c:=by unfold wrap64;omega
 have hle:=dG hi
 go_enter Tryz.func118, Tryz.ntmps118
 go_wp2_with fail
 refine (next_any N W s i d _ HR.out hi hs).mono ?_
 rintro e w1 ⟨rfl,R1,K1⟩
 by_cases hp:peek s (skip s i)=c
 ·have hb:(peek s (skip s i) != (c:Int))=false:=by simpa using hp
  have hlt:skip s i<s.size:=by
   unfold peek at hp;split at hp
   ·assumption
   ·omega
  have e1:Hid (fH c s i=(true,skip s i+1)):=by unfold Hid fH;rw [if_pos hp]
  have q1:=R1.c1;have f1:=R1.fr 1
  have fin:Hid (∀w',w'=w1.setCell ⟨N,1,none⟩ (.int .i64 ((skip s i+1:Nat):Int))→Es c N W s i d w (.returned (.bool true)) w'):=by
   rintro w' rfl;unfold Es;rw [e1.out];exact ⟨rfl,R1.setAt _,K1.setCell (p:=⟨N,1,none⟩) (.inl rfl) _⟩
  clear R1 K1 hp
  go_wp2_with fail
  go_ret
  exact fin.out _ rfl
 ·have hb:(peek s (skip s i) != (c:Int))=true:=by simpa using hp
  have e1:Hid (fH c s i=(false,skip s i)):=by unfold Hid fH;rw [if_neg hp]
  have fin:Hid (Es c N W s i d w (.returned (.bool false)) w1):=by
   unfold Hid Es;rw [e1.out];exact ⟨rfl,R1,K1⟩
  clear R1 K1 hp
  go_wp2_with fail
  go_ret
  exact fin.out
def zU (c N W:Nat) (s:aj) (i d:Nat) (w:World) (e:Ending) (w':World):Prop :=
 Kept (· = N) w w'∧match dI c s i with
  | .ok k=>e=.returned (.tuple #[])∧eU N W s k d w'
  | .error er=>Threw er e
theorem gZ (c N W:Nat) (hc:c<256) (s:aj) (i d:Nat) (w:World) (hr:eU N W s i d w) (hi:i≤s.size) (hs:s.size≤1000000000) :
  Calls Tryz.prog 125 #[.pointer (some ⟨N,0,none⟩),.int .u8 c] w (zU c N W s i d w):=by
 have HR:=ah hr;clear hr
 go_enter Tryz.func125, Tryz.ntmps125
 go_wp2_with fail
 refine (Et c N W hc s i d _ HR.out hi hs).mono ?_
 rintro e w1 ⟨rfl,R1,K1⟩
 by_cases hp:peek s (skip s i)=c
 ·have e1:fH c s i=(true,skip s i+1):=by unfold fH;rw [if_pos hp]
  have e2:dI c s i=.ok (skip s i+1):=by unfold dI;rw [if_pos hp]
  rw [e1] at R1⊢
  have fin:Hid (zU c N W s i d w (.returned (.tuple #[])) w1):=by unfold Hid zU;rw [e2];exact ⟨K1,rfl,R1⟩
  clear e1 e2 hp R1 K1
  go_wp2_with fail
  first|go_end0|(refine bodyPost_ret (results_none rfl _ _ _) rfl ?_)
  exact fin.out
 ·have e1:fH c s i=(false,skip s i):=by unfold fH;rw [if_neg hp]
  have e2:dI c s i=.error (2,skip s i):=by unfold dI;rw [if_neg hp]
  rw [e1] at R1⊢
  have q1:=R1.c1
  have fin:Hid (∀e,Threw (2,skip s i) e→zU c N W s i d w e w1):=by intro e h;unfold zU;rw [e2];exact ⟨K1,h⟩
  clear e1 e2 hp R1 K1
  go_wp2_with fail
  refine (jv _ 2 (skip s i) w1).mono ?_
  rintro e w2 ⟨rfl,rfl⟩
  go_wp2_with fail
  exact ⟨rfl,fin.out _ rfl⟩
end Go.Proofs.YtefjbnhpjdhjmaaGreatDoor
