/-  -/
import Derived.Test.YtodebjhalipefaaGreatDoorLq5
import Derived.Test.YtodebjhalipefaaGreatDoorLq15
import Derived.Test.YtodebjhalipefaaGreatDoorLq22
import Derived.Test.YtodebjhalipefaaGreatDoorLrCEq
import Derived.Test.YtodebjhalipefaaGreatDoorLq14
import Derived.Test.YtodebjhalipefaaGreatDoorLq26
import Derived.Test.YtodebjhalipefaaGreatDoorLq11
import Derived.Test.YtodebjhalipefaaGreatDoorLq20
import Derived.Test.YtodebjhalipefaaGreatDoorLq19
import Derived.Test.YtodebjhalipefaaGreatDoorLq12
import Derived.Shelf.SlicesE.Reverse
import Derived.Deep.LoopGhost
import Derived.Laws.IdiomStrings
namespace Go.Proofs.YtodebjhalipefaaGreatDoor
set_option linter.all false
open Go.RowKit
def sX:aj:=⟨#[88]⟩
def vE (n:aj):aB:=.mk 3 ⟨#[]⟩ 0 n []
def aiv:aj:=⟨#[69,78,68]⟩
def NT (lab:aj) (tgt:aj) (no:aj):aF:=⟨lab,3,vE tgt,vE iY,Ug,⟨#[]⟩,⟨#[]⟩,[],[],⟨#[]⟩,⟨#[]⟩,no⟩
theorem RU (ns:List aj) (n:aj) (s:jl):jW ns (vE n) s=BZ ns s n:=by
 unfold vE;rw [jW,if_neg (by decide),if_neg (by decide),if_pos rfl]
theorem aeQ (ns:List aj) (k:Int) (nm:aj) (kids:List aB) (s:jl) (h:3<k):jW ns (.mk k ⟨#[]⟩ 0 nm kids) s=match uy ns kids s with
   | (none,s1)=>(none,s1)
   | (some a,s1)=>(su k nm a,s1):=by
 rw [jW,if_neg (by omega),if_neg (by omega),if_neg (by omega)]<;>rfl
theorem J6 (ns:List aj) (x:aB) (q:List aB) {s s1:jl} {t:aj} (h:jW ns x s=(some t,s1)):uy ns (x::q) s=match uy ns q s1 with
   | (none,s2)=>(none,s2)
   | (some l,s2)=>(some (t::l),s2):=by
 rw [uy,h]<;>rfl
theorem Oe (nm:aj) (a:List aj):su 6 nm a=gK nm a:=by unfold su;rw [if_neg (by decide),if_pos rfl]
theorem Gy (ns:List aj) (lab tgt no:aj) (s:jl) (h1:tgt≠iY) (h2:tgt≠fH):oL ns (NT lab tgt no) s=match s.inp with
  | []=>(some false,s)
  | t::r=>if 65536<t.size then (some false,{s with inp:=r}) else (some true,{s with v:=s.v.set (zy ns tgt) t,inp:=r}):=by
 have k2:¬(NT lab tgt no).kind=2:=show ¬(3:Int)=2 by decide
 have k3:(NT lab tgt no).kind=3:=rfl
 unfold oL
 rw [if_neg k2,if_pos k3]
 show (match jW ns (vE iY) s with
  | (none,s1)=>(some false,s1)
  | (some t,s1)=>wY ns s1 tgt t)=_
 rw [RU]
 unfold BZ
 rw [if_neg aeM,if_pos rfl]
 cases s.inp with
 | nil=>rfl
 | cons t r =>
  dsimp only
  unfold wY
  by_cases h:65536<t.size
  ·rw [if_pos (.inr h),if_pos h]
  ·rw [if_neg (fun e=>e.elim h1 h),if_neg h2,if_neg h]
theorem aaC (ns:List aj) (s:jl) (n:aj) (h1:n≠iY) (h2:n≠fH):BZ ns s n=(some (s.v.getD (zy ns n) ⟨#[]⟩),s):=by
 unfold BZ;rw [if_neg h2,if_neg h1]
theorem yx:sX≠iY∧sX≠fH:=by decide
end Go.Proofs.YtodebjhalipefaaGreatDoor

namespace Go.Proofs.YtodebjhalipefaaGreatDoor
set_option linter.all false
open Go.RowKit
def stA (lab tgt:aj) (e:aB) (al yes no:aj):aF:=⟨lab,3,vE tgt,e,Ug,⟨#[]⟩,⟨#[]⟩,[],[],al,yes,no⟩
def stV (lab:aj) (e:aB) (al yes no:aj):aF:=⟨lab,2,Ug,e,Ug,⟨#[]⟩,⟨#[]⟩,[],[],al,yes,no⟩
def b0:aj:=⟨#[]⟩
def nE (n:Int):aB:=.mk 2 ⟨#[]⟩ n ⟨#[]⟩ []
def opE (k:Int) (x y:aB):aB:=.mk k ⟨#[]⟩ 0 ⟨#[]⟩ [x,y]
def fE (nm:aj) (a:List aB):aB:=.mk 6 ⟨#[]⟩ 0 nm a
section
variable {ns:List aj} {s s1:jl}
theorem Gz {lab tgt al yes no t:aj} {e:aB} (h:jW ns e s=(some t,s1)):oL ns (stA lab tgt e al yes no) s=wY ns s1 tgt t:=by
 have k2:¬(stA lab tgt e al yes no).kind=2:=show ¬(3:Int)=2 by decide
 have k3:(stA lab tgt e al yes no).kind=3:=rfl
 unfold oL
 rw [if_neg k2,if_pos k3]
 show (match jW ns e s with
  | (none,s1)=>(some false,s1)
  | (some t,s1)=>wY ns s1 tgt t)=_
 rw [h]
theorem abX {lab al yes no:aj} {e:aB} {o:Option aj} (h:jW ns e s=(o,s1)):oL ns (stV lab e al yes no) s=(some o.isSome,s1):=by
 have k2:(stV lab e al yes no).kind=2:=rfl
 unfold oL
 rw [if_pos k2]
 show (some (jW ns e s).1.isSome,(jW ns e s).2)=_
 rw [h]
def ioN (n:aj):Bool:=decide (n≠iY)&&decide (n≠fH)
theorem GH {n:aj} (h:ioN n=true):n≠iY∧n≠fH:=by
 unfold ioN at h
 rw [Bool.and_eq_true] at h
 exact ⟨of_decide_eq_true h.1,of_decide_eq_true h.2⟩
theorem LQ {n:aj} (h:ioN n=true):jW ns (vE n) s=(some (s.v.getD (zy ns n) ⟨#[]⟩),s):=by
 rw [RU,aaC _ _ _ (GH h).1 (GH h).2]
theorem Ui (n:Int):jW ns (nE n) s=(some (bY n),s):=by
 unfold nE;rw [jW,if_neg (by decide),if_pos rfl]
theorem Uh {k:Int} {nm a b:aj} {x y:aB} (hk:3<k) (hx:jW ns x s=(some a,s)) (hy:jW ns y s=(some b,s)):jW ns (.mk k ⟨#[]⟩ 0 nm [x,y]) s=(su k nm [a,b],s):=by
 rw [aeQ _ _ _ _ _ hk,J6 _ _ _ hx,J6 _ _ _ hy,uy]
theorem NU {n t:aj} (hn:ioN n=true) (h:t.size≤65536):wY ns s n t=(some true,{s with v:=s.v.set (zy ns n) t}):=by
 unfold wY
 rw [if_neg (fun e=>e.elim (GH hn).1 (by omega)),if_neg (GH hn).2]
theorem WR {t:aj} (h:t.size≤65536):wY ns s fH t=yj s t:=by
 unfold wY
 rw [if_neg (fun e=>e.elim aeN (by omega)),if_pos rfl]
end
theorem ada (k:Int) (nm a b:aj) (x y:Int) (ha:aS a=some x) (hb:aS b=some y) (h7:k≠7) (h6:k≠6) (h8:k≠8) :
  su k nm [a,b]=(if k=9 then qV x y else if k=10 then aeR x y else if k=11 then Um x y else if k=12 then Un x y else Ob x y).map bY:=by
 unfold su
 rw [if_neg h7,if_neg h6]
 show sD k a b=_
 unfold sD
 rw [if_neg h8,ha,hb]
 rfl
theorem Cj {n:Int} (h:eH n):(bY n).size≤65536:=by have:=mX h;omega
section
variable {ns:List aj} {s:jl}
end
def sN:aj:=⟨#[78]⟩
def Ce:List aj:=[sX,sN]
end Go.Proofs.YtodebjhalipefaaGreatDoor

namespace Go.Proofs.YtodebjhalipefaaGreatDoor
set_option linter.all false
open Go.RowKit
def sL:aj:=⟨#[76]⟩
def ab1:aj:=⟨#[84,69,76,76]⟩
def Oj:aF:=NT Gx sX aiv
def aaF:aF:=stV b0 (fE zB [vE sN,nE 0]) b0 ab1 b0
def aaG:aF:=stV b0 (fE sQ [vE sX,vE sL]) b0 Gx b0
def aaH:aF:=stA ab1 fH (vE sX) b0 b0 b0
def aaI:aF:=stA b0 sL (vE sX) b0 b0 b0
def aaJ:aF:=stA b0 sN (nE 1) Gx b0 b0
def pX:List aF:=[Oj,aaF,aaG,aaH,aaI,aaJ]
def oM:List aj:=[sX,sN,sL]
def gG:Option aj→List aj→List aj
 | _,[]=>[]
 | p,t::r=>if p=some t then gG (some t) r else t::gG (some t) r
section
variable (x n l:aj) (inp out:List aj) (td:Nat)
theorem Us (t:aj) (h:t.size≤65536):oL oM Oj ⟨[x,n,l],t::inp,out,td⟩=(some true,⟨[t,n,l],inp,out,td⟩):=by
 unfold Oj
 rw [Gy _ _ _ _ _ yx.1 yx.2]
 dsimp only
 rw [if_neg (by omega)];rfl
theorem aeU:oL oM Oj ⟨[x,n,l],[],out,td⟩=(some false,⟨[x,n,l],[],out,td⟩):=by
 unfold Oj
 rw [Gy _ _ _ _ _ yx.1 yx.2]
theorem Ut:jW oM (vE sX) ⟨[x,n,l],inp,out,td⟩=(some x,⟨[x,n,l],inp,out,td⟩):=by rw [LQ (by decide)];rfl
theorem Uu (k:Int) (hn:aS n=some k):oL oM aaF ⟨[x,n,l],inp,out,td⟩=(some (decide (k=0)),⟨[x,n,l],inp,out,td⟩):=by
 have h1:jW oM (vE sN) ⟨[x,n,l],inp,out,td⟩=(some n,⟨[x,n,l],inp,out,td⟩):=by rw [LQ (by decide)];rfl
 unfold aaF fE
 rw [abX (Uh (by decide) h1 (Ui 0)),Oe,aeL _ _ k 0 hn (wI (by unfold eH;omega))]
 unfold uz
 cases decide (k=0)<;>rfl
theorem ab2:oL oM aaG ⟨[x,n,l],inp,out,td⟩=(some (decide (x=l)),⟨[x,n,l],inp,out,td⟩):=by
 have h1:jW oM (vE sL) ⟨[x,n,l],inp,out,td⟩=(some l,⟨[x,n,l],inp,out,td⟩):=by rw [LQ (by decide)];rfl
 unfold aaG fE
 rw [abX (Uh (by decide) (Ut x n l inp out td) h1),Oe,RH]
 unfold uz
 cases decide (x=l)<;>rfl
theorem agQ (h:x.size≤65536):oL oM aaH ⟨[x,n,l],inp,out,td⟩=yj ⟨[x,n,l],inp,out,td⟩ x:=by
 unfold aaH
 rw [Gz (Ut x n l inp out td),WR h]
theorem agR (h:x.size≤65536):oL oM aaI ⟨[x,n,l],inp,out,td⟩=(some true,⟨[x,n,x],inp,out,td⟩):=by
 unfold aaI
 rw [Gz (Ut x n l inp out td),NU (by decide) h];rfl
theorem agS:oL oM aaJ ⟨[x,n,l],inp,out,td⟩=(some true,⟨[x,bY 1,l],inp,out,td⟩):=by
 unfold aaJ
 rw [Gz (Ui 1),NU (by decide) (Cj (by unfold eH;omega))];rfl
end
theorem aaK {x n l:aj} {inp out:List aj} {td:Nat} (hx:x.size≤65536) (hs:td=kQ out) (rest:List aj)
  (H:∀td',td'=kQ (out++[x])→∃f r,fC pX oM 0 ⟨[x,bY 1,x],inp,out++[x],td'⟩ f r∧NK (out++[x]++rest) r∧f≤6*inp.length+1) :
  ∃f r,fC pX oM 3 ⟨[x,n,l],inp,out,td⟩ f r∧NK (out++x::rest) r∧f≤6*inp.length+4:=by
 have h3:=agQ x n l inp out td hx
 rcases Gv ⟨[x,n,l],inp,out,td⟩ x rest hs with ⟨e,e2⟩|⟨e,e2⟩
 ·obtain ⟨f,q,h4,h5,h6⟩:=H _ e2
  refine ⟨_,_,fC.step (j:=4) rfl (h3.trans e) rfl (fC.step (j:=5) rfl (agR x n l inp _ _ hx) rfl (fC.step (j:=0) rfl (agS x n x inp _ _) rfl h4)),?_,by omega⟩
  rw [List.append_assoc] at h5;exact h5
 ·exact ⟨_,_,fC.stop rfl (h3.trans e),.inr ⟨rfl,e2⟩,by omega⟩
theorem Jj:∀(inp:List aj) (x n l:aj) (p:Option aj) (out:List aj) (td:Nat),(∀t∈inp,t.size≤65536)→(p=none∧aS n=some 0)∨(p=some l∧aS n=some 1)→td=kQ out→
  ∃f r,fC pX oM 0 ⟨[x,n,l],inp,out,td⟩ f r∧NK (out++gG p inp) r∧f≤6*inp.length+1
 | [],x,n,l,p,out,td,_,_,hs=>by
  refine ⟨_,_,fC.step (j:=6) rfl (aeU x n l out td) rfl (fC.fin (by decide)),.inl ⟨rfl,by simp [gG]⟩,by simp⟩
 | t::r,x,n,l,p,out,td,hz,hp,hs=>by
  have ht:=hz t (List.mem_cons_self ..)
  have hr:=fun y hy=>hz y (List.mem_cons_of_mem _ hy)
  have H:=fun (n' l':aj)=>aaK (n:=n') (l:=l') (inp:=r) ht hs (gG (some t) r) (fun td' h=>Jj r t (bY 1) t (some t) (out++[t]) td' hr (.inr ⟨rfl,wI (by unfold eH;omega)⟩) h)
  rw [gG]
  rcases hp with ⟨rfl,hn⟩|⟨rfl,hn⟩
  ·rw [if_neg (by simp)]
   obtain ⟨f,q,h1,h2,h3⟩:=H n l
   exact ⟨_,_,fC.step (j:=1) rfl (Us x n l r out td t ht) rfl (fC.step (j:=3) rfl (Uu t n l r out td 0 hn) rfl h1),h2,by rw [List.length_cons];omega⟩
  ·by_cases he:t=l
   ·subst he
    rw [if_pos rfl]
    have h2:=ab2 t n t r out td
    rw [ak rfl] at h2
    obtain ⟨f,q,h4,h5,h6⟩:=Jj r t n t (some t) out td hr (.inr ⟨rfl,hn⟩) hs
    exact ⟨_,_,fC.step (j:=1) rfl (Us x n t r out td t ht) rfl (fC.step (j:=2) rfl (Uu t n t r out td 1 hn) rfl (fC.step (j:=0) rfl h2 rfl h4)),h5,by rw [List.length_cons];omega⟩
   ·rw [if_neg (fun e=>he (Option.some.inj e).symm)]
    have h2:=ab2 t n l r out td
    rw [au he] at h2
    obtain ⟨f,q,h4,h5,h6⟩:=H n l
    exact ⟨_,_,fC.step (j:=1) rfl (Us x n l r out td t ht) rfl (fC.step (j:=2) rfl (Uu t n l r out td 1 hn) rfl (fC.step (j:=3) rfl h2 rfl h4)),h5,by rw [List.length_cons];omega⟩
theorem Ol:∀(inp:List aj) (p:Option aj),kQ (gG p inp)≤kQ inp
 | [],_=>Nat.le_refl _
 | t::r,p=>by
  have ih:=Ol r (some t)
  have e:∀q,kQ (t::q)=t.size+1+kQ q:=fun q=>by simp [kQ]
  rw [gG,e]
  split
  ·omega
  ·rw [e];omega
theorem adi {nb:aj→Bool} {kb:Int→Bool} (h4:kb 4=false) (hk:∀st∈pX,okS nb kb st=true) (input:List aj):Gt pX input (gG none input):=by
 refine NM (ns:=oM) h4 (by decide) hk (by decide +kernel) fun hb=>?_
 obtain ⟨f,r,h1,h2,h3⟩:=Jj input b0 b0 b0 none [] 0 (Je hb) (.inl ⟨rfl,NV⟩) rfl
 refine ⟨f,r,h1,h2,fun hbg=>?_⟩
 obtain ⟨b1,b2⟩:=RG hbg
 have:=RN input b1
 have:=Ol input none
 omega
end Go.Proofs.YtodebjhalipefaaGreatDoor

namespace Go.Proofs.YtodebjhalipefaaGreatDoor
set_option linter.all false
open Go.RowKit
theorem GL {ops:Array Oper} {rest:List Oper} {o:Oper} {a:Act} {Q:Exit→Act→World→Prop} {w:World} (hgd:o.guard=none) (s x:Operand)
  (ho:o.op=.call {callee:=.builtin .append,args:=#[s,x],argTypes:=#[22,22]})
  (v:Value) (n:Nat) (l:List aj) (t:aj) (hnd:n=l.length) (hs:a.eval s=v) (B:Nat) (hown:aP w B 9 1 v n (oC l)) (g:Nat) (hx:a.eval x=.slice (some ⟨g,0,none⟩) 1 1)
  (hg:w.heap[g]?=some (.cells #[.string t] 9 (0,0))) (hn:l.length≤2000000) (hB:B≤w.heap.size)
  (h:∀a' c' n' w',Hid (n'=(l++[t]).length)→aP w' B 9 1 (.slice a' n' c') n' (oC (l++[t]))→Kept (fun b=>B≤b) w w'→wpList Tryz.prog ops Q rest (a.put o.dst (.slice a' n' c')) w') :
  wpList Tryz.prog ops Q (o::rest) a w:=by
 obtain ⟨i0,hi0,hz0,hz1,hz2⟩:=info_parts Oi
 have hsr:Src Tryz.prog 1 22 (.slice (some ⟨g,0,none⟩) 1 1) 1 [.string t] w :=
  Src.ofSlice _ Tryz.underlying22 _ _ _ _ rfl (World.news_of_block (fr:=(0,0)) (cs:=#[.string t]) hg) (by intro u hu;simp at hu;subst hu;rfl)
 refine dw w hgd s x _ _ ho B 9 i0 (.string ⟨#[]⟩) 1 16 Tryz.underlying22 hi0 hz0 hz1 hz2 rfl v n (oC l) hs hown _ 1 _ hx hsr (by unfold maxLen;omega) (by omega) hB ?_
 intro a' c' w' hW hgr _
 rw [Kq] at hW
 exact h a' c' _ w' (by unfold Hid;rw [List.length_append,hnd];rfl) hW ((Kept.refl _ w).grown hgr fun k hk=>.inl (hown.lt k hk).1)
end Go.Proofs.YtodebjhalipefaaGreatDoor

namespace Go.Proofs.YtodebjhalipefaaGreatDoor
set_option linter.all false
open Go.RowKit
def WM:aj:=⟨#[68,79,78,69]⟩
def NS:aF:=NT Gx sX WM
def cnt1:aF:=stA b0 sN (opE 9 (vE sN) (nE 1)) Gx b0 b0
def cnt2:aF:=stA WM fH (opE 9 (vE sN) (nE 0)) b0 b0 b0
def uD:List aF:=[NS,cnt1,cnt2]
section
variable (x n:aj) (inp out:List aj) (td:Nat)
theorem agL (t:aj) (h:t.size≤65536):oL Ce NS ⟨[x,n],t::inp,out,td⟩=(some true,⟨[t,n],inp,out,td⟩):=by
 unfold NS
 rw [Gy _ _ _ _ _ yx.1 yx.2]
 dsimp only
 rw [if_neg (by omega)];rfl
theorem WQ:oL Ce NS ⟨[x,n],[],out,td⟩=(some false,⟨[x,n],[],out,td⟩):=by
 unfold NS
 rw [Gy _ _ _ _ _ yx.1 yx.2]
theorem RQ (k m:Int) (hn:aS n=some k) (hm:eH m) (hz:eH (k+m)):jW Ce (opE 9 (vE sN) (nE m)) ⟨[x,n],inp,out,td⟩=(some (bY (k+m)),⟨[x,n],inp,out,td⟩):=by
 have h1:jW Ce (vE sN) ⟨[x,n],inp,out,td⟩=(some n,⟨[x,n],inp,out,td⟩):=by rw [LQ (by decide)];rfl
 unfold opE
 rw [Uh (by decide) h1 (Ui m),ada _ _ _ _ k m hn (wI hm) (by decide) (by decide) (by decide),if_pos rfl]
 unfold qV
 rw [Ci hz];rfl
theorem agM (k:Int) (hn:aS n=some k) (hz:eH (k+1)):oL Ce cnt1 ⟨[x,n],inp,out,td⟩=(some true,⟨[x,bY (k+1)],inp,out,td⟩):=by
 unfold cnt1
 rw [Gz (RQ x n inp out td k 1 hn (by unfold eH;omega) hz),NU (by decide) (Cj hz)];rfl
theorem agN (k:Int) (hn:aS n=some k) (hz:eH k):oL Ce cnt2 ⟨[x,n],inp,out,td⟩=yj ⟨[x,n],inp,out,td⟩ (bY k):=by
 have h:=RQ x n inp out td k 0 hn (by unfold eH;omega) (by rw [Int.add_zero];exact hz)
 rw [Int.add_zero] at h
 unfold cnt2
 rw [Gz h,WR (Cj hz)]
end
theorem RS:∀(inp:List aj) (x n:aj) (k:Nat) (out:List aj) (td:Nat),(∀t∈inp,t.size≤65536)→aS n=some (k:Int)→k+inp.length≤2000000→td=kQ out→
  ∃f r,fC uD Ce 0 ⟨[x,n],inp,out,td⟩ f r∧NK (out++[bY (k+inp.length:Nat)]) r∧f≤2*inp.length+2
 | [],x,n,k,out,td,_,hn,hk,hs=>by
  have h2:=agN x n [] out td k hn (by unfold eH;omega)
  rcases Gv ⟨[x,n],[],out,td⟩ (bY k) [] hs with ⟨e,e2⟩|⟨e,e2⟩
  ·exact ⟨_,_,fC.step (j:=2) rfl (WQ x n out td) rfl (fC.step (j:=3) rfl (h2.trans e) rfl (fC.fin (by decide))),.inl ⟨rfl,rfl⟩,by simp⟩
  ·exact ⟨_,_,fC.step (j:=2) rfl (WQ x n out td) rfl (fC.stop rfl (h2.trans e)),.inr ⟨rfl,e2⟩,by simp⟩
 | t::r,x,n,k,out,td,hz,hn,hk,hs=>by
  have ht:=hz t (List.mem_cons_self ..)
  rw [List.length_cons] at hk
  have hi:eH ((k:Int)+1):=by unfold eH;omega
  obtain ⟨f,q,h1,h2,h3⟩:=RS r t (bY ((k:Int)+1)) (k+1) out td (fun y hy=>hz y (List.mem_cons_of_mem _ hy)) (by rw [wI hi];rfl) (by omega) hs
  refine ⟨_,_,fC.step (j:=1) rfl (agL x n r out td t ht) rfl (fC.step (j:=0) rfl (agM t n r out td k hn hi) rfl h1),?_,by rw [List.length_cons];omega⟩
  rw [List.length_cons,show k+(r.length+1)=k+1+r.length by omega]
  exact h2
theorem adb {nb:aj→Bool} {kb:Int→Bool} (h4:kb 4=false) (hk:∀st∈uD,okS nb kb st=true) (input:List aj) (hl:input.length≤2000000):Gt uD input [bY (input.length:Nat)]:=by
 refine NM (ns:=Ce) h4 (by decide) hk (by decide +kernel) fun hb=>?_
 obtain ⟨f,r,h1,h2,h3⟩:=RS input b0 b0 0 [] 0 (Je hb) NV (by omega) rfl
 rw [Nat.zero_add] at h2
 refine ⟨f,r,h1,h2,fun hbg=>?_⟩
 obtain ⟨b1,b2⟩:=RG hbg
 have:=mX (n:=(input.length:Nat)) (by unfold eH;omega)
 rw [Fp];omega
end Go.Proofs.YtodebjhalipefaaGreatDoor
