/- Configurations proposed, activated, installed. -/
import Derived.Test.YtjnleglhcppgcaaGreatZPUp
import Derived.Test.YtjnleglhcppgcaaGreatZPSafe
namespace Go.Proofs.YtjnleglhcppgcaaGreat.En
open Go
theorem Rx {m:ev} (h:wL 1048576 m) (hv:fL m=some (true,())):m.configs.length<=20:=by
 obtain⟨f,_,_⟩:=BL (k9 h) hv;rcases bn m.configs.length with h0|h0
 ·omega
 ·have hk:m.configs.length-1<m.configs.length:=by omega
  obtain⟨f1,f2⟩:=f _ hk;have:=(sk (fY (h.2 _ (aV hk))) f1).2.2.2.2.1;omega
theorem Pv {α:Type} (w:α->Int) (l:List α) (x:α):oq w (l++ [x])=oq w l+w x:=by rw[Dm]; simp[oq]
theorem Hg (m:ev) (c:ej) (h:wL 1048576 m) (hc:iH 1048576 c): ∃r b,mM m c=some (r,b,())/\mQ m c=some (r,b,())/\wL 1048576 r/\RN r<=RN m+1+xw c/\(b=false->r=m)/\(b=true->r=⟨m.configs++ [c],m.activated⟩/\fL m=some (true,())/\eL c=some (true,())/\c.epoch=(m.configs.length:Int)+1):=by
 obtain⟨v,v1,v2⟩:=masterLog m (k9 h);obtain⟨u,u1,u2⟩:=my c (fY hc);have hn:=Eb c;have hl:=h.1;unfold mM mQ;simp only[(CO m h).1,(CO m h).2,(u6 c hc).1,(u6 c hc).2,v1,v2,u1,u2,ae,fi,gP];cases v with
 |false=>exact⟨m,false,rfl,rfl,h,by omega,fun _=>rfl,nofun⟩
 |true=>
  cases u with
  |false=>exact⟨m,false,rfl,rfl,h,by omega,fun _=>rfl,nofun⟩
  |true=>
   have hm:=Rx h v1;rw[fP (n:=(m.configs.length:Int)+1) (by omega) (by omega)];by_cases he:c.epoch=(m.configs.length:Int)+1
   ·have hs: (m.configs++ [c]).length*64<=2 ^ 40:=A0 (by simp; omega) (by decide);simp only[en,if_pos he,ek,if_pos hs];refine⟨_,true,rfl,rfl,⟨by simp; omega,fun d hd=> ?_⟩,?_,nofun,fun _=>⟨rfl,trivial,trivial,he⟩⟩
    ·rcases bc.1 hd with h1|h1
     ·exact h.2 d h1
     ·rw[az.1 h1]; exact hc
    ·unfold RN;simp only[Pv,lw,aQ,bX];omega
   ·simp only[en,if_neg he];exact⟨m,false,rfl,rfl,h,by omega,fun _=>rfl,nofun⟩
theorem F2 (m:ev) (e:Int) (h:wL 1048576 m): ∃r b,lY m e=some (r,b,())/\mn m e=some (r,b,())/\wL 1048576 r/\RN r=RN m/\(b=false->r=m)/\(b=true->r=⟨m.configs,e⟩/\fL m=some (true,())/\e=(m.configs.length:Int)/\m.activated<e):=by
 obtain⟨v,v1,v2⟩:=masterLog m (k9 h);unfold lY mn;simp only[(CO m h).1,(CO m h).2,v1,v2,ae,fi,gP,ei];cases v with
 |false=>exact⟨m,false,rfl,rfl,h,rfl,fun _=>rfl,nofun⟩
 |true=>
  simp only[en];by_cases h1:e=(m.configs.length:Int)
  ·by_cases h2:e<=m.activated
   ·simp only[if_pos h1,if_pos h2];exact⟨m,false,rfl,rfl,h,rfl,fun _=>rfl,nofun⟩
   ·simp only[if_pos h1,if_neg h2];exact⟨⟨m.configs,e⟩,true,rfl,rfl,h,rfl,nofun,fun _=>⟨rfl,trivial,h1,by omega⟩⟩
  ·simp only[if_neg h1];exact⟨m,false,rfl,rfl,h,rfl,fun _=>rfl,nofun⟩
def jI (l:List eu):Nat:=l.length-3
theorem Nd (l:List eu) (hl:l.length<=1048576): (if IntKind.wrap .i64 ((l.length:Int)-3)>0 then IntKind.wrap .i64 ((l.length:Int)-3) else 0)=((jI l:Nat):Int):=by rw[fP (by omega) (by omega)];unfold jI;split<;>omega
theorem Oc (l:List eu) (hl:l.length<=1048576) (hv:ln l=some (true,())):tw l=some (((jI l:Nat):Int),l.drop (jI l),()):=by
 unfold tw;have hc:jI l<=l.length:=by unfold jI; omega
 have c1: (0:Int)<=((jI l:Nat):Int)/\((jI l:Nat):Int)<=(l.length:Int)/\(l.length:Int)<=(l.length:Int):=by omega
 have ht: ((l.drop (jI l)).take (l.length-jI l))=l.drop (jI l):=bh (by simp);simp only[hv,ae,aY,eB,Nd l hl,ek,if_pos c1,ap,ht,(ot (l.drop (jI l)) (by simp; omega)).2]
def LF (s:eo) (c:ej) (l:List eu) (w:Bool):eo:=if w=true then ⟨s.up,true,s.version,c.epoch,c,((jI l:Nat):Int),l.drop (jI l),(l.length:Int),[]⟩ else ⟨s.up,true,s.version,c.epoch,c,0,l,(l.length:Int),[]⟩
theorem Tt {s:eo} {c:ej} {l:List eu} {w:Bool} (hc:iH 1048576 c) (hl:l.length<=1048576):iZ 1048576 (LF s c l w)/\uJ (LF s c l w)<=xw c+lw l:=by
 unfold LF;cases w
 ·refine⟨⟨hc,hl,aI _⟩,?_⟩;simp only[uJ,lw,bg,if_false,ck];omega
 ·refine⟨⟨hc,by simp; omega,aI _⟩,?_⟩;simp only[uJ,lw,if_true,ck,bO];omega
theorem Hh (s:eo) (c:ej) (id:Int) (l:List eu) (hs:iZ 1048576 s) (hc:iH 1048576 c) (hl:l.length<=1048576): ∃r b,mN s c id l=some (r,b,())/\mS s c id l=some (r,b,())/\iZ 1048576 r/\uJ r<=uJ s+xw c+lw l/\(b=false->r=s)/\(b=true-> ∃w,r=LF s c l w):=by
 obtain⟨n,r1,r2,_⟩:=Jv c id (fY hc);obtain⟨e,e1,e2⟩:=tB l (ff hl);obtain⟨q,q1,q2⟩:=Rl l (ff hl);have t1:=Th s;have t2:=Eb c;have t3:=Tg l;have no: ∃r b,some (s,false,())=some (r,b,())/\some (s,false,())=some (r,b,())/\iZ 1048576 r/\uJ r<=uJ s+xw c+lw l/\(b=false->r=s)/\(b=true-> ∃w,r=LF s c l w):=⟨s,false,rfl,rfl,hs,by omega,fun _=>rfl,nofun⟩
 unfold mN mS;simp only[r1,r2,(wP s hs).1,(wP s hs).2,(u6 c hc).1,(u6 c hc).2,(ot l hl).1,(ot l hl).2,kg,mG,e1,e2,q1,q2,ae,fi,ei];have hcut:jI l<=l.length:=by unfold jI; omega
 have c1: (0:Int)<=((jI l:Nat):Int)/\((jI l:Nat):Int)<=(l.length:Int)/\(l.length:Int)<=(l.length:Int):=by omega
 have ht: ((l.drop (jI l)).take (l.length-jI l))=l.drop (jI l):=bh (by simp);cases hn:n==0 with
 |true=>exact no
 |false=>
 rcases uF l (ff hl) with ⟨a1,a2,_⟩| ⟨a1,a2⟩
 case inr=>simp only[a1,a2,ae,eB]; exact no
 simp only[a1,a2,ae,en,eB,Nd l hl,ek,if_pos c1,ap,ht,(ot (l.drop (jI l)) (by simp; omega)).1,Oc l hl a2];cases je s.version 1 2 with
 |false=>exact no
 |true=>
 cases je s.epoch 0 c.epoch with
 |false=>exact no
 |true=>
 simp only[en];by_cases he:e>c.epoch
 ·simp only[if_pos he]; exact no
 simp only[if_neg he]
 have yes: ∀w,∃r b,some (LF s c l w,true,())=some (r,b,())/\some (LF s c l w,true,())=some (r,b,())/\iZ 1048576 r/\uJ r<=uJ s+xw c+lw l/\(b=false->r=s)/\(b=true-> ∃w,r=LF s c l w):=by intro w;obtain⟨o1,o2⟩:=Tt (s:=s) (c:=c) (l:=l) (w:=w) hc hl;exact⟨_,true,rfl,rfl,o1,by omega,nofun,fun _=>⟨w,rfl⟩⟩
 cases s.version==1 with
 |false=>
  cases n==3 with
  |false=>exact yes false
  |true=>exact yes true
 |true=>
  cases q with
  |true=>exact no
  |false=>
   cases n==3 with
   |false=>exact yes false
   |true=>exact yes true
end Go.Proofs.YtjnleglhcppgcaaGreat.En
