/- Configurations proposed, activated, installed. -/
import Derived.Test.YtjnleglhcppgcaaGreatZPUp
import Derived.Test.YtjnleglhcppgcaaGreatZPSafe
namespace Go.Proofs.YtjnleglhcppgcaaGreat.En
open Go
theorem O0 {m:dY} (h:uF 1048576 m) (hv:fj m=some (true,())):m.configs.length<=20:=by
 obtain⟨f,_,_⟩:=zK (j5 h) hv;rcases bh m.configs.length with h0|h0
 ·omega
 ·have hk:m.configs.length-1<m.configs.length:=by omega
  obtain⟨f1,f2⟩:=f _ hk;have:=(sA (gQ (h.2 _ (aW hk))) f1).2.2.2.2.1;omega
theorem M1 {α:Type} (w:α->Int) (l:List α) (x:α):eN w (l++ [x])=eN w l+w x:=by rw[sX]; simp[eN]
theorem Fu (m:dY) (c:dW) (h:uF 1048576 m) (hc:gK 1048576 c): ∃r b,lN m c=some (r,b,())/\lR m c=some (r,b,())/\uF 1048576 r/\M6 r<=M6 m+1+ue c/\(b=false->r=m)/\(b=true->r=⟨m.configs++ [c],m.activated⟩/\fj m=some (true,())/\eC c=some (true,())/\c.epoch=(m.configs.length:Int)+1):=by
 obtain⟨v,v1,v2⟩:=masterLog m (j5 h);obtain⟨u,u1,u2⟩:=oG c (gQ hc);have hn:=Ct c;have hl:=h.1;unfold lN lR;simp only[(AW m h).1,(AW m h).2,(sZ c hc).1,(sZ c hc).2,v1,v2,u1,u2,ae,fg,kt];cases v with
 |false=>exact⟨m,false,rfl,rfl,h,by omega,fun _=>rfl,nofun⟩
 |true=>
  cases u with
  |false=>exact⟨m,false,rfl,rfl,h,by omega,fun _=>rfl,nofun⟩
  |true=>
   have hm:=O0 h v1;rw[eK (n:=(m.configs.length:Int)+1) (by omega) (by omega)];by_cases he:c.epoch=(m.configs.length:Int)+1
   ·have hs: (m.configs++ [c]).length*64<=2 ^ 40:=yG (by simp; omega) (by decide);simp only[eb,if_pos he,dZ,if_pos hs];refine⟨_,true,rfl,rfl,⟨by simp; omega,fun d hd=> ?_⟩,?_,nofun,fun _=>⟨rfl,trivial,trivial,he⟩⟩
    ·rcases bq.1 hd with h1|h1
     ·exact h.2 d h1
     ·rw[ax.1 h1]; exact hc
    ·unfold M6;simp only[M1,ev,be,ch];omega
   ·simp only[eb,if_neg he];exact⟨m,false,rfl,rfl,h,by omega,fun _=>rfl,nofun⟩
theorem Ek (m:dY) (e:Int) (h:uF 1048576 m): ∃r b,kR m e=some (r,b,())/\jn m e=some (r,b,())/\uF 1048576 r/\M6 r=M6 m/\(b=false->r=m)/\(b=true->r=⟨m.configs,e⟩/\fj m=some (true,())/\e=(m.configs.length:Int)/\m.activated<e):=by
 obtain⟨v,v1,v2⟩:=masterLog m (j5 h);unfold kR jn;simp only[(AW m h).1,(AW m h).2,v1,v2,ae,fg,kt,dV];cases v with
 |false=>exact⟨m,false,rfl,rfl,h,rfl,fun _=>rfl,nofun⟩
 |true=>
  simp only[eb];by_cases h1:e=(m.configs.length:Int)
  ·by_cases h2:e<=m.activated
   ·simp only[if_pos h1,if_pos h2];exact⟨m,false,rfl,rfl,h,rfl,fun _=>rfl,nofun⟩
   ·simp only[if_pos h1,if_neg h2];exact⟨⟨m.configs,e⟩,true,rfl,rfl,h,rfl,nofun,fun _=>⟨rfl,trivial,h1,by omega⟩⟩
  ·simp only[if_neg h1];exact⟨m,false,rfl,rfl,h,rfl,fun _=>rfl,nofun⟩
def np (l:List ea):Nat:=l.length-3
theorem O1 (l:List ea) (hl:l.length<=1048576): (if IntKind.wrap .i64 ((l.length:Int)-3)>0 then IntKind.wrap .i64 ((l.length:Int)-3) else 0)=((np l:Nat):Int):=by rw[eK (by omega) (by omega)];unfold np;split<;>omega
theorem Qy (l:List ea) (hl:l.length<=1048576) (hv:mq l=some (true,())):rq l=some (((np l:Nat):Int),l.drop (np l),()):=by
 unfold rq;have hc:np l<=l.length:=by unfold np; omega
 have c1: (0:Int)<=((np l:Nat):Int)/\((np l:Nat):Int)<=(l.length:Int)/\(l.length:Int)<=(l.length:Int):=by omega
 have ht: ((l.drop (np l)).take (l.length-np l))=l.drop (np l):=bf (by simp);simp only[hv,ae,bg,ek,O1 l hl,dZ,if_pos c1,ao,ht,(pk (l.drop (np l)) (by simp; omega)).2]
def JG (s:dX) (c:dW) (l:List ea) (w:Bool):dX:=if w=true then ⟨s.up,true,s.version,c.epoch,c,((np l:Nat):Int),l.drop (np l),(l.length:Int),[]⟩ else ⟨s.up,true,s.version,c.epoch,c,0,l,(l.length:Int),[]⟩
theorem Qz {s:dX} {c:dW} {l:List ea} {w:Bool} (hc:gK 1048576 c) (hl:l.length<=1048576):gW 1048576 (JG s c l w)/\sB (JG s c l w)<=ue c+ev l:=by
 unfold JG;cases w
 ·refine⟨⟨hc,hl,aF _⟩,?_⟩;simp only[sB,ev,aY,if_false,bX];omega
 ·refine⟨⟨hc,by simp; omega,aF _⟩,?_⟩;simp only[sB,ev,if_true,bX,ci];omega
theorem Fv (s:dX) (c:dW) (id:Int) (l:List ea) (hs:gW 1048576 s) (hc:gK 1048576 c) (hl:l.length<=1048576): ∃r b,lO s c id l=some (r,b,())/\lT s c id l=some (r,b,())/\gW 1048576 r/\sB r<=sB s+ue c+ev l/\(b=false->r=s)/\(b=true-> ∃w,r=JG s c l w):=by
 obtain⟨n,r1,r2,_⟩:=KX c id (gQ hc);obtain⟨e,e1,e2⟩:=ru l (eR hl);obtain⟨q,q1,q2⟩:=OO l (eR hl);have t1:=Qn s;have t2:=Ct c;have t3:=jb l;have no: ∃r b,some (s,false,())=some (r,b,())/\some (s,false,())=some (r,b,())/\gW 1048576 r/\sB r<=sB s+ue c+ev l/\(b=false->r=s)/\(b=true-> ∃w,r=JG s c l w):=⟨s,false,rfl,rfl,hs,by omega,fun _=>rfl,nofun⟩
 unfold lO lT;simp only[r1,r2,(w5 s hs).1,(w5 s hs).2,(sZ c hc).1,(sZ c hc).2,(pk l hl).1,(pk l hl).2,lV,nX,e1,e2,q1,q2,ae,fg,dV];have hcut:np l<=l.length:=by unfold np; omega
 have c1: (0:Int)<=((np l:Nat):Int)/\((np l:Nat):Int)<=(l.length:Int)/\(l.length:Int)<=(l.length:Int):=by omega
 have ht: ((l.drop (np l)).take (l.length-np l))=l.drop (np l):=bf (by simp);cases hn:n==0 with
 |true=>exact no
 |false=>
 rcases vj l (eR hl) with ⟨a1,a2,_⟩| ⟨a1,a2⟩
 case inr=>simp only[a1,a2,ae,ek]; exact no
 simp only[a1,a2,ae,eb,ek,O1 l hl,dZ,if_pos c1,ao,ht,(pk (l.drop (np l)) (by simp; omega)).1,Qy l hl a2];cases kE s.version 1 2 with
 |false=>exact no
 |true=>
 cases kE s.epoch 0 c.epoch with
 |false=>exact no
 |true=>
 simp only[eb];by_cases he:e>c.epoch
 ·simp only[if_pos he]; exact no
 simp only[if_neg he]
 have yes: ∀w,∃r b,some (JG s c l w,true,())=some (r,b,())/\some (JG s c l w,true,())=some (r,b,())/\gW 1048576 r/\sB r<=sB s+ue c+ev l/\(b=false->r=s)/\(b=true-> ∃w,r=JG s c l w):=by intro w;obtain⟨o1,o2⟩:=Qz (s:=s) (c:=c) (l:=l) (w:=w) hc hl;exact⟨_,true,rfl,rfl,o1,by omega,nofun,fun _=>⟨w,rfl⟩⟩
 cases s.version==1 with
 |false=>
  cases n==3 with
  |false=>exact yes false
  |true=>exact yes true
 |true=>
  cases q with
  |true=>exact no
  |false=>
   cases n==3 with
   |false=>exact yes false
   |true=>exact yes true
end Go.Proofs.YtjnleglhcppgcaaGreat.En
