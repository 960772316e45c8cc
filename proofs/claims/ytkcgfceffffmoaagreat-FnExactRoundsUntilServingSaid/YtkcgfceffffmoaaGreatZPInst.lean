/- Configurations proposed, activated, installed. -/
import Derived.Test.YtkcgfceffffmoaaGreatZPUp
import Derived.Test.YtkcgfceffffmoaaGreatZPSafe
namespace Go.Proofs.YtkcgfceffffmoaaGreat.En
open Go
theorem ao5 {m:ei} (h:JQ 1048576 m) (hv:ib m=some (true,())):m.configs.length<=20:=by
 obtain⟨f,_,_⟩:=SX (q9 h) hv;rcases bn m.configs.length with h0 | h0
 ·omega
 ·have hk:m.configs.length - 1 < m.configs.length:=by omega
  obtain⟨f1,f2⟩:=f _ hk;have:=(Gw (mr (h.2 _ (bc hk))) f1).2.2.2.2.1;omega
theorem am1 {α:Type} (w:α->Int) (l:List α) (x:α):Gx w (l++ [x])=Gx w l+w x:=by rw [Wf]; simp [Gx]
theorem adb (m:ei) (c:dW) (h:JQ 1048576 m) (hc:nm 1048576 c): ∃ r b,o3 m c=some (r,b,())/\o6 m c=some (r,b,())/\JQ 1048576 r/\tMl r<=tMl m+1+XT c/\(b=false->r=m)/\(b=true->r=⟨m.configs++ [c],m.activated⟩/\ib m=some (true,())/\fI c=some (true,())/\c.epoch=(m.configs.length:Int)+1):=by
 obtain⟨v,v1,v2⟩:=masterLog m (q9 h);obtain⟨u,u1,u2⟩:=Bs c (mr hc);have hn:=agk c;have hl:=h.1;unfold o3 yg o6 yI;simp only [(Vd m h).1,(Vd m h).2,(Hm c hc).1,(Hm c hc).2,v1,v2,u1,u2,ae,iq,sx];cases v with
 | false=>exact⟨m,false,rfl,rfl,h,by omega,fun _=>rfl,nofun⟩
 | true=>
   cases u with
   | false=>exact⟨m,false,rfl,rfl,h,by omega,fun _=>rfl,nofun⟩
   | true=>
     have hm:=ao5 h v1;rw [iY (n:=(m.configs.length:Int)+1) (by omega) (by omega)];by_cases he:c.epoch=(m.configs.length:Int)+1
     ·have hs: (m.configs++ [c]).length*64<=2 ^ 40:=Qm (by simp; omega) (by decide);simp only [ew,if_pos he,ez,if_pos hs];refine⟨_,true,rfl,rfl,⟨by simp; omega,fun d hd=> ?_⟩,?_,nofun,fun _=>⟨rfl,trivial,trivial,he⟩⟩
      ·rcases bu.1 hd with h1 | h1
       ·exact h.2 d h1
       ·rw [aD.1 h1]; exact hc
      ·unfold tMl;simp only [am1,CX,bk,cj];omega
     ·simp only [ew,if_neg he];exact⟨m,false,rfl,rfl,h,by omega,fun _=>rfl,nofun⟩
theorem aba (m:ei) (e:Int) (h:JQ 1048576 m): ∃ r b,nN m e=some (r,b,())/\mC m e=some (r,b,())/\JQ 1048576 r/\tMl r=tMl m/\(b=false->r=m)/\(b=true->r=⟨m.configs,e⟩/\ib m=some (true,())/\e=(m.configs.length:Int)/\m.activated < e):=by
 obtain⟨v,v1,v2⟩:=masterLog m (q9 h);unfold nN wl mC ww;simp only [(Vd m h).1,(Vd m h).2,v1,v2,ae,iq,sx,ec];cases v with
 | false=>exact⟨m,false,rfl,rfl,h,rfl,fun _=>rfl,nofun⟩
 | true=>
   simp only [ew];by_cases h1:e=(m.configs.length:Int)
   ·by_cases h2:e<=m.activated
    ·simp only [if_pos h1,if_pos h2];exact⟨m,false,rfl,rfl,h,rfl,fun _=>rfl,nofun⟩
    ·simp only [if_pos h1,if_neg h2];exact⟨⟨m.configs,e⟩,true,rfl,rfl,h,rfl,nofun,fun _=>⟨rfl,trivial,h1,by omega⟩⟩
   ·simp only [if_neg h1];exact⟨m,false,rfl,rfl,h,rfl,fun _=>rfl,nofun⟩
def yS (l:List ed):Nat:=l.length - 3
theorem ao6 (l:List ed) (hl:l.length<=1048576): (if IntKind.wrap .i64 ((l.length:Int) - 3) > 0 then IntKind.wrap .i64 ((l.length:Int) - 3) else 0)=((yS l:Nat):Int):=by
 rw [iY (by omega) (by omega)];unfold yS;split <;> omega
theorem aqx (l:List ed) (hl:l.length<=1048576) (hv:sM l=some (true,())):Bp l=some (((yS l:Nat):Int),l.drop (yS l),()):=by
 unfold Bp JH;have hc:yS l<=l.length:=by unfold yS; omega
 have c1: (0:Int)<=((yS l:Nat):Int)/\((yS l:Nat):Int)<=(l.length:Int)/\(l.length:Int)<=(l.length:Int):=by omega
 have ht: ((l.drop (yS l)).take (l.length - yS l))=l.drop (yS l):=bi (by simp);simp only [hv,ae,bw,fA,ao6 l hl,ez,if_pos c1,aw,ht,(CY (l.drop (yS l)) (by simp; omega)).2]
def ai0 (s:eb) (c:dW) (l:List ed) (w:Bool):eb:=if w=true then ⟨s.up,true,s.version,c.epoch,c,((yS l:Nat):Int),l.drop (yS l),(l.length:Int),[]⟩ else ⟨s.up,true,s.version,c.epoch,c,0,l,(l.length:Int),[]⟩
theorem aqy {s:eb} {c:dW} {l:List ed} {w:Bool} (hc:nm 1048576 c) (hl:l.length<=1048576):nX 1048576 (ai0 s c l w)/\SY (ai0 s c l w)<=XT c+CX l:=by
 unfold ai0;cases w
 ·refine⟨⟨hc,hl,aK _⟩,?_⟩;simp only [SY,CX,be,if_false,b9];omega
 ·refine⟨⟨hc,by simp; omega,aK _⟩,?_⟩;simp only [SY,CX,if_true,b9,cw];omega
theorem adc (s:eb) (c:dW) (id:Int) (l:List ed) (hs:nX 1048576 s) (hc:nm 1048576 c) (hl:l.length<=1048576): ∃ r b,o4 s c id l=some (r,b,())/\o8 s c id l=some (r,b,())/\nX 1048576 r/\SY r<=SY s+XT c+CX l/\(b=false->r=s)/\(b=true-> ∃ w,r=ai0 s c l w):=by
 obtain⟨n,r1,r2,_⟩:=akF c id (mr hc);obtain⟨e,e1,e2⟩:=FQ l (gJ hl);obtain⟨q,q1,q2⟩:=aoU l (gJ hl);have t1:=aqn s;have t2:=agk c;have t3:=aqm l;have no: ∃ r b,some (s,false,())=some (r,b,())/\some (s,false,())=some (r,b,())/\nX 1048576 r/\SY r<=SY s+XT c+CX l/\(b=false->r=s)/\(b=true-> ∃ w,r=ai0 s c l w):=⟨s,false,rfl,rfl,hs,by omega,fun _=>rfl,nofun⟩
 unfold o4 yk o8 yP;simp only [r1,r2,(Nj s hs).1,(Nj s hs).2,(Hm c hc).1,(Hm c hc).2,(CY l hl).1,(CY l hl).2,vk,z6,e1,e2,q1,q2,ae,iq,ec];have hcut:yS l<=l.length:=by unfold yS; omega
 have c1: (0:Int)<=((yS l:Nat):Int)/\((yS l:Nat):Int)<=(l.length:Int)/\(l.length:Int)<=(l.length:Int):=by omega
 have ht: ((l.drop (yS l)).take (l.length - yS l))=l.drop (yS l):=bi (by simp);cases hn:n==0 with
 | true=>exact no
 | false=>
 rcases KG l (gJ hl) with ⟨a1,a2,_⟩ | ⟨a1,a2⟩
 case inr=>simp only [a1,a2,ae,fA]; exact no
 simp only [a1,a2,ae,ew,fA,ao6 l hl,ez,if_pos c1,aw,ht,(CY (l.drop (yS l)) (by simp; omega)).1,aqx l hl a2];cases sP s.version 1 2 with
 | false=>exact no
 | true=>
 cases sP s.epoch 0 c.epoch with
 | false=>exact no
 | true=>
 simp only [ew];by_cases he:e > c.epoch
 ·simp only [if_pos he]; exact no
 simp only [if_neg he]
 have yes: ∀ w,∃ r b,some (ai0 s c l w,true,())=some (r,b,())/\some (ai0 s c l w,true,())=some (r,b,())/\nX 1048576 r/\SY r<=SY s+XT c+CX l/\(b=false->r=s)/\(b=true-> ∃ w,r=ai0 s c l w):=by
  intro w;obtain⟨o1,o2⟩:=aqy (s:=s) (c:=c) (l:=l) (w:=w) hc hl;exact⟨_,true,rfl,rfl,o1,by omega,nofun,fun _=>⟨w,rfl⟩⟩
 cases s.version==1 with
 | false=>
   cases n==3 with
   | false=>exact yes false
   | true=>exact yes true
 | true=>
   cases q with
   | true=>exact no
   | false=>
     cases n==3 with
     | false=>exact yes false
     | true=>exact yes true
end Go.Proofs.YtkcgfceffffmoaaGreat.En
