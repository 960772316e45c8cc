/- Configurations proposed, activated, installed. -/
import Derived.Test.YtkcgfceffffmoaaGreatZPUp
import Derived.Test.YtkcgfceffffmoaaGreatZPSafe
namespace Go.Proofs.YtkcgfceffffmoaaGreat.En
open Go
theorem ab2 {m:ak} (h:AE 1048576 m) (hv:cR m=some (true,())):m.configs.length≤20:=by
 obtain⟨f,_,_⟩:=Sa (qp h) hv
 rcases Nat.eq_zero_or_pos m.configs.length with h0 | h0
 ·omega
 ·have hk:m.configs.length - 1 < m.configs.length:=by omega
  obtain⟨f1,f2⟩:=f _ hk
  have:=(NP (kP (h.2 _ (List.getElem_mem hk))) f1).2.2.2.2.1
  omega
theorem Yp {α:Type} (w:α→Int) (l:List α) (x:α):cI w (l++ [x])=cI w l+w x:=by rw [wV]; simp [cI]
theorem PA (m:ak) (c:ai) (h:AE 1048576 m) (hc:iA 1048576 c): ∃ r b,gQ m c=some (r,b,())∧gU m c=some (r,b,())∧AE 1048576 r∧tMl r≤tMl m+1+EX c∧(b=false→r=m)∧(b=true→r=⟨m.configs++ [c],m.activated⟩∧cR m=some (true,())∧bZ c=some (true,())∧c.epoch=(m.configs.length:Int)+1):=by
 obtain⟨v,v1,v2⟩:=masterLog m (qp h)
 obtain⟨u,u1,u2⟩:=uv c (kP hc)
 have hn:=Sb c
 have hl:=h.1
 unfold gQ mM gU nh
 simp only [(IE m h).1,(IE m h).2,(wX c hc).1,(wX c hc).2,v1,v2,u1,u2,Option.bind_some,ma,we]
 cases v with
 | false=>exact⟨m,false,rfl,rfl,h,by omega,fun _=>rfl,nofun⟩
 | true=>
   cases u with
   | false=>exact⟨m,false,rfl,rfl,h,by omega,fun _=>rfl,nofun⟩
   | true=>
     have hm:=ab2 h v1
     rw [ec (n:=(m.configs.length:Int)+1) (by omega) (by omega)]
     by_cases he:c.epoch=(m.configs.length:Int)+1
     ·have hs: (m.configs++ [c]).length*64≤2 ^ 40:=KZ (by simp; omega) (by decide)
      simp only [bA,if_pos he,be,if_pos hs]
      refine⟨_,true,rfl,rfl,⟨by simp; omega,fun d hd=> ?_⟩,?_,nofun,fun _=>⟨rfl,trivial,trivial,he⟩⟩
      ·rcases List.mem_append.1 hd with h1 | h1
       ·exact h.2 d h1
       ·rw [List.mem_singleton.1 h1]; exact hc
      ·unfold tMl
       simp only [Yp,bE,List.length_append,List.length_singleton]
       omega
     ·simp only [bA,if_neg he]
      exact⟨m,false,rfl,rfl,h,by omega,fun _=>rfl,nofun⟩
theorem NT (m:ak) (e:Int) (h:AE 1048576 m): ∃ r b,fX m e=some (r,b,())∧f9 m e=some (r,b,())∧AE 1048576 r∧tMl r=tMl m∧(b=false→r=m)∧(b=true→r=⟨m.configs,e⟩∧cR m=some (true,())∧e=(m.configs.length:Int)∧m.activated < e):=by
 obtain⟨v,v1,v2⟩:=masterLog m (qp h)
 unfold fX lp f9 lD
 simp only [(IE m h).1,(IE m h).2,v1,v2,Option.bind_some,ma,we,aw]
 cases v with
 | false=>exact⟨m,false,rfl,rfl,h,rfl,fun _=>rfl,nofun⟩
 | true=>
   simp only [bA]
   by_cases h1:e=(m.configs.length:Int)
   ·by_cases h2:e≤m.activated
    ·simp only [if_pos h1,if_pos h2]
     exact⟨m,false,rfl,rfl,h,rfl,fun _=>rfl,nofun⟩
    ·simp only [if_pos h1,if_neg h2]
     exact⟨⟨m.configs,e⟩,true,rfl,rfl,h,rfl,nofun,fun _=>⟨rfl,trivial,h1,by omega⟩⟩
   ·simp only [if_neg h1]
    exact⟨m,false,rfl,rfl,h,rfl,fun _=>rfl,nofun⟩
def qq (l:List ar):Nat:=l.length - 3
theorem aaj (l:List ar) (hl:l.length≤1048576): (if IntKind.wrap .i64 ((l.length:Int) - 3) > 0 then IntKind.wrap .i64 ((l.length:Int) - 3) else 0)=((qq l:Nat):Int):=by
 rw [ec (by omega) (by omega)]
 unfold qq
 split <;> omega
theorem abD (l:List ar) (hl:l.length≤1048576) (hv:qg l=some (true,())):sd l=some (((qq l:Nat):Int),l.drop (qq l),()):=by
 unfold sd vR
 have hc:qq l≤l.length:=by unfold qq; omega
 have c1: (0:Int)≤((qq l:Nat):Int)∧((qq l:Nat):Int)≤(l.length:Int)∧(l.length:Int)≤(l.length:Int):=by omega
 have ht: ((l.drop (qq l)).take (l.length - qq l))=l.drop (qq l):=List.take_of_length_le (by simp)
 simp only [hv,Option.bind_some,Bool.not_true,bJ,aaj l hl,be,if_pos c1,Int.toNat_natCast,ht,(wY (l.drop (qq l)) (by simp; omega)).2]
def UZ (s:am) (c:ai) (l:List ar) (w:Bool):am:=if w=true then ⟨s.up,true,s.version,c.epoch,c,((qq l:Nat):Int),l.drop (qq l),(l.length:Int),[]⟩ else ⟨s.up,true,s.version,c.epoch,c,0,l,(l.length:Int),[]⟩
theorem abE {s:am} {c:ai} {l:List ar} {w:Bool} (hc:iA 1048576 c) (hl:l.length≤1048576):kS 1048576 (UZ s c l w)∧BX (UZ s c l w)≤EX c+bE l:=by
 unfold UZ
 cases w
 ·refine⟨⟨hc,hl,Nat.zero_le _⟩,?_⟩
  simp only [BX,bE,Bool.false_eq_true,if_false,List.length_nil]
  omega
 ·refine⟨⟨hc,by simp; omega,Nat.zero_le _⟩,?_⟩
  simp only [BX,bE,if_true,List.length_nil,List.length_drop]
  omega
theorem PB (s:am) (c:ai) (id:Int) (l:List ar) (hs:kS 1048576 s) (hc:iA 1048576 c) (hl:l.length≤1048576): ∃ r b,gR s c id l=some (r,b,())∧gV s c id l=some (r,b,())∧kS 1048576 r∧BX r≤BX s+EX c+bE l∧(b=false→r=s)∧(b=true→ ∃ w,r=UZ s c l w):=by
 obtain⟨n,r1,r2,_⟩:=aac c id (kP hc)
 obtain⟨e,e1,e2⟩:=yw l (dH hl)
 obtain⟨q,q1,q2⟩:=Qk l (dH hl)
 have q1:fy l=some (q,()):=by
  unfold eG jg at q1
  cases h:fy l with
  | none=>rw [h] at q1; cases q1
  | some y=>rw [h] at q1; obtain⟨y,⟨⟩⟩:=y; simpa using q1
 have q2:gA l=some (q,()):=by
  unfold gC lb at q2
  cases h:gA l with
  | none=>rw [h] at q2; cases q2
  | some y=>rw [h] at q2; obtain⟨y,⟨⟩⟩:=y; simpa using q2
 have t1:=Xc s
 have t2:=Sb c
 have t3:=ja l
 have no: ∃ r b,some (s,false,())=some (r,b,())∧some (s,false,())=some (r,b,())∧kS 1048576 r∧BX r≤BX s+EX c+bE l∧(b=false→r=s)∧(b=true→ ∃ w,r=UZ s c l w):=⟨s,false,rfl,rfl,hs,by omega,fun _=>rfl,nofun⟩
 unfold gR mN gV ni
 simp only [r1,r2,(Lh s hs).1,(Lh s hs).2,(wX c hc).1,(wX c hc).2,(wY l hl).1,(wY l hl).2,yu,BU,e1,e2,q1,q2,Option.bind_some,ma,aw]
 have hcut:qq l≤l.length:=by unfold qq; omega
 have c1: (0:Int)≤((qq l:Nat):Int)∧((qq l:Nat):Int)≤(l.length:Int)∧(l.length:Int)≤(l.length:Int):=by omega
 have ht: ((l.drop (qq l)).take (l.length - qq l))=l.drop (qq l):=List.take_of_length_le (by simp)
 cases hn:n==0 with
 | true=>exact no
 | false=>
 rcases NM l (dH hl) with ⟨a1,a2,_⟩ | ⟨a1,a2⟩
 case inr=>simp only [a1,a2,Option.bind_some,bJ]; exact no
 simp only [a1,a2,Option.bind_some,bA,bJ,aaj l hl,be,if_pos c1,Int.toNat_natCast,ht,(wY (l.drop (qq l)) (by simp; omega)).1,abD l hl a2]
 cases t5 s.version 1 2 with
 | false=>exact no
 | true=>
 cases t5 s.epoch 0 c.epoch with
 | false=>exact no
 | true=>
 simp only [bA]
 by_cases he:e > c.epoch
 ·simp only [if_pos he]; exact no
 simp only [if_neg he]
 have yes: ∀ w,∃ r b,some (UZ s c l w,true,())=some (r,b,())∧some (UZ s c l w,true,())=some (r,b,())∧kS 1048576 r∧BX r≤BX s+EX c+bE l∧(b=false→r=s)∧(b=true→ ∃ w,r=UZ s c l w):=by
  intro w
  obtain⟨o1,o2⟩:=abE (s:=s) (c:=c) (l:=l) (w:=w) hc hl
  exact⟨_,true,rfl,rfl,o1,by omega,nofun,fun _=>⟨w,rfl⟩⟩
 cases s.version==1 with
 | false=>
   cases n==3 with
   | false=>exact yes false
   | true=>exact yes true
 | true=>
   cases q with
   | true=>exact no
   | false=>
     cases n==3 with
     | false=>exact yes false
     | true=>exact yes true
end Go.Proofs.YtkcgfceffffmoaaGreat.En
