/- ForceActivate: the plain law. -/
import Derived.Test.YtkcgfceffffmoaaGreatZPInst
import Derived.Test.YtkcgfceffffmoaaGreatZPIntact
import Derived.Test.YtkcgfceffffmoaaGreatZPSurv
import Derived.Test.YtkcgfceffffmoaaGreatZPDown
namespace Go.Proofs.YtkcgfceffffmoaaGreat.En
open Go
theorem abI (x:aj): ∀ (l:List Int) (b:Int),(∀ id∈l,0≤id∧id < 5)→(b= -1∨(0≤b∧b < 5))→l.foldl (mc x) b= -1∨(0≤l.foldl (mc x) b∧l.foldl (mc x) b < 5):=by
 intro l
 induction l with
 | nil=>intro b _ hb; exact hb
 | cons id l ih=>
   intro b hl hb
   refine ih (mc x b id) (fun j hj=>hl j (List.mem_cons_of_mem _ hj)) ?_
   have h0:=hl id List.mem_cons_self
   have:=Qn x (b:=b) (id:=id) (by omega) h0.1 h0.2
   omega
theorem aan (s:am) (id:Int) (h:kS 1048576 s): (IG s id).length≤1048576:=by
 have h1:=h.2.1
 have h2:=h.2.2
 have h3: (GY s).length≤s.log.length:=by
  unfold GY
  split
  ·simp; omega
  ·exact Nat.zero_le _
 unfold IG
 split
 ·split <;> omega
 ·exact h2
theorem PC (x:aj) (ok:rl 1048576 x) (ht:Pz x≤1048576): ∃ y n,jh x=some (y,n,())∧gW x=some (y,n,())∧rl 1048576 y∧Pz y≤100000000:=by
 obtain⟨n,n1,n2⟩:=abH x ok
 obtain⟨b,b1,b2⟩:=U0 x ok
 unfold jh mO gW nj og pH
 simp only [(aag x ok).1,(aag x ok).2,n1,n2,b1,b2,Option.bind_some,ma]
 have dn: ∀ c:Int,∃ y n,some (x,c,())=some (y,n,())∧some (x,c,())=some (y,n,())∧rl 1048576 y∧Pz y≤100000000:=fun c=>⟨x,c,rfl,rfl,ok,by omega⟩
 cases b with
 | false=>exact dn 1
 | true=>
 have hv:bn x=some (true,()):=by
  obtain⟨v,v1,v2⟩:=vd x ok
  cases v with
  | true=>exact v1
  | false=>
    unfold jW ne at b2
    rw [v2] at b2
    cases b2
 have vc:=Cw ok hv
 have hml:x.master.configs.length≤20:=ab2 ok.2.2.1 vc.ml
 obtain⟨q,q1,q2⟩:=UY x.lease x.now
 have hn:n= -1∨(0≤n∧n < 5):=by
  have:=U1 x ok hv
  rw [n1] at this
  simp only [Option.some.injEq,Prod.mk.injEq,and_true] at this
  rw [this]
  refine abI x _ (-1) (fun id hid=> ?_) (.inl rfl)
  obtain⟨k,k1,_,rfl⟩:=(GZ _ _ _).1 hid
  omega
 have hup:=vc.up
 have w1:IntKind.wrap .i64 (x.masterUp*2)=x.masterUp*2:=ec (by omega) (by omega)
 have w2:IntKind.wrap .i64 (2*x.masterUp)=2*x.masterUp:=ec (by omega) (by omega)
 have w3:IntKind.wrap .i64 ((x.master.configs.length:Int)+1)=(x.master.configs.length:Int)+1:=ec (by omega) (by omega)
 simp only [bA,w1,w2,w3,q1,q2,Option.bind_some,aw,we]
 by_cases c1: (x.master.configs.length:Int)=20
 ·have c1': (x.master.configs.length:Int)≥20:=by omega
  simp only [if_pos c1,if_pos c1']
  exact dn 1
 have c1': ¬ (x.master.configs.length:Int)≥20:=by omega
 simp only [if_neg c1,if_neg c1']
 by_cases c2:x.masterUp*2≤3
 ·have c2': ¬ 2*x.masterUp > 3:=by omega
  simp only [if_pos c2,if_neg c2']
  exact dn 8
 have c2':2*x.masterUp > 3:=by omega
 simp only [if_neg c2,if_pos c2']
 rcases hn with rfl | hn
 ·simp only [if_pos (show (-1:Int) < 0 by decide),if_true]
  exact dn 10
 have c3: ¬ n < 0:=by omega
 have c3': ¬ n= -1:=by omega
 simp only [if_neg c3,if_neg c3']
 cases q with
 | false=>exact dn 7
 | true=>
 have hlt:n.toNat < x.servers.length:=by rw [vc.len]; omega
 have hg:=List.getElem?_eq_getElem hlt
 have hok:=ok.1.2 _ (List.getElem_mem hlt)
 have hsv:ck x.servers[n.toNat] n=some (true,()):=by
  have:=vc.srv _ hlt
  rwa [Int.toNat_of_nonneg hn.1] at this
 have d2:=(Se _ n hok hsv).2
 have d1:=aak x ok hv n hn.1 hn.2
 have e1:wZ x n=IG x.servers[n.toNat] n:=by unfold wZ; rw [hg]
 rw [e1] at d1
 have dl:=aan x.servers[n.toNat] n hok
 generalize x.servers[n.toNat] =s at*
 generalize IG s n=l at*
 have c4: (0:Int)≤n∧n < (x.servers.length:Int):=by rw [vc.len]; omega
 have nf:=Si l (dH dl)
 have es: (⟨s.up,s.intact,s.version,s.epoch,(⟨s.config.epoch,s.config.primary,s.config.replicas,s.config.witnesses⟩:ai),s.first,s.log,s.commit,s.learned⟩:am)=s:=rfl
 have hcc:iA 1048576 (⟨(x.master.configs.length:Int)+1,n,[n],[]⟩:ai):=⟨by simp,by simp⟩
 obtain⟨m,mb,m1,m2,m3,m4,_⟩:=PA x.master ⟨(x.master.configs.length:Int)+1,n,[n],[]⟩ ok.2.2.1 hcc
 obtain⟨a,ab,a1,a2,a3,a4,_⟩:=NT m ((x.master.configs.length:Int)+1) m3
 obtain⟨r,rb,r1,r2,r3,r4,_⟩:=PB s ⟨(x.master.configs.length:Int)+1,n,[n],[]⟩ n l hok hcc dl
 have z:=ja l
 have fin: ∃ y k,some ((⟨x.now,x.servers.set n.toNat r,x.sides,a,x.masterUp,⟨0,0,0⟩,x.places⟩:aj),(0:Int),())=some (y,k,())∧some ((⟨x.now,x.servers.set n.toNat r,x.sides,a,x.masterUp,⟨0,0,0⟩,x.places⟩:aj),(0:Int),())=some (y,k,())∧rl 1048576 y∧Pz y≤100000000:=by
  have o1:=Wy ok n.toNat r3
  have o2:=Yo hg r
  refine⟨_,_,rfl,rfl,⟨o1.1,ok.2.1,a3,ok.2.2.2⟩,?_⟩
  have hl1:bE l≤1048576:=by unfold bE; omega
  have t1:=Xc s
  have e:EX (⟨(x.master.configs.length:Int)+1,n,[n],[]⟩:ai)=1:=rfl
  rw [e] at m4 r4
  unfold Pz GX at o2
  unfold Pz at ht ⊢
  simp only at o2 ⊢
  omega
 simp only [bA,be,if_pos hn.1,if_pos c4,hg,Option.bind_some,d1,d2,nf.1,nf.2,we,Nat.zero_add,Nat.le_refl,if_true,List.drop_zero,List.take_length,es,m1,m2,a1,a2,r1,r2]
 by_cases hver:s.version=1
 ·simp only [if_pos hver]
  cases Sg l with
  | true=>exact dn 6
  | false=>exact fin
 ·simp only [if_neg hver]
  exact fin
theorem Yu (x:aj) (h:rl maxLen x):eX x=some (true,()):=by
 unfold eX ga
 obtain⟨n,g1,g2⟩:=adK x h
 simp only [g1,Option.bind_some,aw]
 split
 ·rfl
 ·obtain⟨ok,ht,_⟩:=g2 (by omega)
  obtain⟨y,c,s1,s2,oy,ty⟩:=PC x ok ht
  simp only [IB x ok,s1,s2,Option.bind_some]
  refine adO x y c some _ ok ht oy ty ?_
  simp only [IB x ok,Option.bind_some,aw]
end Go.Proofs.YtkcgfceffffmoaaGreat.En
