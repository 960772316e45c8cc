/- UpgradeServer: the plain law. -/
import Derived.Test.YtkcgfceffffmoaaGreatZPCopy
namespace Go.Proofs.YtkcgfceffffmoaaGreat.En
open Go
theorem SA {α:Type} {w:α→Int} {l:List α} {k:Nat} {x:α} (h:l[k]? =some x) (y:α):cf w (l.set k y)=cf w l - w x+w y:=by
 induction l generalizing k with
 | nil=>cases h
 | cons z l ih=>
   cases k with
   | zero=>
     have :z=x:=by simpa using h
     subst this
     simp only [List.set_cons_zero,cf]
     omega
   | succ k=>
     have h:l[k]? =some x:=by simpa using h
     simp only [List.set_cons_succ,cf,ih h]
     omega
def AX (x:ao) (k:Nat) (s:ak):ao:=⟨x.now,x.servers.set k s,x.sides,x.master,x.masterUp,x.lease,x.places⟩
theorem OF {x:ao} (ok:sL 1048576 x) (k:Nat) {s:ak} (hs:o2 1048576 s):sL 1048576 (AX x k s):=
 ⟨⟨by unfold AX; rw [List.length_set]; exact ok.1.1,fun t ht=>by
   rcases List.mem_or_eq_of_mem_set ht with h | h
   ·exact ok.1.2 t h
   ·rw [h]; exact hs⟩,ok.2.1,ok.2.2.1,ok.2.2.2⟩
theorem QC {x:ao} {k:Nat} {s:ak} (h:x.servers[k]? =some s) (s':ak):Nd (AX x k s')=Nd x - M4 s+M4 s':=by
 unfold AX Nd VO
 simp only [SA h,bw,List.length_set]
 omega
theorem VU {ρ:Type} (x y:ao) (c:Int) (k:Bool×Unit→Option ρ) (z:Option ρ) (hx:sL 1048576 x) (tx:Nd x≤1048576) (hy:sL 1048576 y) (ty:Nd y≤100000000) (hz:z=(dL y y).bind fun y6=>br (!y6.1) (k (false,())) (br (!(c==c)) (k (false,())) ((fK x).bind fun y7=>(dL x y7.1).bind fun y8=>br (!y8.1) (k (false,())) ((de x 1).bind fun y9=>ap (y9.1.servers.length=x.servers.length) (ap (y9.1.sides.length=x.sides.length) (ap (y9.1.master.configs.length=x.master.configs.length) (ap (y9.1.places.length=x.places.length) (br (decide (y9.2.1 < 0)) (k (false,())) ((dL y y).bind fun y10=>br (!y10.1) (k (false,())) (br (!(c==c)) (k (false,())) ((de y 1).bind fun y11=>ap (y11.1.servers.length=y.servers.length) (ap (y11.1.sides.length=y.sides.length) (ap (y11.1.master.configs.length=y.master.configs.length) (ap (y11.1.places.length=y.places.length) ((eh (⟨y.now,y11.1.servers,y11.1.sides,(⟨y11.1.master.configs,y.master.activated⟩:an),y.masterUp,y.lease,y11.1.places⟩:ao) 1).bind fun y12=>br (decide (y12.1 < 0)) (k (false,())) (br (!(y12.1==y11.2.1)) (k (false,())) ((dL y y).bind fun y15=>br (!y15.1) (k (false,())) (br (!(c==c)) (k (false,())) ((eh (⟨y.now,y11.1.servers,y11.1.sides,(⟨y11.1.master.configs,y.master.activated⟩:an),y.masterUp,y.lease,y11.1.places⟩:ao) 1).bind fun y16=>br (decide (y16.1 < 0)) (k (false,())) (br (!(y16.1==y11.2.1)) (k (false,())) (k (true,())))))))) none) none) none) none)))) none) none) none) none)))):z=k (true,()):=by
 rw [hz]
 obtain⟨m1,_⟩:=wt x 1 (by decide) (by omega) hx
 obtain⟨p1,_⟩:=wt y 1 (by decide) (by omega) hy
 obtain⟨a1,a2,a3,a4⟩:=M9 x
 obtain⟨b1,b2,b3,b4⟩:=M9 y
 have w1:=(OC x).1
 have w2:=(OC y).1
 have n1: ¬ 1+Sx x < 0:=by omega
 have n2: ¬ 1+Sx y < 0:=by omega
 simp only [Cf x hx,Option.bind_some,wl x hx,wl y hy,Bool.not_true,cT,beq_self_eq_true,m1,p1,a1,a2,a3,a4,b1,b2,b3,b4,bB,if_true,aB,if_neg n1,if_neg n2,VT y hy ty]
theorem H2 (x:ao) (id:Int) (ok:sL 1048576 x) (ht:Nd x≤1048576): ∃ y n,f8 x id=some (y,n,())∧fa x id=some (y,n,())∧sL 1048576 y∧Nd y≤100000000:=by
 obtain⟨b,g1,g2,g3⟩:=good x id ok
 unfold f8 jN fa jZ nY oO
 simp only [(Sz x ok).1,(Sz x ok).2,g1,g2,Option.bind_some,qd]
 cases b with
 | false=>exact⟨x,1,rfl,rfl,ok,by omega⟩
 | true=>
   obtain⟨hv,h0,h5⟩:=g3 rfl
   have vc:=TT ok hv
   have hlt:id.toNat < x.servers.length:=by rw [vc.len]; omega
   have hg:=List.getElem?_eq_getElem hlt
   have hver:=OE (vc.srv _ hlt)
   have hok:=ok.1.2 _ (List.getElem_mem hlt)
   generalize x.servers[id.toNat] =s at hg hver hok
   have c2:0≤id∧id < (x.servers.length:Int):=by rw [vc.len]; omega
   have e1:IntKind.wrap .i64 (3 - 1)=2:=by rw [fj (by decide) (by decide)]; rfl
   simp only [eD,bB,if_pos h0,if_pos c2,hg,Option.bind_some,GL,e1]
   rcases hver with h | h
   ·simp only [h,if_neg (show ¬ (1:Int)=2 by decide),if_true]
    cases s.up with
    | false=>exact⟨x,2,rfl,rfl,ok,by omega⟩
    | true=>
      refine⟨AX x id.toNat ⟨true,s.intact,2,s.epoch,s.config,s.first,s.log,s.commit,s.learned⟩,0,rfl,rfl,OF ok _ hok,?_⟩
      rw [QC hg]
      show Nd x - M4 s+M4 s≤_
      omega
   ·simp only [h,if_neg (show ¬ (2:Int)=1 by decide),if_true]
    exact⟨x,1,rfl,rfl,ok,by omega⟩
theorem Na (x:ao) (id:Int) (h:sL maxLen x):dH x id=some (true,()):=by
 unfold dH ex
 obtain⟨n,g1,g2⟩:=VP x h
 simp only [g1,Option.bind_some,aB]
 split
 ·rfl
 ·obtain⟨ok,ht,_⟩:=g2 (by omega)
  obtain⟨y,c,s1,s2,oy,ty⟩:=H2 x id ok ht
  simp only [Cf x ok,s1,s2,Option.bind_some]
  refine VU x y c some _ ok ht oy ty ?_
  simp only [Cf x ok,Option.bind_some,aB]
end Go.Proofs.YtkcgfceffffmoaaGreat.En
