/- Sealing: the plain law. -/
import Derived.Test.YtkcgfceffffmoaaGreatZPSource
import Derived.Test.YtkcgfceffffmoaaGreatZPVal
namespace Go.Proofs.YtkcgfceffffmoaaGreat.En
open Go
abbrev HO (s:eb) (e:Int):eb:=⟨s.up,s.intact,s.version,e,s.config,s.first,s.log,s.commit,s.learned⟩
theorem asL {s:eb} {id:Int} (h:nX 1048576 s) (hv:fw s id=some (true,())):s.config.epoch<=s.epoch:=by
 have hc:=mr h.1;obtain⟨_,_,_,_,_,_,_,e0,_⟩:=aa3 h hv;by_cases hz:s.config=⟨0,0,[],[]⟩
 ·rw [hz];exact e0
 ·refine Int.not_lt.1 fun hlt=> ?_;unfold fw mz at hv;simp only [vk,ae,iq,JT s.config hc,ec,if_neg hz,if_pos hlt] at hv;cases h1:sP s.version 1 2 with
  | false=>rw [h1] at hv; cases hv
  | true=>
  cases h2:sP s.epoch 0 20 with
  | false=>rw [h1,h2] at hv; cases hv
  | true=>
  rcases KG s.log (gJ h.2.1) with ⟨a1,a2,a3⟩ | ⟨a1,a2⟩
  case inr=>simp only [h1,h2,a1,ae,ew,fA] at hv; cases hv
  rcases KG s.learned (gJ h.2.2) with ⟨b1,b2,b3⟩ | ⟨b1,b2⟩
  case inr=>simp only [h1,h2,a1,b1,ae,ew,fA] at hv; cases hv
  simp only [h1,h2,a1,b1,ae,ew] at hv;cases h3:sP s.first 0 16 <;> rw [h3] at hv
  ·cases hv
  ·cases h4:sP (IntKind.wrap .i64 (s.first+(s.log.length:Int))) 0 16 <;> rw [h4] at hv
   ·cases hv
   ·cases h5:sP s.commit 0 (IntKind.wrap .i64 (s.first+(s.log.length:Int))) <;> rw [h5] at hv
    ·cases hv
    ·cases h6:s.intact <;> rw [h6] at hv <;> cases hv
theorem aqz {s:eb} {id:Int} (h:nX 1048576 s) (hv:fw s id=some (true,())) {e:Int} (h1:s.epoch<=e) (h2:e<=20):fw (HO s e) id=some (true,()):=by
 have hle:=asL h hv;obtain⟨_,_,_,_,_,_,_,e0,e20⟩:=aa3 h hv;have w1:sP s.epoch 0 20=true:=jD.2 (by omega);have w2:sP e 0 20=true:=jD.2 (by omega);unfold fw mz at hv ⊢;simp only [vk,ae,ec,w1,w2,if_neg (show ¬ s.epoch < s.config.epoch by omega),if_neg (show ¬ e < s.config.epoch by omega)] at hv ⊢;exact hv
theorem atb {m:ei} {s:eb} {k:Int} (ok:nX 1048576 s) (h:SV m s k) {e:Int} (h1:s.epoch<=e) (h2:e<=(m.configs.length:Int)) (h3:m.configs.length<=20):SV m (HO s e) k:=
 ⟨aqz ok h.val h1 (by omega),h2,h.lrn,h.cfg⟩
theorem akP (s:eb) (e:Int) (h:nX 1048576 s): ∃ ep b,ur s e=some (HO s ep,b,())/\uB s e=some (HO s ep,b,())/\(ep=s.epoch\/(ep=e/\s.epoch<=e)):=by
 unfold ur DD uB DW;simp only [(Nj s h).1,(Nj s h).2,vk,z6,ae,iq,ec];cases sP e 1 20 with
 | false=>exact⟨s.epoch,false,rfl,rfl, .inl rfl⟩
 | true=>
   simp only [ew];by_cases h1:e<=s.epoch
   ·by_cases h2:s.epoch < 0
    ·simp only [if_pos h1,if_pos h2];exact⟨s.epoch,false,rfl,rfl, .inl rfl⟩
    ·simp only [if_pos h1,if_neg h2];exact⟨s.epoch,false,rfl,rfl, .inl rfl⟩
   ·by_cases h2:s.epoch < 0
    ·simp only [if_neg h1,if_pos h2];exact⟨s.epoch,false,rfl,rfl, .inl rfl⟩
    ·simp only [if_neg h1,if_neg h2];exact⟨e,true,rfl,rfl, .inr ⟨rfl,by omega⟩⟩
abbrev uf (x:dV) (S:List eb):dV:=⟨x.now,S,x.sides,x.master,x.masterUp,x.lease,x.places⟩
theorem ai1 (x:dV) (ok:pg 1048576 x) (hv:eC x=some (true,())) {id e:Int} (hid:0<=id/\id < 5): ∃ S,rZ x id e=some (uf x S,())/\sn x id e=some (uf x S,())/\pg 1048576 (uf x S)/\eC (uf x S)=some (true,())/\Sea x (uf x S):=by
 have vc:=rU ok hv;have hml:=ao5 ok.2.2.1 vc.ml;obtain⟨v,v1,v2⟩:=od x ok;rw [hv] at v1;simp only [af,aq,and_true] at v1;subst v1;obtain⟨c,d,d1,d2,d3,_⟩:=ao9 ok hv;obtain⟨m,m1,m2,m3,m4,m5,_⟩:=Ve c d3;have mm:m.length<=maxLen:=by unfold maxLen; omega
 have same:uf x x.servers=x:=rfl;unfold rZ B8 sn CF;simp only [(EH x ok).1,(EH x ok).2,d1,d2,hv,v2,vk,z6,ae,iq,ew];cases d with
 | false=>exact⟨x.servers,rfl,rfl,ok,hv,Sea.refl x⟩
 | true=>
   simp only [ew];cases hw:sP e 1 (x.master.configs.length:Int) with
   | false=>exact⟨x.servers,rfl,rfl,ok,hv,Sea.refl x⟩
   | true=>
     have hw:=jD.1 hw
     obtain⟨S,q,k1,k2⟩:=Hn (B1:=ly) (B2:=lE) m.length
      (fun k (S:List eb)=>((id,e,(),(),(),(),(k:Int),()),(fx x,(0,(),(),(),0,0,0,0,0,(),()),(x.now,(),(),(),x.master.activated,x.masterUp,x.lease.epoch,x.lease.holder,x.lease.ends,(),()),()),(m,S,x.sides,x.master.configs,x.places,())))
      (fun k S=>((id,e,(),(),(),(),(m.length:Int),(k:Int),()),(fx x,(0,(),(),(),0,0,0,0,0,(),()),(x.now,(),(),(),x.master.activated,x.masterUp,x.lease.epoch,x.lease.holder,x.lease.ends,(),()),()),(m,S,x.sides,x.master.configs,x.places,())))
      (fun k S=>S.length=x.servers.length/\ ∀ (j:Nat) (s:eb),x.servers[j]? =some s-> ∃ ep,S[j]? =some (HO s ep)/\(ep=s.epoch\/(ep=e/\s.epoch<=e))/\((∀ y∈m.drop k,y≠(j:Int))\/ep=s.epoch))
      (fun S=>(((),(),()),((0,(),(),(),0,0,0,0,0,(),()),(x.now,(),(),(),x.master.activated,x.masterUp,x.lease.epoch,x.lease.holder,x.lease.ends,(),()),()),(S,x.sides,x.master.configs,x.places,())))
      (fun S=>(((),(),()),((0,(),(),(),0,0,0,0,0,(),()),(x.now,(),(),(),x.master.activated,x.masterUp,x.lease.epoch,x.lease.holder,x.lease.ends,(),()),()),(S,x.sides,x.master.configs,x.places,())))
      (fun S _=>by
        simp only [ly,tb,yh,lE,tQ,yJ,ec];exact⟨if_neg (by omega),if_neg (by omega)⟩)
      (fun k S hk hS=>by
        have c1: (k:Int) < (m.length:Int):=by omega
        have c2: (0:Int)<=(k:Int)/\(k:Int) < (m.length:Int):=by omega
        have hz:=m4 _ (bc hk);have hdr:m.drop k=m[k]::m.drop (k+1):=bR hk
        have hnot: ∀ y∈m.drop (k+1),y≠m[k] :=by
         have h2:SS (m.drop k):=List.Pairwise.sublist (List.drop_sublist k m) m5;rw [hdr] at h2;intro y hy;have:=(cA.1 h2).1 y hy;omega
        generalize hzz:m[k] =z at hz hdr hnot;have hg:m[k]? =some z:=by rw [<-hzz]; exact ai hk
        obtain⟨s,s1,s2,_⟩:=Gz ok vc hz;obtain⟨h1,h2⟩:=Eu x ok vc hid hz
        have hSz:S[z.toNat]? =some s:=by
         obtain⟨ep,p1,_,p3⟩:=hS.2 _ s s1;rcases p3 with p3 | rfl
         ·exact absurd (by omega:z=(z.toNat:Int)) (p3 z (by rw [hdr]; exact aN))
         ·exact p1
        have hlt:z.toNat < S.length:=nG hSz;have c3:0<=z/\z < (S.length:Int):=by omega
        obtain⟨ep,b,q1,q2,q3⟩:=akP s e s2
        have hkeep:S.length=x.servers.length/\ ∀ (j:Nat) (s:eb),x.servers[j]? =some s-> ∃ ep,S[j]? =some (HO s ep)/\(ep=s.epoch\/(ep=e/\s.epoch<=e))/\((∀ y∈m.drop (k+1),y≠(j:Int))\/ep=s.epoch):=by
         refine⟨hS.1,fun j t ht=> ?_⟩;obtain⟨ep,p1,p2,p3⟩:=hS.2 j t ht;exact⟨ep,p1,p2,p3.imp (fun h y hy=>h y (by rw [hdr]; exact aI _ hy)) (fun h=>h)⟩
        simp only [ly,tb,yh,lE,tQ,yJ,fx,ec,ez,if_pos c1,if_pos c2,aw,hg,ae,if_pos hz.1,if_pos c3,s1,hSz,h1,h2,aY,aE,if_true,bM,bg,q1,q2,eB mm hk];cases s.up with
        | false=>exact⟨S,rfl,rfl,hkeep⟩
        | true=>
          cases (tY x id==tY x z) with
          | false=>exact⟨S,rfl,rfl,hkeep⟩
          | true=>
            refine⟨S.set z.toNat (HO s ep),rfl,rfl,by simp [hS.1],fun j t ht=> ?_⟩;by_cases hj:j=z.toNat
            ·subst hj;rw [s1] at ht;have ht:=Option.some.inj ht;subst ht;refine⟨ep,by rw [List.getElem?_set_self hlt],q3, .inl fun y hy h=>hnot y hy (by omega)⟩
            ·obtain⟨ep',p1,p2,p3⟩:=hkeep.2 j t ht;exact⟨ep',by rw [dG (fun h=>hj h.symm)]; exact p1,p2,p3⟩)
      x.servers ⟨rfl,fun j s h=>⟨s.epoch,h, .inl rfl, .inr rfl⟩⟩
     simp only [ew,m1,m2,ae]
     rw [show Ai ((id,e,(),(),(),(),0,()),(fx x,(0,(),(),(),0,0,0,0,0,(),()),(x.now,(),(),(),x.master.activated,x.masterUp,x.lease.epoch,x.lease.holder,x.lease.ends,(),()),()),(m,x.servers,x.sides,x.master.configs,x.places,()))=_ from k1,
      show AB ((id,e,(),(),(),(),(m.length:Int),0,()),(fx x,(0,(),(),(),0,0,0,0,0,(),()),(x.now,(),(),(),x.master.activated,x.masterUp,x.lease.epoch,x.lease.holder,x.lease.ends,(),()),()),(m,x.servers,x.sides,x.master.configs,x.places,()))=_ from k2]
     have at_: ∀ j (hj:j < S.length),∃ s,x.servers[j]? =some s/\ ∃ ep,S[j] =HO s ep/\(ep=s.epoch\/(ep=e/\s.epoch<=e)):=by
      intro j hj;have hj':j < x.servers.length:=by rw [<-q.1]; exact hj
      obtain⟨ep,p1,p2,_⟩:=q.2 j _ (ai hj');rw [ai hj] at p1;exact⟨_,ai hj',ep,Option.some.inj p1,p2⟩
     have sv:=apb ok hv
     have fin:=arS ok hv S q.1 (fun s hs=>by
       obtain⟨j,hj,rfl⟩:=aM hs;obtain⟨t,t1,ep,t2,_⟩:=at_ j hj;rw [t2];exact ok.1.2 t (au t1))
      (fun j hj=>by
        obtain⟨t,t1,ep,t2,t3⟩:=at_ j hj;have hj':j < x.servers.length:=nG t1;have svj:=sv j hj';rw [ai hj'] at t1;rw [Option.some.inj t1] at svj;have okt:=ok.1.2 x.servers[j] (bc hj');rw [Option.some.inj t1] at okt;rw [t2];have:=svj.ep;exact atb okt svj (by omega) (by omega) hml)
     exact⟨S,rfl,rfl,fin.1,fin.2,rfl,rfl,fun j s h=>by
      obtain⟨ep,p1,_⟩:=q.2 j s h;exact⟨ep,p1⟩⟩
end Go.Proofs.YtkcgfceffffmoaaGreat.En
