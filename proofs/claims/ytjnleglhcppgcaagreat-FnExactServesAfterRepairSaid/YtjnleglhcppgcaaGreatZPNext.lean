/- The members planned; the next configuration. -/
import Derived.Test.YtjnleglhcppgcaaGreatZPPlan
import Derived.Test.YtjnleglhcppgcaaGreatZPInst
namespace Go.Proofs.YtjnleglhcppgcaaGreat.En
open Go
theorem yB.filter {l:List Int} (h:yB l) (p:Int->Bool):yB (l.filter p):=by refine Nc (h.pair.filter p) fun y hy=> ?_;obtain⟨k,hk,rfl⟩:=aJ (cA.1 hy).1;have:=(h k hk).1;omega
theorem LH:yB [0,1,2,3,4] :=by refine Nc (by simp[SS]) fun y hy=> ?_;simp at hy;omega
theorem LI (l:List eN) (hl:l.length<=maxLen) (hv:ii l=some (true,())) (m a:List Int) (hm:yB m) (ha:yB a) (want:Int): ∃r,oK l m a want=some (r,())/\oV l m a want=some (r,())/\yB r:=by
 have al:=ha.len;have am:a.length<=maxLen:=by unfold maxLen; omega
 obtain⟨m1,m2⟩:=JC hm;obtain⟨a1,a2⟩:=JC ha
 have hp2:jw l=some (true,()):=by obtain⟨b,p1,p2⟩:=rp l hl;rw[hv] at p1;simp only[af,an,and_true] at p1;subst p1;exact p2
 unfold oK oV;simp only[D9 m a hm am,N7 m a hm am,Ru _ a LH am,BK _ a LH am,F1,hv,hp2,m1,m2,a1,a2,kg,mG,ae,fi,en];cases je want 0 5 with
 |false=>exact⟨[],rfl,rfl,fun k hk=>by simp at hk⟩
 |true=>
  have dl:=(LH.filter fun x=> !decide (x∈a)).len;generalize ([0,1,2,3,4]:List Int).filter (fun x=> !decide (x∈a))=dead at dl;have dm:dead.length<=maxLen:=by unfold maxLen; omega
  have go: ∀ (d:Nat) (out:List Int),yB out->(want-out.length).toNat<=d-> ∃r,(mL ((l,want,(),(),()),(),(out,dead,()))=some (.inl (((),(),()),(),(r,())))\/mL ((l,want,(),(),()),(),(out,dead,()))=some (.inr (((),(),()),(),(r,()))))/\pb ((l,want,(),(),()),(),(out,dead,()))=some (((),()),(),(r,()))/\yB r:=by
   intro d
   induction d with
   |zero=>
    intro out ho hd;have c: ¬ (out.length:Int)<want:=by omega
    refine⟨out, .inr (gC ?_),gC ?_,ho⟩
    ·simp only[jK];rw[ei,if_neg c]
    ·simp only[jM];rw[ei,if_neg c]
   |succ d ih=>
    intro out ho hd;have ol:=ho.len;by_cases c: (out.length:Int)<want
    ·obtain⟨n,n1,n2,n3⟩:=HP l hl hv out dead ho dm;rcases n3 with rfl| ⟨n3,n4,n5⟩
     ·refine⟨out, .inl (gC ?_),gC ?_,ho⟩
      ·simp only[jK,ei,if_pos c,n1,ae];rw[if_pos (by omega)]
      ·simp only[jM,ei,if_pos c,n2,ae];rw[if_pos (by omega)]
     ·obtain⟨r,r1,r2,r3,r4,r5⟩:=VY out n (by omega) ho.pair;obtain⟨s,_,s2,s3,s4,_⟩:=TZ out [n] (by simp; omega)
      have hrs:r=s:=r2.uniq s3 fun y=>by rw[r3,s4,az];exact Or.comm
      subst hrs
      have hr:yB r:=Nc r2 fun y hy=>by
       rcases (r3 y).1 hy with rfl|h
       ·omega
       ·obtain⟨k,hk,rfl⟩:=aJ h;have:=(ho k hk).1;omega
      have hlen:r.length=out.length+1:=r5 n5;obtain⟨t,t1,t2,t3⟩:=ih r hr (by omega)
      have e1:mL ((l,want,(),(),()),(),(out,dead,()))=mL ((l,want,(),(),()),(),(r,dead,())):=by refine lf ?_;simp only[jK,ei,if_pos c,n1,ae,if_neg (show ¬n<0 by omega),r1]
      have e2:pb ((l,want,(),(),()),(),(out,dead,()))=pb ((l,want,(),(),()),(),(r,dead,())):=by refine lf ?_;simp only[jM,ei,if_pos c,n2,ae,if_neg (show ¬n<0 by omega),s2]
      rw[e1,e2];exact⟨t,t1,t2,t3⟩
    ·refine⟨out, .inr (gC ?_),gC ?_,ho⟩
     ·simp only[jK];rw[ei,if_neg c]
     ·simp only[jM];rw[ei,if_neg c]
  simp only[en];obtain⟨r,r1,r2,r3⟩:=go _ _ (hm.filter fun x=>decide (x∈a)) (ay _);rw[r2];rcases r1 with r1|r1<;>rw[r1]<;>exact⟨r,rfl,rfl,r3⟩
def wS (x:eg) (e id:Int):Bool:=iI x id.toNat&&(match x.servers[id.toNat]? with |some s=>s.config.epoch==e|none=>false)
theorem Nm (x:eg) (ok:gX 1048576 x) (want:Int): ∃n b,pX x want 0=some (n,b,())/\qm x want 0=some (n,b,())/\iH 1048576 n/\n.replicas.length<=5/\n.witnesses= [] :=by
 obtain⟨v,v1,v2⟩:=iu x ok;unfold pX qm;simp only[v1,v2,ae,fi,kg,mG,show je 0 0 1=true by decide,en];have zero:iH 1048576 ⟨0,0,[],[]⟩:=⟨aI _,aI _⟩
 cases v with
 |false=>exact⟨_,_,rfl,rfl,zero,aI _,rfl⟩
 |true=>
  simp only[en];cases je want 1 3 with
  |false=>exact⟨_,_,rfl,rfl,zero,aI _,rfl⟩
  |true=>
   have vc:=jc ok v1;have hml:=Rx ok.2.2.1 vc.ml;simp only[en,gP,ei];by_cases h20: (x.master.configs.length:Int)=20
   ·simp only[if_pos h20,if_pos (show (x.master.configs.length:Int)≥20 by omega)];exact⟨_,_,rfl,rfl,zero,aI _,rfl⟩
   ·obtain⟨c,d,d1,d2,d3,d4,d5,d6⟩:=sE x ok v1;have hsl:=uG (ff ok.2.1) vc.sides
    have asc:yB c.replicas/\(d=true->1<=c.epoch)/\(d=true->c≠⟨0,0,[],[]⟩):=by
     cases d with
     |false=>rw[d6 rfl]; exact⟨fun k hk=>by simp at hk,nofun,nofun⟩
     |true=>obtain⟨q1,_,_,q4,_⟩:=sk d3 (d5 rfl).1;exact⟨q1,fun _=>q4,fun _ e=>by rw[e] at q4; simp at q4⟩
    obtain⟨asc,ep,nz⟩:=asc;have rl:=asc.len;have rm:c.replicas.length<=maxLen:=by unfold maxLen; omega
    have inr: ∀z∈c.replicas,0<=z/\z<5:=by intro z hz;obtain⟨k,hk,rfl⟩:=aJ hz;have:=(asc k hk).1;omega
    have ial:=Oa (iI x) (ay 5)
    have iam: (wi (iI x) 5).length<=maxLen:=by have:=ial.len;unfold maxLen;omega
    have memA: ∀z,0<=z/\z<5->decide (z∈wi (iI x) 5)=iI x z.toNat:=by
     intro z hz;cases h:iI x z.toNat with
     |true=>exact decide_eq_true ((BN _ _ _).2 ⟨z.toNat,by omega,h,by omega⟩)
     |false=>
      refine decide_eq_false fun hm=> ?_;obtain⟨k,_,k2,k3⟩:=(BN _ _ _).1 hm;have :z.toNat=k:=by omega
      rw[this,k2] at h;cases h
    have kS:=iB (B:=lW) c.replicas (fun k (b:List Int)=>((want,0,(),(),(),(),(),(k:Int),()),((x.now,x.servers,x.sides,x.master.configs,x.master.activated,x.masterUp,x.lease.epoch,x.lease.holder,x.lease.ends,x.places,()),(0,0,(),(),()),(c.epoch,c.primary,(),(),()),()),(wi (iI x) 5,b,c.replicas,c.witnesses,()))) (fun k b=>b=(c.replicas.take k).filter (wS x c.epoch))
     (fun _ _ _=>((want,0,(),(),(),(),(),()),((x.now,x.servers,x.sides,x.master.configs,x.master.activated,x.masterUp,x.lease.epoch,x.lease.holder,x.lease.ends,x.places,()),(0,0,(),(),()),(c.epoch,c.primary,(),(),()),()),(wi (iI x) 5,c.replicas.filter (wS x c.epoch),c.replicas,c.witnesses,())))
     (fun b hb=>by simp only[lW];rw[ei,if_neg (by omega),hb,be])
     (fun k b z hz hb=>by
       have hk:=i5 hz;have c1: (k:Int)< (c.replicas.length:Int):=by omega
       have c2: (0:Int)<=(k:Int)/\(k:Int)< (c.replicas.length:Int):=by omega
       have hzz:=inr z (ao hz);have hlt:z.toNat<x.servers.length:=by rw[vc.len]; omega
       have hol:b.length<=5:=by rw[hb];have:=cY (wS x c.epoch) (c.replicas.take k);simp only[bq] at this;omega
       have h40: (b++ [z]).length*8<=2 ^ 40:=kA (by simp; omega)
       have hke:wS x c.epoch z=(iI x z.toNat&&(x.servers[z.toNat].config.epoch==c.epoch)):=by unfold wS;rw[ah hlt]
       have hS:gr (wi (iI x) 5) z=some (iI x z.toNat,()):=by rw[(fH _ z iam).1,memA z hzz]
       simp only[lW,ei,gP,ek,if_pos c1,if_pos c2,ap,hz,ae,hS,if_pos hzz.1,ah hlt,ey rm hk,if_pos h40];simp only[gV hz,bQ];cases ha:iI x z.toNat with
       |false=>exact .inl ⟨b,rfl,by rw[hb]; simp[hke,ha],trivial⟩
       |true=>
        simp only[en];by_cases he:x.servers[z.toNat].config.epoch=c.epoch
        ·simp only[if_pos he];exact .inl ⟨b++ [z],rfl,by rw[hb]; simp[hke,ha,he],trivial⟩
        ·simp only[if_neg he];exact .inl ⟨b,rfl,by rw[hb]; simp[hke,ha,he],trivial⟩)
     0 [] (aI _) rfl
    have hsv:gt x x=some (wi (iI x) 5,()):=by
     have hm5:x.servers.length<=maxLen:=ff ok.1.1
     have kk:=iB (B:=fD) x.servers (fun k (b:List Int)=>(((x,()),(),x.servers,(x.servers.length:Int),(k:Int),()),(),(b,()))) (fun k b=>b=wi (iI x) k) (fun _ _ _=>(((),()),(),(wi (iI x) 5,())))
      (fun b hb=>by simp only[fD];rw[ei,if_neg (by omega),hb,vc.len])
      (fun k b s hs hb=>by
        have hk:=i5 hs;have c1: (k:Int)< (x.servers.length:Int):=by omega
        have c2: (0:Int)<=(k:Int):=by omega
        have hk5:k<5:=by rw[<-vc.len]; exact hk
        have h40: (b++ [(k:Int)]).length*8<=2 ^ 40:=by rw[hb]; exact Rq (by omega) _
        simp only[fD,pa,ei,ek,if_pos c1,if_pos c2,ap,hs,ae,Rt x vc.len hsl k hk5,if_pos h40,ey hm5 hk];rw[FY,<-hb];cases iI x k with
        |true=>exact .inl ⟨b++ [(k:Int)],rfl,rfl,trivial⟩
        |false=>exact .inl ⟨b,rfl,by simp,trivial⟩)
      0 [] (aI _) rfl
     unfold gt;simp only[v2,ae,aY,eB];rw[show lF (((x,()),(),x.servers,(x.servers.length:Int),0,()),(),([],()))=_ from kk];rfl
    have hdel:fG c.replicas x c=some (c.replicas.filter (wS x c.epoch),()):=by
     have h:=US (F:=fun a=>fG a x c) (B2:=gD) (B5:=fZ) (x,c,()) (fun i=>kU i x c) (fun i=> !wS x c.epoch i) (fun _=>rfl) (fun _ _ _=>rfl) (fun _ _ _=>rfl) c.replicas (by omega) (fun z hz=>by
      have hzz:=inr z hz;have hlt:z.toNat<x.servers.length:=by rw[vc.len]; omega
      have hu:=Rt x vc.len hsl z.toNat (by omega);rw[Int.toNat_of_nonneg hzz.1] at hu;unfold kU wS;simp only[hu,ae,ek,if_pos hzz.1,ah hlt,fi];cases iI x z.toNat<;>rfl)
     simpa using h
    obtain⟨r,r1,r2,r3⟩:=LI x.places (ff ok.2.2.2) vc.places (c.replicas.filter (wS x c.epoch)) (wi (iI x) 5) (asc.filter _) ial want;have rl':=r3.len;have rm':r.length<=maxLen:=by unfold maxLen; omega
    obtain⟨w,w1,w2⟩:=HP x.places (ff ok.2.2.2) vc.places r (([0,1,2,3,4]:List Int).filter fun y=> !decide (y∈wi (iI x) 5)) r3 (by have:=(LH.filter fun y=> !decide (y∈wi (iI x) 5)).len;unfold maxLen;omega)
    simp only[if_neg h20,if_neg (show ¬ (x.master.configs.length:Int)≥20 by omega),VZ x ok v1,d1,d2,hsv,ae,iP];rw[fB (kA (show c.replicas.length<=1048576 by omega))];rw[show xX ((want,0,(),(),(),(),(),0,()),((x.now,x.servers,x.sides,x.master.configs,x.master.activated,x.masterUp,x.lease.epoch,x.lease.holder,x.lease.ends,x.places,()),(0,0,(),(),()),(c.epoch,c.primary,(),(),()),()),(wi (iI x) 5,[],c.replicas,c.witnesses,()))=_ from kS];simp only[ae,hdel,r1,r2,(fH r c.primary rm').1,(fH r c.primary rm').2,F1,BK _ _ LH iam,w2.1,wO _ d3,show (⟨c.epoch,c.primary,c.replicas,c.witnesses⟩:ej)=c from rfl];by_cases h0: (r.length:Int)=0
    ·simp only[if_pos h0];exact⟨_,_,rfl,rfl,zero,aI _,rfl⟩
    ·have c0: (0:Int)<=0/\(0:Int)< (r.length:Int):=by omega
     have hg:r[(0:Int).toNat]? =some (r[0]'(by omega)):=ah _;simp only[if_neg h0,ek,if_pos c0,hg,ae,fi,ei,show ¬ (0:Int)=1 by omega,if_false];have fin: ∀p:Int,iH 1048576 ⟨IntKind.wrap .i64 ((x.master.configs.length:Int)+1),p,r,[]⟩:=fun p=>⟨by show r.length<=_; omega,aI _⟩
     cases d with
     |false=>
      have hc:=d6 rfl;subst hc;simp only[decide_true,if_true,show ¬ (0:Int)>0 by omega,if_false];by_cases hmem: (0:Int)∈r
      ·simp only[if_pos hmem];exact⟨_,_,rfl,rfl,fin _,rl',rfl⟩
      ·simp only[if_neg hmem];exact⟨_,_,rfl,rfl,fin _,rl',rfl⟩
     |true=>
      have he:=ep rfl;simp only[decide_eq_false (nz rfl),if_neg (nz rfl),if_pos (show c.epoch>0 by omega)];by_cases hmem:c.primary∈r
      ·simp only[if_pos hmem];exact⟨_,_,rfl,rfl,fin _,rl',rfl⟩
      ·simp only[if_neg hmem];exact⟨_,_,rfl,rfl,fin _,rl',rfl⟩
end Go.Proofs.YtjnleglhcppgcaaGreat.En
