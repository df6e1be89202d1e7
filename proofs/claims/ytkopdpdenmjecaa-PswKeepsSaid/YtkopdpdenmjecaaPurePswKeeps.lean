/- The law PswKeeps, as the printed row asks it: proved in YtkopdpdenmjecaaMyPswT. -/
import Derived.Test.YtkopdpdenmjecaaMyPswT
