/- The law ObjectChecks, as the printed row asks it: proved in YtenlmckahaniiaaMyObL1. -/
import Derived.Test.YtenlmckahaniiaaMyObL1
